/- Texts of this seat, joined: The symbolic heap: the evaluator of one operation is sound. The symbolic heap: append, make, stores into slices; the evalu -/
import Derived.Test.YtgbeechjghajcaaGreatDoorJoinA
import Derived.ChangeKeysEq
set_option linter.unusedVariables false
set_option linter.unusedSimpArgs false
namespace Go.Fw
open Go
variable {P:Program}
set_option maxHeartbeats 4000000
section
variable {n:Nat} {F:Nat→Prop} {h0:Array Obj} {nx:Nat} {l:SFr} {H:SH} {o:Oper}
theorem aWT {x:Operand} {v:SV} (ho:o.op=.move x) (hx:evS l x=some v):cV P n F h0 l H o v H:=
 cV.of_plain fun E h S K a w ha=>by simp [execOp,ho,ha.ev (bT hx)]
theorem aOT {x:Operand} {v:SV} (ho:o.op=.assign x) (hx:evS l x=some v):cV P n F h0 l H o v H:=
 cV.of_plain fun E h S K a w ha=>by simp [execOp,ho,ha.ev (bT hx)]
theorem aNK {c x y:Operand} {b:Bool} {v:SV} (ho:o.op=.pick c x y) (hc:evS l c=some (.v (.bool b))) (hx:evS l (if b then x else y)=some v):cV P n F h0 l H o v H:=
 cV.of_plain fun E h S K a w ha=>by
  have h1:a.eval c=.bool b:=ha.ev (bT hc)
  have h2:=ha.ev (bT (E:=E) hx)
  cases b<;>simp at h2<;>simp [execOp,ho,h1,h2,asBool]
theorem aNR {t:Operand} {i:Nat} {vs:List SV} {v:SV} (ho:o.op=.extract t i) (ht:evS l t=some (.tup vs)) (hv:nth vs i=some v):cV P n F h0 l H o v H:=
 cV.of_plain fun E h S K a w ha=>by
  rw [iF] at hv
  have h1:=ha.ev (bT (E:=E) ht)
  simp only [SV.g] at h1
  simp [execOp,ho,h1,Instr.extract,vJ,hv]
theorem aLL (T:Tab P) {t:TypeId} {fs:List (Nat×Nat×Bool)} {f oo m:Nat} {q:Bool} (hu:bU T.und t=some (.struct fs)) (hn:nth fs f=some (oo,m,q)) (b off:Nat) (w:World):
  (Instr.fieldAt t (.pointer (some ⟨b,off,none⟩)) f).run P w=.ok (.pointer (some ⟨b,off+oo,none⟩)) w:=by
 have key:=aHZ T t (.pointer (some ⟨b,off,none⟩)) f w
 unfold aKI at key
 simp only [hu,hn] at key
 cases oo with
 |zero=>exact key
 |succ k=>exact key
theorem xP {t:TypeId} (T:Tab P) {x:Operand} {f oo m:Nat} {q:Bool} {fs:List (Nat×Nat×Bool)} (ho:o.op=.fieldAddr t x f) (hu:bU T.und t=some (.struct fs)) (hn:nth fs f=some (oo,m,q)) {y z:SV}
  (hx:evS l x=some y) (hyz:∀E,∃b off,y.g E=.pointer (some ⟨b,off,none⟩)∧z.g E=.pointer (some ⟨b,off+oo,none⟩)):cV P n F h0 l H o z H:=
 cV.of_plain fun E h S K a w ha=>by
  obtain ⟨b,off,e1,e2⟩:=hyz E
  have h1:=ha.ev (bT (E:=E) hx)
  rw [e1] at h1
  simp [execOp,ho,h1,aLL T hu hn,e2]
theorem aDY {t:TypeId} (T:Tab P) {x:Operand} {f:Nat} {cs:List SV} {z:SV} (ho:o.op=.field t x f) (hx:evS l x=some (.agg cs))
  (hz:∀E,wB T t (.agg (SV.gs E cs).toArray) f=.val (z.g E)):cV P n F h0 l H o z H:=
 cV.of_plain fun E h S K a w ha=>by
  have h1:=ha.ev (bT (E:=E) hx)
  simp only [SV.g] at h1
  have key:=aHU T t (.agg (SV.gs E cs).toArray) f w
  rw [hz E] at key
  simp only [Pu.ok] at key
  simp [execOp,ho,h1,key]
theorem aLM (T:Tab P) {t e sz:Nat} (hu:bU T.und t=some (.slice e sz)) (b off len cap:Nat) (k:IntKind) (i:Int) (hi:0≤i∧i<len) (w:World):
  (Instr.indexAt t (.slice (some ⟨b,off,none⟩) len cap) (.int k i)).run P w=.ok (.pointer (some ⟨b,off+i.toNat*sz,none⟩)) w:=by
 have key:=yT T t (.slice (some ⟨b,off,none⟩) len cap) (.int k i) w
 unfold zS at key
 simp only [hu] at key
 cases hb:Nat.beq sz 1 with
 |true=>
  have:=Nat.eq_of_beq_eq_true hb
  subst this
  simp only [hb] at key
  rw [Nat.mul_one];exact key hi
 |false=>simp only [hb] at key;exact key hi
theorem aSR (T:Tab P) {t e sz b:Nat} {x i:Operand} {k:IntKind} {j:Int} {rows:List (List Value)} (ho:o.op=.indexAddr t x i) (hx:evS l x=some (.buf b)) (hi:evS l i=some (.v (.int k j)))
  (hu:bU T.und t=some (.slice e sz)) (hr:rowsAt H b=some (sz,rows)) (hj:0≤j∧j<rows.length):cV P n F h0 l H o (.row b j 0 sz) H:=
 cV.of_plain fun E h S K a w ha=>by
  obtain ⟨h1,ad,cap,h2,h3⟩:=S.rowsAt hr
  have h4:=ha.ev (bT (E:=E) hx)
  have h5:=ha.ev (bT (E:=E) hi)
  simp only [SV.g] at h4 h5
  rcases h3 with rfl|⟨g,oo,rfl,_⟩
  ·simp at hj;omega
  have key:=aLM T hu g oo rows.length cap k j hj w
  rw [h2] at h4
  simp [execOp,ho,h4,h5,key,SV.g,h2,jH,ownB,aGN]
theorem aQL (T:Tab P) {t e sz b off len:Nat} {x i:Operand} {k:IntKind} {j:Int} (ho:o.op=.indexAddr t x i) (hx:evS l x=some (.ptr b off)) (hi:evS l i=some (.v (.int k j)))
  (hu:bU T.und t=some (.array len e sz)) (hj:0≤j∧j<len):cV P n F h0 l H o (.ptr b (off+j.toNat*sz)) H:=
 cV.of_plain fun E h S K a w ha=>by
  have h4:=ha.ev (bT (E:=E) hx)
  have h5:=ha.ev (bT (E:=E) hi)
  simp only [SV.g] at h4 h5
  have key:=yT T t (.pointer (some ⟨jH (E b),off,none⟩)) (.int k j) w
  unfold zS at key
  simp only [hu] at key
  have:(Instr.indexAt t (.pointer (some ⟨jH (E b),off,none⟩)) (.int k j)).run P w=.ok (.pointer (some ⟨jH (E b),off+j.toNat*sz,none⟩)) w:=by
   cases hb:Nat.beq sz 1 with
   |true=>
    have:=Nat.eq_of_beq_eq_true hb
    subst this
    simp only [hb] at key
    rw [Nat.mul_one];exact key hj
   |false=>simp only [hb] at key;exact key hj
  simp [execOp,ho,h4,h5,this,SV.g]
theorem aQY {x:Operand} {y:SV} (ho:o.op=.nilCheck x) (hx:evS l x=some y) (hy:∀E,∃a,y.g E=.pointer (some a)):cV P n F h0 l H o y H:=
 cV.of_plain fun E h S K a w ha=>by
  obtain ⟨ad,e⟩:=hy E
  have h1:=ha.ev (bT (E:=E) hx)
  rw [e] at h1
  simp [execOp,ho,h1,e]
theorem aPC (T:Tab P) {t:TypeId} {u:UD} (hu:bU T.und t=some u) (hne:u ≠ .iface):∃d,P.underlying t=some d ∧ ∀ms,d ≠ .interface ms:=by
 have hk:=T.okU.look hu
 cases u<;>simp only [UD.ok] at hk
 case int k=>exact ⟨_,hk,by simp⟩
 case bool=>exact ⟨_,hk,by simp⟩
 case str=>exact ⟨_,hk,by simp⟩
 case slice e sz=>exact ⟨_,hk.1,by simp⟩
 case struct fs=>obtain ⟨q,hq,_⟩:=hk;exact ⟨_,hq,by simp⟩
 case map=>obtain ⟨k,e,hq⟩:=hk;exact ⟨_,hq,by simp⟩
 case ptr=>obtain ⟨e,hq⟩:=hk;exact ⟨_,hq,by simp⟩
 case func=>obtain ⟨_,_,_,hq⟩:=hk;exact ⟨_,hq,by simp⟩
 case iface=>exact absurd rfl hne
 case array n e sz=>exact ⟨_,hk.1,by simp⟩
 case other=>
  cases hq:P.underlying t with
  |none=>simp [hq] at hk
  |some d=>refine ⟨d,rfl,fun ms e=>?_⟩;subst e;simp [hq] at hk
theorem aTF (T:Tab P) {t:TypeId} {x:Operand} {y:SV} {u:UD} (ho:o.op=.makeInterface t x) (hx:evS l x=some y) (hu:bU T.und t=some u) (hne:u ≠ .iface):cV P n F h0 l H o (.ifc t y) H:=
 cV.of_plain fun E h S K a w ha=>by
  obtain ⟨d,hd,hni⟩:=aPC T hu hne
  have h1:=ha.ev (bT (E:=E) hx)
  simp only [execOp,ho,h1,Instr.makeInterface,SV.g]
  cases d<;>simp [run_underlying hd]<;>exact absurd rfl (hni _)
theorem aXG {f:Go.Fn} {first captured:Array Operand} {us vs:List SV} (ho:o.op=.makeFunc f first captured) (h1:kH l first.toList=some us) (h2:kH l captured.toList=some vs):cV P n F h0 l H o (.fn f us vs) H:=
 cV.of_plain fun E h S K a w ha=>by
  have e1:=oG ha (lE (E:=E) h1)
  have e2:=oG ha (lE (E:=E) h2)
  have e1':first.map a.eval=(SV.gs E us).toArray:=by apply Array.ext';simpa using e1
  have e2':captured.map a.eval=(SV.gs E vs).toArray:=by apply Array.ext';simpa using e2
  simp [execOp,ho,Instr.makeFunc,e1',e2',SV.g]
theorem Eff.toS {E:Env} {h:Array Obj} {x:SV} (hA:Sat E F H h) (hK:Kp F h0 h) (He:Eff P n (gF E l) h o (fun v h'=>v=x.g E∧h'=h)):Eff P n (gF E l) h o (fun v h'=>v=x.g E∧Sat E F H h'∧Kp F h0 h'):=
 He.mono fun v h' ⟨e1,e2⟩=>⟨e1,by rw [e2];exact hA,by rw [e2];exact hK⟩
theorem aWQ (T:Tab P) {t t':TypeId} {x:Operand} {b off:Nat} {cs:List SV} {v:SV} (ho:o.op=.load t x) (hx:evS l x=some (.ptr b off)) (hb:dE H b=some (.cells t' cs)) (ht:fY T t=true) (hv:nth cs off=some v):
  cV P n F h0 l H o v H:=cV.of_eff (by simp [kX,cN,dQ,ho]) fun E h S K=>by
 refine Eff.toS S K (aEE T (v:=v.g E) ?_ ho (bT hx) ht)
 obtain ⟨_,h2,_⟩:=S.cellsAt hb
 rw [iF] at hv
 rw [h2.cell];simp [vJ,hv]
theorem zE (E:Env) (cs:List SV) (off m j:Nat) {v:Value} (h:(SV.gs E ((cs.drop off).take m))[j]? = some v):(SV.gs E cs)[off+j]? = some v:=by
 simp only [aDI,aDR,List.getElem?_take,List.getElem?_drop] at h
 split at h
 ·exact h
 cases h
theorem aSP (T:Tab P) {t t':TypeId} {x:Operand} {b off:Nat} {cs:List SV} {i:Inf} (ho:o.op=.load t x) (hx:evS l x=some (.ptr b off)) (hb:dE H b=some (.cells t' cs)) (ht:xZ T t=true) (hi:eQ T.inf t=some i) (hle:off+i.size≤cs.length):
  cV P n F h0 l H o (.agg ((cs.drop off).take i.size)) H:=cV.of_eff (by simp [kX,cN,dQ,ho]) fun E h S K=>by
 obtain ⟨_,h2,_⟩:=S.cellsAt hb
 refine Eff.toS S K ((vQ T (vs:=SV.gs E ((cs.drop off).take i.size)) (fun j v hj=>?_) (by simp [kL];omega) ho (bT hx) ht hi))
 rw [h2.cell]
 simpa using zE E cs off i.size j hj
theorem aTV (T:Tab P) {t:TypeId} {x:Operand} {b off sz:Nat} {i:Int} {rows:List (List Value)} {row:List Value} {v:Value} (ho:o.op=.load t x) (hx:evS l x=some (.row b i off sz)) (hb:rowsAt H b=some (sz,rows)) (ht:fY T t=true) (hr:rows[i.toNat]? = some row) (hv:nth row off=some v):
  cV P n F h0 l H o (.v v) H:=cV.of_eff (by simp [kX,cN,dQ,ho]) fun E h S K=>by
 obtain ⟨h1,ad,cap,h2,h3⟩:=S.rowsAt hb
 rw [iF] at hv
 rcases h3 with rfl|⟨g,oo,rfl,h4⟩
 ·simp at hr
 have hx':=bT (E:=E) hx
 simp only [SV.g,h2,jH,ownB,aGN,Option.getD_some] at hx'
 refine Eff.toS S K (aEE T (b:=g) (off:=oo+i.toNat*sz+off) ?_ ho hx' ht)
 rw [Nat.add_assoc]
 exact h4 _ _ (tG h1 hr hv)
theorem aPU (T:Tab P) {t:TypeId} {x:Operand} {b off sz:Nat} {i:Int} {j:Inf} {rows:List (List Value)} {row:List Value} (ho:o.op=.load t x) (hx:evS l x=some (.row b i off sz)) (hb:rowsAt H b=some (sz,rows)) (ht:xZ T t=true) (hi:eQ T.inf t=some j) (hr:rows[i.toNat]? = some row) (hle:off+j.size≤row.length):
  cV P n F h0 l H o (.agg (toV ((row.drop off).take j.size))) H:=cV.of_eff (by simp [kX,cN,dQ,ho]) fun E h S K=>by
 obtain ⟨h1,ad,cap,h2,h3⟩:=S.rowsAt hb
 rcases h3 with rfl|⟨g,oo,rfl,h4⟩
 ·simp at hr
 have hx':=bT (E:=E) hx
 simp only [SV.g,h2,jH,ownB,aGN,Option.getD_some] at hx'
 have key:=vQ (n:=n) (h:=h) T (vs:=(row.drop off).take j.size) (b:=g) (off:=oo+i.toNat*sz+off) (fun q v hq=>?_) (by simp;omega) ho hx' ht hi
 ·refine Eff.toS S K (key.mono fun v h' ⟨e1,e2⟩=>⟨by rw [e1];simp only [SV.g,pV],e2⟩)
 have hq':row[off+q]? = some v:=by
  rw [List.getElem?_take] at hq
  split at hq
  ·simpa using hq
  cases hq
 have:=h4 _ _ (tG h1 hr hq')
 rw [show oo+i.toNat*sz+off+q=oo+(i.toNat*sz+(off+q)) by omega]
 exact this
theorem okS_old (T:Tab P) {t:TypeId} {x:Operand} {b off:Nat} {v:Value} (ho:o.op=.load t x) (hx:evS l x=some (.v (.pointer (some ⟨b,off,none⟩)))) (ht:fY T t=true) (hv:OldC F h0 b off v):
  cV P n F h0 l H o (.v v) H:=cV.of_eff (by simp [kX,cN,dQ,ho]) fun E h S K=>by
 refine Eff.toS S K (aEE T ?_ ho (bT hx) ht)
 have:=hv.2
 unfold eK at this ⊢
 rw [K.same b hv.1];exact this
theorem aWV (T:Tab P) {t:TypeId} {x:Operand} {b off:Nat} {vs:List Value} {i:Inf} (ho:o.op=.load t x) (hx:evS l x=some (.v (.pointer (some ⟨b,off,none⟩)))) (ht:xZ T t=true) (hi:eQ T.inf t=some i) (hlen:vs.length=i.size) (hv:aHS F h0 b off vs):
  cV P n F h0 l H o (.agg (toV vs)) H:=cV.of_eff (by simp [kX,cN,dQ,ho]) fun E h S K=>by
 refine Eff.toS S K ((vQ T (vs:=vs) (fun j v hj=>?_) hlen ho (bT hx) ht hi).mono fun v h' ⟨e1,e2⟩=>⟨by rw [e1];simp only [SV.g,pV],e2⟩)
 obtain ⟨h1,h2⟩:=hv j v hj
 unfold eK at h2 ⊢
 rw [K.same b h1];exact h2
theorem aSM (T:Tab P) {t t':TypeId} {x y:Operand} {b off:Nat} {cs xs:List SV} {v:SV} {i:Inf} (ho:o.op=.store t x y) (hx:evS l x=some (.ptr b off)) (hb:dE H b=some (.cells t' cs)) (hy:evS l y=some v) (hi:eQ T.inf t=some i)
  (hc:vK H v=some xs) (hlen:xs.length=i.size) (h1:aNN H xs=true) (hle:off+xs.length≤cs.length):cV P n F h0 l H o (.v undef) (rD H b (.cells t' (spl cs off xs))):=cV.of_eff (by simp [kX,cN,dQ,ho]) fun E h S K=>by
 obtain ⟨_,h2,_⟩:=S.cellsAt hb
 have hcv:=aBD S hc
 have key:=aGD (n:=n) T (v:=v.g E) h2 ho (bT hx) (bT hy) hi (by rw [hcv];simp [kL,hlen]) (by rw [hcv];simpa using aLH S h1) (by rw [hcv];simp [kL];omega)
 refine key.mono fun v' h' ⟨e1,e2⟩=>⟨e1,?_⟩
 have e3:h'=sL h (jH (E b)) (SV.gs E (spl cs off xs)).toArray t':=by
  rw [e2,hcv,aWD];simp [kL]
 rw [e3]
 exact S.putB K hb
theorem okS_box {t:TypeId} {x:Operand} {v:SV} {cs:List SV} (ho:o.op=.box t x) (hx:evS l x=some v) (hc:vK H v=some cs) (hb:bdH nx H=true) (hbs:SV.bds nx cs=true):
  aEY P n F h0 nx l H o (.ptr nx 0) ((nx,.cells t cs)::H):=fun E h S K=>
 (eff_box (v:=v.g E) ho (bT hx)).mono fun v' h' ⟨e1,e2⟩=>by
  obtain ⟨S',K'⟩:=S.newCells K hb t cs hbs _ (aBD S hc)
  refine ⟨_,jW E nx _,?_,by rw [e2];exact S',by rw [e2];exact K'⟩
  rw [e1];simp [SV.g,jS,jH,ownB]
theorem aSL (m:Nat):∀l:List Value,SV.bds m (toV l)=true
 | []=>rfl
 |x::xs=>by simp only [toV,SV.bds,SV.bd,aSL m xs]
theorem aTM (T:Tab P) {t:TypeId} {i:Inf} (ho:o.op=.alloc t) (hi:eQ T.inf t=some i) (hb:bdH nx H=true):
  aEY P n F h0 nx l H o (.ptr nx 0) ((nx,.cells t (toV i.zero.cells.toList))::H):=fun E h S K=>
 (aTW T ho hi).mono fun v' h' ⟨e1,e2⟩=>by
  obtain ⟨S',K'⟩:=S.newCells K hb t (toV i.zero.cells.toList) (aSL _ _) i.zero.cells (by rw [pV])
  refine ⟨_,jW E nx _,?_,by rw [e2];exact S',by rw [e2];exact K'⟩
  rw [e1];simp [SV.g,jS,jH,ownB]
theorem aIO {t:TypeId} {parts:Array (Nat×Operand)} {ps:List (Nat×SV)} {cs:List SV} (ho:o.op=.build t parts) (hp:tL l parts.toList=some ps) (hb:∀E h,Sat E F H h→P.built t (gP E ps)=some (SV.gs E cs).toArray):
  cV P n F h0 l H o (.agg cs) H:=cV.of_plain fun E h S K a w ha=>aNQ (hb E h S) ho (aBZ hp) a w ha
theorem aLR {fs:List Field} {xs:List (Nat×Nat×Bool)} (h:uY P fs xs):fs.mapM (fun f=>(P.info? f.type).map fun i=>(f.offset,i.size))=some (xs.map fun x=>(x.1,x.2.1)):=by
 induction fs generalizing xs with
 |nil=>cases xs with
  |nil=>rfl
  |cons=>exact h.elim
 |cons f fs ih=>cases xs with
  |nil=>exact h.elim
  |cons x xs=>
   obtain ⟨⟨h1,h2,_⟩,h3⟩:=h
   cases hi:P.info? f.type with
   |none=>simp [hi] at h2
   |some i=>
    simp only [hi,Option.map_some,Option.some.injEq] at h2
    simp [List.mapM_cons,hi,ih h3,h1,h2]
theorem aKJ (T:Tab P) {t:TypeId} {i:Inf} {fs:List (Nat×Nat×Bool)} (hi:eQ T.inf t=some i) (hu:bU T.und t=some (.struct fs)) (ps:List (Nat×Value)):
  P.built t ps=Instr.fill (fun k=>match nth fs k with|some (o,n,_)=>some (o,n)|none=>none) i.zero.cells ps:=by
 obtain ⟨j,q1,q2,q3,q4⟩:=T.okI.look hi
 obtain ⟨ar,h1,h2⟩:=T.okU.look hu
 unfold Program.built
 simp only [q1,h1,q2,aLR h2]
 congr 1
 funext k
 rw [iF]
 simp
 cases fs[k]? with
 |none=>rfl
 |some x=>rfl
theorem aMJ (T:Tab P) {t:TypeId} {i:Inf} {m e sz:Nat} (hi:eQ T.inf t=some i) (hu:bU T.und t=some (.array m e sz)) (ps:List (Nat×Value)):
  P.built t ps=Instr.fill (fun k=>some (k*sz,sz)) i.zero.cells ps:=by
 obtain ⟨j,q1,q2,q3,q4⟩:=T.okI.look hi
 obtain ⟨h1,h2⟩:=T.okU.look hu
 unfold Program.built
 cases he:P.info? e with
 |none=>simp [he] at h2
 |some ie=>
  simp only [he,Option.map_some,Option.some.injEq] at h2
  simp only [q1,h1,q2,he,h2]
theorem Sat.newOwn {E:Env} {h:Array Obj} (S:Sat E F H h) (K:Kp F h0 h) (hb:bdH nx H=true) {e sz cap:Nat} {rows:List (List Value)} {cur:Array Value} (hr:oU sz rows)
  (hm:rows.length≤cap) (hc:cap≤maxLen) (hs:cur.size=cap*sz) (ht:cur.toList.take (rows.length*sz)=rows.flatten):
  Sat (push E nx (.slice (some ⟨h.size,0,none⟩) rows.length cap)) F ((nx,.own e sz rows)::H) (h.push (.cells cur e (0,0)))∧Kp F h0 (h.push (.cells cur e (0,0))):=by
 obtain ⟨S',K'⟩:=S.pushB K (.cells cur e (0,0))
 have hlen:rows.flatten.length=rows.length*sz:=by
  clear ht hm
  induction rows with
  |nil=>simp
  |cons r rs ih=>simp [ih (fun q hq=>hr q (List.mem_cons_of_mem _ hq)),(hr r (List.mem_cons_self ..)).1,Nat.add_mul];omega
 refine ⟨S'.add hb ⟨hr,⟨hlen,.inr ⟨h.size,cap,cur,rfl,Nat.zero_le _,aGH _ _ _,hm,hc,hs,ht⟩⟩,fun g hg=>?_⟩ (fun _ p hp hw g hg e=>?_),K'⟩
 ·simp only [ownB,Option.some.injEq] at hg
  subst hg
  exact K.ge (Nat.le_refl _)
 have:=(Blk.lt (S.ok p hp) hw hg).1
 simp only [ownB,Option.some.injEq] at e
 omega
theorem aEI (T:Tab P) {t e sz m:Nat} {parts:Array (Nat×Operand)} {ps:List (Nat×SV)} {i:Inf} {cs:List SV} {vs:List Value} (ho:o.op=.buildSlice t m parts) (hu:bU T.und t=some (.slice e sz)) (hi:eQ T.inf e=some i) (hz:i.zero.cells.size=i.size)
  (hp:tL l parts.toList=some ps) (hle:Nat.ble (m*i.size) 16777216=true) (hf:aCO H (fun j=>some (j*i.size,i.size)) (toV (uE i.zero.cells.toList m)) ps=some cs) (hv:unV cs=some vs) (hlen:vs.length=m*i.size) (hm:m≤maxLen) (hv1:aAQ vs=true) (hb:bdH nx H=true):
  aEY P n F h0 nx l H o (.buf nx) ((nx,.own e i.size (tC i.size m vs))::H):=fun E h S K=>by
 obtain ⟨c1,c2,c3⟩:=aMB i.size m vs hlen
 have hfl:=aAJ S hf
 rw [pV,aPT E hv] at hfl
 have hfill:Instr.fill (fun j=>some (j*i.size,i.size)) ((Array.range (m*i.size)).map ((if m*i.size=0 then #[] else i.zero.cells)[· % (if m*i.size=0 then #[] else i.zero.cells).size]!)) (gP E ps)=some vs.toArray:=by
  have:=aQE i.zero.cells m
  rw [hz] at this
  rw [this];exact hfl
 refine (aDZ T ho hu hi (aBZ hp) hle hfill).mono fun v' h' ⟨e1,e2⟩=>?_
 obtain ⟨S',K'⟩:=S.newOwn (e:=e) (cap:=m) (cur:=vs.toArray) K hb (fun r hr=>⟨c1 r hr,fun u hu=>wC hv1 u (by rw [←c3];exact List.mem_flatten.2 ⟨r,hr,hu⟩)⟩) (by omega) hm (by simpa using hlen) (by rw [c2,c3];simp [←hlen])
 refine ⟨_,jW E nx _,?_,by rw [e2];exact S',by rw [e2];exact K'⟩
 rw [e1];simp [SV.g,jS,c2]
end
end Go.Fw

namespace Go.Fw
open Go
variable {P:Program}
set_option maxHeartbeats 8000000
section
variable {n:Nat} {F:Nat→Prop} {h0:Array Obj} {nx:Nat} {l:SFr} {H:SH} {o:Oper}
theorem aCF:maxLen=9223372036854775807:=rfl
theorem aEV (z:Array Value) (k m:Nat) (hkm:k≤m) (hz:0<z.size∨True):(madeCells z (m*z.size)).size=m*z.size∧(madeCells z (m*z.size)).toList.take (k*z.size)=(List.replicate k z.toList).flatten:=by
 have hsz:(madeCells z (m*z.size)).size=m*z.size:=by simp [madeCells]
 refine ⟨hsz,?_⟩
 rw [←aHW]
 apply List.ext_getElem?
 intro i
 by_cases hi:i<k*z.size
 ·have h1:=aCA z.toList k i (by simpa using hi)
  have hz:0<z.size:=Nat.pos_of_ne_zero (fun e=>by rw [e] at hi;simp at hi)
  have hlt:=Nat.mod_lt i hz
  have him:i<m*z.size:=Nat.lt_of_lt_of_le hi (Nat.mul_le_mul_right _ hkm)
  rw [List.getElem?_take_of_lt hi,h1]
  simp [madeCells,him,hlt]
 rw [List.getElem?_eq_none (by simp;omega),List.getElem?_eq_none (by rw [wZ];simpa using hi)]
theorem aWY (T:Tab P) {t e sz:Nat} {x y:Operand} {k1 k2:IntKind} {a m:Int} {i:Inf} (ho:o.op=.makeSlice t x y) (hx:evS l x=some (.v (.int k1 a))) (hy:evS l y=some (.v (.int k2 m))) (hu:bU T.und t=some (.slice e sz)) (hi:eQ T.inf e=some i)
  (hz:i.zero.cells.size=i.size) (hz1:aAQ i.zero.cells.toList=true) (hp:0≤a∧a≤m∧(i.bytes:Int)*m≤281474976710656∧m≤9223372036854775807) (hb:bdH nx H=true):
  aEY P n F h0 nx l H o (.buf nx) ((nx,.own e i.size (List.replicate a.toNat i.zero.cells.toList))::H):=fun E h S K=>by
 refine (aYY T ho (bT (E:=E) hx) (bT (E:=E) hy) hu hi hp).mono fun v' h' ⟨e1,e2⟩=>?_
 obtain ⟨q1,q2⟩:=aEV i.zero.cells a.toNat m.toNat (by omega) (.inr trivial)
 rw [hz] at q1 q2
 obtain ⟨S',K'⟩:=S.newOwn (e:=e) (sz:=i.size) (rows:=List.replicate a.toNat i.zero.cells.toList) (cap:=m.toNat) (cur:=madeCells i.zero.cells (m.toNat*i.size)) K hb
  (fun r hr=>by rw [List.eq_of_mem_replicate hr];exact ⟨by simpa using hz,wC hz1⟩) (by simp;omega) (by rw [aCF];omega) q1 (by rw [List.length_replicate];exact q2)
 refine ⟨_,jW E nx _,?_,by rw [e2];exact S',by rw [e2];exact K'⟩
 rw [e1];simp [SV.g,jS]
theorem okS_len (T:Tab P) {cl:Call} {t e sz b sz':Nat} {x:Operand} {rows:List (List Value)} (ho:o.op=.call cl) (hc:cl.callee=.builtin .len) (ha:cl.args.toList=[x]) (hts:cl.argTypes.toList=[t]) (hx:evS l x=some (.buf b)) (hu:bU T.und t=some (.slice e sz)) (hr:rowsAt H b=some (sz',rows)):
  cV P n F h0 l H o (.v (.int .i64 rows.length)) H:=
 cV.of_plain fun E h S K a w hh=>by
  obtain ⟨h1,ad,cap,h2,h3⟩:=S.rowsAt hr
  have h4:=hh.ev (bT (E:=E) hx)
  simp only [SV.g] at h4
  have e1:cl.args = #[x]:=by apply Array.ext';simpa using ha
  have e2:cl.argTypes = #[t]:=by apply Array.ext';simpa using hts
  have key:=aSH T t o.type (E b) w
  unfold lenP at key
  rw [h2] at key
  simp only [hu,Pu.ok] at key
  simp [execOp,ho,resolve,hc,e1,e2,invoke,builtin,h4,h2,key,SV.g]
theorem rC {sz:Nat}:∀ {rows:List (List Value)},oU sz rows→rows.flatten.length=rows.length*sz
 | [],_=>by simp
 |r::rs,h=>by
  have:=rC (rows:=rs) (fun q hq=>h q (List.mem_cons_of_mem _ hq))
  simp [this,(h r (List.mem_cons_self ..)).1,Nat.add_mul];omega
theorem aDH (w:World) {t ty e:TypeId} {i:TypeInfo} (ht:P.underlying t=some (.slice e)) (hi:P.info? e=some i) (a:Option Addr) (m c:Nat) (hmc:m≤c) (c2:Nat):
  (Builtin.append_ #[t,t] ty #[.slice a m c,.slice none 0 c2]).run P w=.ok (.slice a m c) w:=by
 cases a<;>simp [Builtin.append_,run_underlying ht,sizeOf,typeInfo,hi,Builtin.lenOf,Builtin.firstCells,loadCells,loadCellsFrom,hmc,storeCells]
theorem aGX (T:Tab P) {cl:Call} {t e sz:Nat} {x y:Operand} {i:Inf} {v:SV} {b2:Nat} {r:Option Nat} {rows rows2:List (List Value)} (ho:o.op=.call cl) (hc:cl.callee=.builtin .append) (ha:cl.args.toList=[x,y]) (hts:cl.argTypes.toList=[t,t])
  (hu:bU T.und t=some (.slice e sz)) (hi:eQ T.inf e=some i) (hz:i.zero.cells.size=i.size) (hsz:0<i.size) (hy:evS l y=some (.buf b2)) (hr2:rowsAt H b2=some (i.size,rows2)) (hx:evS l x=some v)
  (h1:∀E h,Sat E F H h→oU i.size rows∧Own 0 h e i.size (v.g E) rows.length rows.flatten ∧
   (∀g,ownB (v.g E)=some g → ¬F g ∧ ∃b,r=some b∧E b=v.g E ∧ ∃q,dE H b=some q∧wr q=true) )
  (hp:0<1∧rows.length+rows2.length≤9223372036854775807∧(rows.length+rows2.length)*i.bytes≤140737488355328) (hb:bdH nx H=true):
  aEY P n F h0 nx l H o (.buf nx) ((nx,.own e i.size (rows++rows2))::remO H r):=fun E h S K=>by
 obtain ⟨q1,q2,q3⟩:=h1 E h S
 obtain ⟨p1,ad,cap,p2,p3⟩:=S.rowsAt hr2
 have hx':=bT (E:=E) hx
 have hy':=bT (E:=E) hy
 simp only [SV.g] at hy'
 rw [p2] at hy'
 obtain ⟨j,w1,w2,w3,w4⟩:=T.okI.look hi
 intro a w hh hw next Q hn
 subst hw
 obtain ⟨c00,m00,hv00⟩:=q2.shape
 obtain ⟨v',w',r1,r2,r3,r5⟩:∃v' w',(Builtin.append_ #[t,t] o.type #[v.g E,.slice ad rows2.length cap]).run P w=.ok v' w'∧w'.ownsRow 0 e i.size v' (rows.length+rows2.length) (rows.flatten++rows2.flatten)∧w.grownBy w' (v.g E).ownBlock∧(v'.ownBlock=(v.g E).ownBlock∨v'.ownBlock=some w.heap.size):=by
  have kit:∀ad',(∀j u,rows2.flatten[j]? = some u→w.cell? (ad'.add j)=some u) → ∃v' w',(Builtin.append_ #[t,t] o.type #[v.g E,.slice (some ad') rows2.length cap]).run P w=.ok v' w'∧w'.ownsRow 0 e i.size v' (rows.length+rows2.length) (rows.flatten++rows2.flatten)∧w.grownBy w' (v.g E).ownBlock∧(v'.ownBlock=(v.g E).ownBlock∨v'.ownBlock=some w.heap.size):=fun ad' hcell=>by
   obtain ⟨v',w',r1,r2,r3,r4,r5⟩:=run_append_own_at (P:=P) w 0 t o.type e j i.zero i.size i.bytes (T.okU.look hu).1 w1 w2 w3 w4 hz hsz (v.g E) rows.length rows.flatten (aCG.1 q2)
    ad' rows2.length cap rows2.flatten (rC p1) hcell (fun u hu=>by
     obtain ⟨r,hr,hur⟩:=List.mem_flatten.1 hu;exact (p1 r hr).2 u hur) (by rw [aCF];omega) hp.2.2 (Nat.zero_le _)
   exact ⟨v',w',r1,r2,r3,r5⟩
  rcases p3 with rfl|⟨g,oo,rfl,p4⟩
  ·cases ad with
   |some ad'=>exact kit ad' (fun j u hu=>by simp at hu)
   |none=>
    have hmc:rows.length≤m00:=by
     obtain ⟨_,⟨h1,_⟩|⟨g,cap,cur,h1,_,_,hc,_⟩⟩:=q2
     ·rw [h1] at hv00
      injection hv00 with _ e2 e3
      omega
     rw [h1] at hv00
     injection hv00 with _ e2 e3
     omega
    rw [hv00]
    refine ⟨_,w,aDH w (T.okU.look hu).1 w1 c00 rows.length m00 hmc cap,?_,⟨rfl,rfl,rfl,Nat.le_refl _,fun _ _ _=>rfl⟩,.inl rfl⟩
    rw [←hv00]
    simpa using aCG.1 q2
  exact kit ⟨g,oo,none⟩ (fun j u hu=>by rw [jK];exact kT (p4 j u hu))
 have e1:cl.args = #[x,y]:=by apply Array.ext';simpa using ha
 have e2:cl.argTypes = #[t,t]:=by apply Array.ext';simpa using hts
 have hrun:(execOp a.eval o).run P w=.ok (.value v') w':=by
  simp [execOp,ho,resolve,hc,e1,e2,invoke,builtin,hh.ev hx',hh.ev hy',r1]
 unfold Oper.wp
 rw [hrun]
 refine hn v' w' ⟨r3.tape,r3.os,r3.output⟩ ⟨push E nx v',jW E nx _,by simp [SV.g,jS],?_⟩
 obtain ⟨c0,m0,hv0⟩:=q2.shape
 have hob:(v.g E).ownBlock=ownB (v.g E):=yF hv0
 have hown':Own 0 w'.heap e i.size v' (rows++rows2).length (rows++rows2).flatten:=by
  rw [List.length_append,List.flatten_append];exact aCG.2 r2
 obtain ⟨c1,m1,hv1⟩:=hown'.shape
 rw [yF hv1] at r5
 rw [hob] at r5 r3
 have hF:∀k,F k→w'.heap[k]? = w.heap[k]? :=fun k hk=>r3.block k (by have:=K.lt k hk;have:=K.size;omega) (fun e=>(q3 k e.symm).1 hk)
 have K':Kp F h0 w'.heap:=⟨Nat.le_trans K.size r3.size,fun k hk=>(hF k hk).trans (K.same k hk),K.lt⟩
 refine ⟨?_,K'⟩
 obtain ⟨H',hH'⟩:∃H',H'=remO H r:=⟨_,rfl⟩
 rw [←hH']
 have hsub:H'.Sublist H:=by rw [hH'];cases r;exact List.Sublist.refl _;exact pO _ _
 have hne:∀p∈H',wr p.2=true → ∀g,ownB (E p.1)=some g→ownB (v.g E)≠some g:=fun p hp hw g hg e=>by
  obtain ⟨b,hrb,hEb,q,hq,hwq⟩:=(q3 g e).2
  subst hrb
  rw [hH'] at hp
  have hpb:=aAX hp
  have hpm:p∈H:=(pO H b).subset hp
  have hqm:=cG hq
  have:=S.apart
  -- two entries of other names
  have key:∀ {L:SH},L.Pairwise (qC E)→p∈L→(b,q)∈L→ownB (E b)≠some g:=by
   intro L
   induction L with
   |nil=>intro _ h;cases h
   |cons x L ih=>
    intro hpw h1 h2
    obtain ⟨hx1,hx2⟩:=List.pairwise_cons.1 hpw
    rcases List.mem_cons.1 h1 with h1|h1
    ·rcases List.mem_cons.1 h2 with h2|h2
     ·exact absurd (by rw [h1,←h2]) hpb
     have:=hx1 _ h2
     rw [←h1] at this
     exact this hw hwq g hg
    rcases List.mem_cons.1 h2 with h2|h2
    ·have:=hx1 _ h1
     rw [←h2] at this
     intro e
     exact this hwq hw g e hg
    exact ih hx2 h1 h2
  rw [←hEb] at e
  exact key this hpm hqm e
 have S1:Sat E F H' w.heap:=S.sub hsub
 have S2:Sat E F H' w'.heap:=S1.keep (fun p hp hw g hg=>r3.block g (Blk.lt (S1.ok p hp) hw hg).1 (fun e=>hne p hp hw g hg e.symm)) hF
 have hb':bdH nx H'=true:=by
  rw [hH']
  cases r with
  |none=>exact hb
  |some b0=>
   clear hH' S1 S2 hne hsub q1 q2 q3 h1 hr2 S hn
   simp only [remO]
   induction H with
   |nil=>rfl
   |cons x H ih=>
    obtain ⟨s,z⟩:=x
    simp only [bdH] at hb
    cases hs:Nat.blt s nx with
    |false=>simp [hs] at hb
    |true=>
     cases hz:bdB nx z with
     |false=>simp [hs,hz] at hb
     |true=>
      simp only [hs,hz] at hb
      simp only [aDG]
      cases Nat.beq s b0 with
      |true=>exact ih hb
      |false=>simp only [bdH,hs,hz];exact ih hb
 refine S2.add hb' ⟨fun r hr=>?_,hown',fun g hg=>?_⟩ (fun _ p hp hw g hg e=>?_)
 ·rcases List.mem_append.1 hr with hr|hr
  ·exact q1 r hr
  exact p1 r hr
 ·rcases r5 with e|e
  ·rw [e] at hg;exact (q3 g hg).1
  rw [e] at hg;simp only [Option.some.injEq] at hg;subst hg;exact K.ge (Nat.le_refl _)
 rcases r5 with e5|e5
 ·rw [e5] at e;exact hne p hp hw g hg e
 rw [e5] at e
 simp only [Option.some.injEq] at e
 have:=(Blk.lt (S1.ok p hp) hw hg).1
 omega
theorem aDA {E:Env} {h:Array Obj} (S:Sat E F H h) {b e sz:Nat} {rows:List (List Value)} (hl:dE H b=some (.own e sz rows)):
  oU sz rows∧Own 0 h e sz (E b) rows.length rows.flatten ∧ ∀g,ownB (E b)=some g → ¬F g:=S.ok _ (cG hl)
theorem aEG {sz:Nat}:∀ {rows:List (List Value)} {i:Nat} {row row':List Value},oU sz rows→rows[i]? = some row→row'.length=sz→(rows.set i row').flatten=rows.flatten.take (i*sz)++row'++rows.flatten.drop (i*sz+sz)
 | [],i,row,row',_,h,_=>by simp at h
 |r::rs,0,row,row',hl,h,hx=>by
  have hr:=(hl r (List.mem_cons_self ..)).1
  simp only [List.set_cons_zero,List.flatten_cons,Nat.zero_mul,Nat.zero_add,List.take_zero,List.nil_append]
  rw [List.drop_append_of_le_length (by omega),List.drop_of_length_le (by omega)];rfl
 |r::rs,i+1,row,row',hl,h,hx=>by
  have hr:=(hl r (List.mem_cons_self ..)).1
  have ih:=aEG (fun q hq=>hl q (List.mem_cons_of_mem _ hq)) (show rs[i]? = some row by simpa using h) hx
  simp only [List.set_cons_succ,List.flatten_cons,ih]
  have e1:(i+1)*sz=r.length+i*sz:=by rw [hr,Nat.add_mul];omega
  have e2:(i+1)*sz+sz=r.length+(i*sz+sz):=by rw [hr,Nat.add_mul];omega
  have t1:r.take (r.length+i*sz)=r:=List.take_of_length_le (by omega)
  have t2:r.drop (r.length+(i*sz+sz))=[]:=List.drop_of_length_le (by omega)
  rw [e2,e1,List.take_append,List.drop_append,t1,t2,show r.length+i*sz - r.length=i*sz by omega,show r.length+(i*sz+sz) - r.length=i*sz+sz by omega]
  simp only [List.nil_append,List.append_assoc]
theorem aVS (T:Tab P) {t:TypeId} {x y:Operand} {b e off sz:Nat} {i:Int} {rows:List (List Value)} {row vals:List Value} {xs:List SV} {v:SV} {j:Inf} (ho:o.op=.store t x y) (hx:evS l x=some (.row b i off sz)) (hb:dE H b=some (.own e sz rows)) (hy:evS l y=some v) (hi:eQ T.inf t=some j)
  (hc:aCB v=some xs) (hu:unV xs=some vals) (hlen:vals.length=j.size) (h1:aAQ vals=true) (hle:off+vals.length≤sz) (hr:rows[i.toNat]? = some row):
  cV P n F h0 l H o (.v undef) (rD H b (.own e sz (rows.set i.toNat (aBK row off vals)))):=cV.of_eff (by simp [kX,cN,dQ,ho]) fun E h S K=>by
 obtain ⟨r1,r2,r3⟩:=aDA S hb
 have hrow:row∈rows:=List.mem_of_getElem? hr
 have hilt:i.toNat<rows.length:=(List.getElem?_eq_some_iff.1 hr).1
 obtain ⟨w1,⟨w2,w3⟩|⟨g,cap,cur,w2,_,w3,w4,w5,w6,w7⟩⟩:=r2
 ·omega
 have hx':=bT (E:=E) hx
 simp only [SV.g,w2,jH,ownB,aGN,Option.getD_some,Nat.zero_add] at hx'
 have hcv:(v.g E).cells=vals.toArray:=by rw [aIY E hc,aPT E hu]
 have hmul:(i.toNat+1)*sz≤rows.length*sz:=Nat.mul_le_mul_right _ hilt
 rw [Nat.add_mul,Nat.one_mul] at hmul
 have hcap:rows.length*sz≤cap*sz:=Nat.mul_le_mul_right _ w4
 have key:=aGD (n:=n) T (v:=v.g E) w3 ho hx' (bT hy) hi (by rw [hcv];simpa using hlen) (by rw [hcv];simpa using wC h1) (by rw [hcv];simp;omega)
 refine key.mono fun v' h' ⟨e1,e2⟩=>⟨e1,?_⟩
 rw [hcv] at e2
 simp only [List.size_toArray] at e2
 obtain ⟨cur',hcur'⟩:∃c,c=(cur.toList.take (i.toNat*sz+off)++vals++cur.toList.drop (i.toNat*sz+off+vals.length)).toArray:=⟨_,rfl⟩
 rw [←hcur'] at e2
 subst e2
 have hF:∀k,F k→(sL h g cur' e)[k]? = h[k]? :=fun k hk=>tY (fun e=>r3 g (by rw [w2];rfl) (by rw [←e];exact hk)) _ _
 have hsl:(aBK row off vals).length=sz:=by
  have:=(r1 row hrow).1
  simp [aBK];omega
 obtain ⟨A,hA⟩:∃A,A=rows.flatten.take (i.toNat*sz):=⟨_,rfl⟩
 obtain ⟨B,hB⟩:∃B,B=rows.flatten.drop (i.toNat*sz+sz):=⟨_,rfl⟩
 obtain ⟨D,hD⟩:∃D,D=cur.toList.drop (rows.length*sz):=⟨_,rfl⟩
 have hflat:rows.flatten=A++row++B:=by
  have:=aEG r1 hr (r1 row hrow).1
  have h2:rows.set i.toNat row=rows:=by
   apply List.ext_getElem?
   intro q
   rw [List.getElem?_set]
   split
   ·rename_i hq;subst hq;simp [hilt];rw [List.getElem?_eq_getElem hilt] at hr;exact (Option.some.inj hr).symm
   rfl
  rw [h2] at this
  rw [hA,hB];exact this
 have hAl:A.length=i.toNat*sz:=by rw [hA,List.length_take,rC r1];omega
 have hC:cur.toList=A++(row++(B++D)):=by
  have:=List.take_append_drop (rows.length*sz) cur.toList
  rw [←this,w7,hflat,hD];simp
 have hC':(cur.toList.take (i.toNat*sz+off)++vals++cur.toList.drop (i.toNat*sz+off+vals.length))=A++(aBK row off vals++(B++D)):=by
  have hrl:=(r1 row hrow).1
  have t1:A.take (i.toNat*sz+off)=A:=List.take_of_length_le (by omega)
  have t2:A.drop (i.toNat*sz+off+vals.length)=[]:=List.drop_of_length_le (by omega)
  rw [hC,List.take_append,List.drop_append,t1,t2,hAl,show i.toNat*sz+off - i.toNat*sz=off by omega,show i.toNat*sz+off+vals.length - i.toNat*sz=off+vals.length by omega,
   List.take_append_of_le_length (by omega),List.drop_append_of_le_length (by omega)]
  simp [aBK]
 have hrok:oU sz (rows.set i.toNat (aBK row off vals)):=fun r hr'=>by
  rcases List.mem_or_eq_of_mem_set hr' with h2|rfl
  ·exact r1 r h2
  refine ⟨hsl,fun u hu=>?_⟩
  simp only [aBK,List.mem_append] at hu
  rcases hu with (hu|hu)|hu
  ·exact (r1 row hrow).2 u (List.mem_of_mem_take hu)
  ·exact wC h1 u hu
  exact (r1 row hrow).2 u (List.mem_of_mem_drop hu)
 have hy':(Blk.own e sz (rows.set i.toNat (aBK row off vals))).ok E F (sL h g cur' e) (E b):=by
  refine ⟨hrok,⟨rC hrok,.inr ⟨g,cap,cur',by rw [w2];simp,Nat.zero_le _,xA w3.lt _ _,by simpa using w4,w5,?_,?_⟩⟩,r3⟩
  ·rw [hcur',hC'];simp only [List.size_toArray,List.length_append,hsl,hAl];have:=congrArg List.length hC;simp only [List.length_append,hAl] at this;have hrl:=(r1 row hrow).1;rw [Array.length_toList] at this;omega
  rw [aEG r1 hr hsl,List.length_set,hcur',hC',←hA,←hB]
  have:A++(aBK row off vals++(B++D))=(A++aBK row off vals++B)++D:=by simp
  rw [this]
  have hl2:(A++aBK row off vals++B).length=rows.length*sz:=by
   have h3:=congrArg List.length hflat
   simp only [List.length_append,hsl,hAl,(r1 row hrow).1,rC r1] at h3 ⊢
   omega
  rw [←hl2,List.take_left']
  rfl
 have hob:ownB (E b)=some g:=by rw [w2];rfl
 exact ⟨Sat.set (x:=.own e sz rows) rfl rfl hy' hF (fun k hk=>.inl (tY (fun e=>hk (by rw [hob,e])) _ _)) S hb,⟨by simpa [sL] using K.size,fun k hk=>(hF k hk).trans (K.same k hk),K.lt⟩⟩
theorem aNT (ns:List Int):∀(r:ByteArray),ns.foldl (fun r (n:Int)=>r.push (UInt8.ofNat n.toNat)) r=⟨r.data++(ns.map fun (i:Int)=>UInt8.ofNat i.toNat).toArray⟩:=by
 induction ns with
 |nil=>intro r;simp
 |cons q ns ih=>
  intro r
  simp only [List.foldl_cons,ih]
  apply ByteArray.ext
  apply Array.ext'
  simp [ByteArray.push]
theorem aHG (is:List Int):(kA is).flatten=is.map (Value.int .u8):=by
 induction is with
 |nil=>rfl
 |cons i is ih=>simp only [kA,List.map_cons,List.flatten_cons,List.singleton_append] at ih ⊢;rw [ih]
theorem aTT (T:Tab P) {t t2 e sz b:Nat} {x:Operand} {is:List Int} (ho:o.op=.convert t t2 x) (hx:evS l x=some (.buf b)) (hu:bU T.und t=some (.slice e sz)) (he:bU T.und e=some (.int .u8)) (ht2:bU T.und t2=some .str)
  (hr:rowsAt H b=some (1,kA is)):EffL P n F h0 l H o (.v (.string (aJY is))) H:=fun E h S K=>by
 refine Eff.toS S K ?_
 obtain ⟨h1,ad,cap,h2,h3⟩:=S.rowsAt hr
 have hx':=bT (E:=E) hx
 simp only [SV.g] at hx'
 rw [h2] at hx'
 refine Eff.of_val1 fun a w ha hh=>⟨w,?_,fL.refl w,hh⟩
 have hlen:(kA is).length=is.length:=by simp [kA]
 have h4:=run_convert_bytes_string (P:=P) w t t2 e ad (kA is).length cap (T.okU.look hu).1 (T.okU.look he) (T.okU.look ht2)
 rcases h3 with h3|⟨g,oo,rfl,h5⟩
 ·have:is=[]:=by cases is with
   |nil=>rfl
   |cons=>simp [kA] at h3
  subst this
  have h0:(kA []).length=0:=rfl
  rw [h0] at h4 hx'
  have h6:(Conv.bytesToString (.slice ad 0 cap)).run P w=.ok (.string ByteArray.empty) w:=by
   cases ad with
   |none=>simp [Conv.bytesToString]
   |some ad=>
    have hl:=run_loadCells_list (P:=P) w ad [] (fun j v hj=>by simp at hj)
    simpa using run_bytesToString (P:=P) w ad 0 cap [] hl
  have e3:(ByteArray.empty:ByteArray)=aJY []:=rfl
  rw [e3] at h6
  simp [execOp,ho,ha.ev hx',h4,h6,SV.g]
 rw [aHG] at h5
 have hl:=run_loadCells_list (P:=P) w ⟨g,oo,none⟩ (is.map (Value.int .u8)) (fun j u hu=>by rw [jK];exact kT (hh▸h5 j u hu))
 rw [List.length_map] at hl
 have h6:=run_bytesToString (P:=P) w ⟨g,oo,none⟩ (kA is).length cap is (by rw [hlen];exact hl)
 rw [aNT] at h6
 have e3:(⟨ByteArray.empty.data++(is.map fun (i:Int)=>UInt8.ofNat i.toNat).toArray⟩:ByteArray)=aJY is:=by
  apply ByteArray.ext;apply Array.ext';simp [aJY]
 rw [e3] at h6
 simp [execOp,ho,ha.ev hx',h4,h6,SV.g]
/-! structs compared -/
theorem rT (E:Env) {x:SV} {cs:List SV} (h:tK x=some cs):x.g E=.agg (SV.gs E cs).toArray:=by
 cases x with
 |agg c=>simp only [tK,Option.some.injEq] at h;subst h;rfl
 |v y=>cases y<;>simp only [tK] at h<;>first|(cases h;done)|(simp only [Option.some.injEq] at h;subst h;simp [SV.g,pV])
 |_=>simp [tK] at h
theorem aOX (E:Env) {k:Nat} {x y:SV} {D:DP} (he:sA k x y=some D) {t:TypeId} (hk:aDJ P t k=true) (d:Nat) (w:World):
  (isAgg t).run P w=.ok false w∧(Op.equalIn (d+1) t (x.g E) (y.g E)).run P w=.ok (@decide D.p D.d) w:=by
 unfold aDJ at hk
 split at hk
 ·rename_i ht
  have:=Nat.eq_of_beq_eq_true hk
  subst this
  simp only [sA] at he
  split at he
  ·split at he
   ·simp only [Option.some.injEq] at he
    subst he
    refine ⟨by simp [isAgg,run_underlying ht],?_⟩
    simp only [SV.g]
    rw [run_equalIn_bool' w d t _ _ ht]
    rename_i a _ b
    cases a<;>cases b<;>rfl
   cases he
  cases he
 ·rename_i ht
  have:=Nat.eq_of_beq_eq_true hk
  subst this
  simp only [sA] at he
  split at he
  ·split at he
   ·split at he
    ·rename_i hs
     obtain rfl:=aSI hs
     simp only [Option.some.injEq] at he
     subst he
     refine ⟨by simp [isAgg,run_underlying ht],?_⟩
     simp only [SV.g]
     rw [run_equalIn_int w d t _ _ _ _ ht]
     rename_i a _ b _
     by_cases h:a=b<;>simp [h]
    cases he
   cases he
  cases he
 ·rename_i ht
  have:=Nat.eq_of_beq_eq_true hk
  subst this
  simp only [sA] at he
  split at he
  ·split at he
   ·simp only [Option.some.injEq] at he
    subst he
    refine ⟨by simp [isAgg,run_underlying ht],?_⟩
    simp only [SV.g]
    rw [run_equalIn_string w d t _ _ ht,ba_eq]
   cases he
  cases he
 cases hk
def DP.b (D:DP):Bool:=@decide D.p D.d
def eqL:List Nat→List SV→List SV→Option Bool
 | [],[],[]=>some true
 |k::ks,x::xs,y::ys=>match sA k x y with
  |some D=>match eqL ks xs ys with
   |some b=>some (D.b&&b)
   |none=>none
  |none=>none
 |_,_,_=>none
theorem aZB:∀ {ks:List Nat} {xs ys:List SV} {D:DP},oY ks xs ys=some D→eqL ks xs ys=some D.b
 | [],[],[],D,h=>by simp only [oY,Option.some.injEq] at h;subst h;rfl
 | [],[],_::_,_,h=>by simp [oY] at h
 | [],_::_,_,_,h=>by simp [oY] at h
 |_::_,[],_,_,h=>by simp [oY] at h
 |_::_,_::_,[],_,h=>by simp [oY] at h
 |k::ks,x::xs,y::ys,D,h=>by
  simp only [oY] at h
  simp only [eqL]
  cases hc:sA k x y with
  |none=>simp [hc] at h
  |some C=>
   obtain ⟨p,ip⟩:=C
   simp only [hc] at h ⊢
   cases ks with
   |nil=>
    cases xs with
    |cons=>simp at h
    |nil=>
     cases ys with
     |cons=>simp at h
     |nil=>
      simp only [Option.some.injEq] at h
      subst h
      simp [eqL]
   |cons k' ks'=>
    simp only at h
    cases hr:oY (k'::ks') xs ys with
    |none=>simp [hr] at h
    |some R=>
     obtain ⟨q,iq⟩:=R
     simp only [hr,Option.some.injEq] at h
     subst h
     rw [aZB hr]
     simp only [DP.b,Option.some.injEq]
     by_cases hp:p<;>by_cases hq:q<;>simp [hp,hq]
theorem zX:∀ {ks:List Nat} {xs ys:List SV} {b:Bool},eqL ks xs ys=some b→xs.length=ks.length∧ys.length=ks.length
 | [],[],[],_,_=>⟨rfl,rfl⟩
 | [],[],_::_,_,h=>by simp [eqL] at h
 | [],_::_,_,_,h=>by simp [eqL] at h
 |_::_,[],_,_,h=>by simp [eqL] at h
 |_::_,_::_,[],_,h=>by simp [eqL] at h
 |k::ks,x::xs,y::ys,b,h=>by
  simp only [eqL] at h
  cases hc:sA k x y with
  |none=>simp [hc] at h
  |some C=>
   cases hr:eqL ks xs ys with
   |none=>simp [hc,hr] at h
   |some q=>
    have:=zX hr
    simp [this.1,this.2]
theorem aIE:∀ {k1 k2:List Nat} {xs ys:List SV} {b:Bool},eqL (k1++k2) xs ys=some b → ∃x1 x2 y1 y2 b1 b2,xs=x1++x2∧ys=y1++y2∧eqL k1 x1 y1=some b1∧eqL k2 x2 y2=some b2∧b=(b1&&b2)
 | [],k2,xs,ys,b,h=>⟨[],xs,[],ys,true,b,rfl,rfl,rfl,h,by simp⟩
 |k::k1,k2,[],_,_,h=>by simp [eqL] at h
 |k::k1,k2,_::_,[],_,h=>by simp [eqL] at h
 |k::k1,k2,x::xs,y::ys,b,h=>by
  simp only [List.cons_append,eqL] at h
  cases hc:sA k x y with
  |none=>simp [hc] at h
  |some C=>
   cases hr:eqL (k1++k2) xs ys with
   |none=>simp [hc,hr] at h
   |some q=>
    simp only [hc,hr,Option.some.injEq] at h
    subst h
    obtain ⟨x1,x2,y1,y2,b1,b2,rfl,rfl,h1,h2,rfl⟩:=aIE hr
    refine ⟨x::x1,x2,y::y1,y2,C.b&&b1,b2,rfl,rfl,?_,h2,by simp [Bool.and_assoc]⟩
    simp only [eqL,hc,h1]
def vT (E:Env) (agg:Bool) (xs:List SV):Value:=match agg with
 |true=>.agg (SV.gs E xs).toArray
 |false=>match xs with
  |x::_=>x.g E
  | []=>undef
def EqTo (P:Program) (E:Env) (d:Nat) (t:TypeId) (kt:List Nat):Prop:=
 ∀(m:Nat) (w:World) (xs ys:List SV) (b:Bool),eqL kt xs ys=some b →
  (isAgg t).run P w=.ok (aBJ P t) w∧(aBJ P t=false→kt.length=1)∧(Op.equalIn (m+d+1) t (vT E (aBJ P t) xs) (vT E (aBJ P t) ys)).run P w=.ok b w
theorem aOE (E:Env) (d:Nat) {t:TypeId} {ks r:List Nat} (h:eqSB P t ks=some r):∃kt,ks=kt++r∧EqTo P E d t kt:=by
 cases ks with
 |nil=>cases h
 |cons k ks=>
  simp only [eqSB] at h
  split at h
  ·rename_i hk
   cases h
   refine ⟨[k],rfl,fun m w xs ys b hb=>?_⟩
   have hag:aBJ P t=false:=by
    unfold aDJ at hk
    unfold aBJ
    split at hk<;>first|(rename_i ht;rw [ht];done)|(rename_i ht;simp [ht])|cases hk
   match xs,ys,hb with
   | [x],[y],hb=>
    simp only [eqL] at hb
    cases hc:sA k x y with
    |none=>simp [hc] at hb
    |some D=>
     simp only [hc,Bool.and_true,Option.some.injEq] at hb
     subst hb
     obtain ⟨h1,h2⟩:=aOX (P:=P) E hc hk (m+d) w
     rw [hag]
     exact ⟨h1,fun _=>rfl,h2⟩
   | [],[],hb=>simp [eqL] at hb
   | [],_::_,hb=>simp [eqL] at hb
   |_::_,[],hb=>simp [eqL] at hb
   |_::_::_,[_],hb=>have:=zX hb;simp at this
   | [_],_::_::_,hb=>have:=zX hb;simp at this
   |_::_::_,_::_::_,hb=>have:=zX hb;simp at this
  cases h
theorem aOL (E:Env) {t:TypeId} {X x1 x2:List SV} {i:Nat} (hX:X.drop i=x1++x2) (hs:(P.info? t).map (·.size)=some x1.length) (w:World) (ha:(isAgg t).run P w=.ok (aBJ P t) w) (h1:aBJ P t=false→x1.length=1):
  (part t (SV.gs E X).toArray i).run P w=.ok (vT E (aBJ P t) x1) w:=by
 simp only [part,Sem.run_bind,ha,Result.andThen_ok]
 cases hag:aBJ P t with
 |true=>
  simp only [if_true,Sem.run_bind,iE hs,Result.andThen_ok,Sem.run_pure,vT]
  congr 2
  have hl:i+x1.length≤X.length∨x1=[]:=by
   have:=congrArg List.length hX
   rw [List.length_drop,List.length_append] at this
   rcases Nat.lt_or_ge i X.length with h|h
   ·left;omega
   right;exact List.eq_nil_of_length_eq_zero (by omega)
  apply Array.ext'
  simp only [List.extract_toArray,List.extract_eq_take_drop]
  rw [←aDR,←aDI,hX,show i+x1.length - i=x1.length by omega,List.take_left]
 |false=>
  simp only [Bool.false_eq_true,if_false]
  obtain ⟨x,rfl⟩:∃x,x1=[x]:=by
   have:=h1 hag
   match x1,this with
   | [x],_=>exact ⟨x,rfl⟩
  have hx:X[i]? = some x:=by
   have:=congrArg (·[0]?) hX
   simpa using this
  have:(SV.gs E X).toArray[i]? = some (x.g E):=by simp [vJ,hx]
  simp [this,vT]
theorem aIJ (E:Env) (d:Nat) (H:∀ {t:TypeId} {ks r:List Nat},eqTB P d t ks=some r → ∃kt,ks=kt++r∧EqTo P E d t kt):∀ {fs:List Field} {i:Nat} {ks r:List Nat},aMF P (eqTB P d) fs i ks=some r →
  ∃kt,ks=kt++r ∧ ∀(m:Nat) (w:World) (X Y xs ys X' Y':List SV) (b:Bool),eqL kt xs ys=some b→X.drop i=xs++X'→Y.drop i=ys++Y' →
   (Op.eqFields (m+d+1) (SV.gs E X).toArray (SV.gs E Y).toArray fs).run P w=.ok b w
 | [],i,ks,r,h=>by
  simp only [aMF,Option.some.injEq] at h
  subst h
  refine ⟨[],rfl,fun m w X Y xs ys X' Y' b hb _ _=>?_⟩
  match xs,ys,hb with
  | [],[],hb=>simp only [eqL,Option.some.injEq] at hb;subst hb;simp [Op.eqFields]
  | [],_::_,hb=>simp [eqL] at hb
  |_::_,[],hb=>simp [eqL] at hb
  |_::_,_::_,hb=>simp [eqL] at hb
 |f::fs,i,ks,r,h=>by
  simp only [aMF] at h
  split at h
  ·cases h
  rename_i hno
  simp only [Bool.and_eq_true,decide_eq_true_eq] at hno
  obtain ⟨n1,n2⟩:=hno
  split at h
  ·cases h
  rename_i r1 hr1
  split at h
  ·cases h
  rename_i hsz
  simp only [decide_eq_true_eq] at hsz
  obtain ⟨kt1,e1,T1⟩:=H hr1
  obtain ⟨kt2,e2,T2⟩:=aIJ E d H h
  have hlen:ks.length - r1.length=kt1.length:=by rw [e1,List.length_append];omega
  rw [hlen] at hsz T2
  refine ⟨kt1++kt2,by rw [e1,e2,List.append_assoc],fun m w X Y xs ys X' Y' b hb hX hY=>?_⟩
  obtain ⟨x1,x2,y1,y2,b1,b2,rfl,rfl,q1,q2,rfl⟩:=aIE hb
  obtain ⟨l1,l2⟩:=zX q1
  obtain ⟨a1,a2,a3⟩:=T1 m w x1 y1 b1 q1
  rw [List.append_assoc] at hX hY
  have p1:=aOL (P:=P) E hX (by rw [hsz,l1]) w a1 (fun e=>by rw [l1];exact a2 e)
  have p2:=aOL (P:=P) E hY (by rw [hsz,l2]) w a1 (fun e=>by rw [l2];exact a2 e)
  have hX2:X.drop (i+kt1.length)=x2++X':=by rw [←List.drop_drop,hX,←l1,List.drop_left]
  have hY2:Y.drop (i+kt1.length)=y2++Y':=by rw [←List.drop_drop,hY,←l2,List.drop_left]
  have rest:=T2 m w X Y x2 y2 X' Y' b2 q2 hX2 hY2
  rw [←n2] at p1 p2
  simp only [Op.eqFields,n1,ne_eq,not_false_eq_true,if_true,Sem.run_bind,p1,p2,a3,Result.andThen_ok]
  cases b1 with
  |true=>simp [rest]
  |false=>simp
theorem aOO (E:Env):∀(d:Nat) {t:TypeId} {ks r:List Nat},eqTB P d t ks=some r → ∃kt,ks=kt++r∧EqTo P E d t kt
 |0,t,ks,r,h=>aOE E 0 h
 |d+1,t,ks,r,h=>by
  simp only [eqTB] at h
  split at h
  ·rename_i fs ht
   split at h
   ·cases h
   rename_i hst
   obtain ⟨kt,e,T⟩:=aIJ E d (fun h=>aOO E d h) h
   have hag:aBJ P t=true:=by unfold aBJ;rw [ht]
   have hfo:P.fieldsOf t=fs:=by unfold Program.fieldsOf;rw [ht]
   refine ⟨kt,e,fun m w xs ys b hb=>⟨?_,(fun e=>(by rw [hag] at e;cases e)),?_⟩⟩
   ·rw [hag];simp [isAgg,run_underlying ht]
   rw [hag]
   simp only [vT]
   rw [show m+(d+1)+1=(m+d+1)+1 by omega,run_equalIn_agg w (m+d+1) t _ _ (by rw [hfo];exact ht) hst,hfo]
   exact T m w xs ys xs ys [] [] b hb (by simp) (by simp)
  exact aOE E (d+1) h
theorem eqA_ok (T:Tab P) {bop:BinOp} {t yt:TypeId} {x y:Operand} {a b:SV} (ho:o.op=.binOp bop t x y yt) (hx:evS l x=some a) (hy:evS l y=some b):(eqA T bop t a b).ok P n F h0 nx l H o:=by
 unfold eqA
 split
 ·rename_i ks hks
  split
  ·rename_i xs hxs
   split
   ·rename_i ys hys
    split
    ·rename_i p i he
     have hok:=T.okE.look hks
     unfold aRI at hok
     simp only [Bool.and_eq_true,Bool.not_eq_true',decide_eq_true_eq] at hok
     obtain ⟨⟨h1,h2⟩,h3⟩:=hok
     have key:∀(E:Env) (w:World),(Op.equalIn 10000 t (.agg (SV.gs E xs).toArray) (.agg (SV.gs E ys).toArray)).run P w=.ok (@decide p i) w:=fun E w=>by
      obtain ⟨kt,e,T⟩:=aOO (P:=P) E 8 h2
      rw [List.append_nil] at e
      subst e
      have:=(T 9991 w xs ys _ (aZB he)).2.2
      rw [h1] at this
      exact this
     split
     ·refine cV.of_plain fun E h S K a' w ha=>?_
      have ex:=ha.ev (bT (E:=E) hx)
      have ey:=ha.ev (bT (E:=E) hy)
      rw [rT E hxs] at ex
      rw [rT E hys] at ey
      simp [execOp,ho,ex,ey,run_eqGuard_agg w .eql t x y _ _ h3,run_eql_struct,key E w,SV.g]
     ·refine cV.of_plain fun E h S K a' w ha=>?_
      have ex:=ha.ev (bT (E:=E) hx)
      have ey:=ha.ev (bT (E:=E) hy)
      rw [rT E hxs] at ex
      rw [rT E hys] at ey
      simp [execOp,ho,ex,ey,run_eqGuard_agg w .neq t x y _ _ h3,run_neq_struct,key E w,SV.g]
     trivial
    trivial
   trivial
  trivial
 trivial
theorem okS_rem {t yt:TypeId} {x y:Operand} {m n' r:Int} (ho:o.op=.binOp .rem t x y yt) (hx:evS l x=some (.v (.int .i64 m))) (hy:evS l y=some (.v (.int .i64 n'))) (hr:aOF m n' r):cV P n F h0 l H o (.v (.int .i64 r)) H:=
 cV.of_plain fun E h S K a w ha=>by
  have h1:=ha.ev (bT (E:=E) hx)
  have h2:=ha.ev (bT (E:=E) hy)
  simp only [SV.g] at h1 h2
  simp [execOp,ho,h1,h2,eqGuard,binOp,Op.intDiv,hr.1,hr.2,SV.g]
end
end Go.Fw

namespace Go.Fw
open Go
variable {P:Program}
set_option maxHeartbeats 16000000
theorem jV.take {F:Nat→Prop} {h:Array Obj} {a:Option Addr} {rows:List (List Value)} (H:jV F h a rows) (n:Nat):jV F h a (rows.take n):=by
 rcases H with H|⟨g,o,h1,h2,h3⟩
 ·exact .inl (by rw [H];simp)
 refine .inr ⟨g,o,h1,h2,fun j v hj=>h3 j v ?_⟩
 have e:rows.flatten=(rows.take n).flatten++(rows.drop n).flatten:=by rw [←List.flatten_append,List.take_append_drop]
 rw [e,List.getElem?_append_left (List.getElem?_eq_some_iff.1 hj).1]
 exact hj
theorem aNG (w:World) {t e:TypeId} {sz:Nat} (ht:P.underlying t=some (.slice e)) (hs:(P.info? e).map (·.size)=some sz) (a:Option Addr) (m c:Nat) (k:IntKind) (n:Int) (hn:0≤n∧n≤c):
  (Instr.slice t (.slice a m c) none (some (.int k n)) none).run P w=.ok (.slice a n.toNat c) w:=by
 simp only [Instr.slice,Sem.run_bind,run_underlying ht,Result.andThen_ok,Instr.sliceBounds,Instr.sliceBound,asIntOf,Sem.run_pure,hn,and_self,if_true,iE hs]
 by_cases hc:c=0
 ·subst hc;simp
 simp only [hc,if_false,Nat.zero_mul,Nat.sub_zero]
 cases a with
 |none=>rfl
 |some x=>rfl
theorem jV.drop {F:Nat→Prop} {h:Array Obj} {a:Option Addr} {rows:List (List Value)} {sz:Nat} (hr:oU sz rows) (H:jV F h a rows) (n:Nat):jV F h (a.map (·.add (n*sz))) (rows.drop n):=by
 by_cases hn:n<rows.length
 ·rcases H with H|⟨g,o,h1,h2,h3⟩
  ·rw [H] at hn;cases hn
  refine .inr ⟨g,o+n*sz,by rw [h1,Option.map_some,jK],h2,fun j v hj=>?_⟩
  have e:rows.flatten=(rows.take n).flatten++(rows.drop n).flatten:=by rw [←List.flatten_append,List.take_append_drop]
  have hl:(rows.take n).flatten.length=n*sz:=by rw [rC (sz:=sz) (fun r h=>hr r (List.mem_of_mem_take h)),List.length_take];congr 1;omega
  have:=h3 (n*sz+j) v (by rw [e,List.getElem?_append_right (by omega),hl,Nat.add_sub_cancel_left];exact hj)
  rw [Nat.add_assoc];exact this
 exact .inl (List.drop_eq_nil_of_le (by omega))
theorem aHE (w:World) {t e:TypeId} {sz:Nat} (ht:P.underlying t=some (.slice e)) (hs:(P.info? e).map (·.size)=some sz) (a:Option Addr) (m c:Nat) (k:IntKind) (n:Int) (hn:0≤n∧n≤m) (hmc:m≤c):
  (Instr.slice t (.slice a m c) (some (.int k n)) none none).run P w=.ok (.slice (if c=n.toNat then a else a.map (·.add (n.toNat*sz))) (m - n.toNat) (c - n.toNat)) w:=by
 simp only [Instr.slice,Sem.run_bind,run_underlying ht,Result.andThen_ok,Instr.sliceBounds,Instr.sliceBound,asIntOf,Sem.run_pure,hn,and_self,if_true,iE hs]
section
variable {n:Nat} {F:Nat→Prop} {h0:Array Obj} {nx:Nat} {l:SFr} {H:SH} {o:Oper}
theorem aRY (T:Tab P) {t e sz b:Nat} {x y:Operand} {k:IntKind} {m:Int} {rows:List (List Value)} (hb:dE H b=some (.ro sz rows)) (hx:evS l x=some (.buf b)) (hy:evS l y=some (.v (.int k m))) (ht:bU T.und t=some (.slice e sz)):
  (o.op=.slice t x none (some y) none→(PuS.sub (0≤m∧m≤rows.length) (.ro sz (rows.take m.toNat))).ok P n F h0 nx l H o) ∧
  (o.op=.slice t x (some y) none none→(PuS.sub (0≤m∧m≤rows.length) (.ro sz (rows.drop m.toNat))).ok P n F h0 nx l H o):=by
 refine ⟨fun hop hn hbd E h S K=>?_,fun hop hn hbd E h S K=>?_⟩
 all_goals
  obtain ⟨g1,g2,ad,cap,g3,g4⟩:=S.ok _ (cG hb)
  simp only at g3
  have hcap:rows.length≤cap:=by have:=g2.2;rw [g3] at this;exact this
  obtain ⟨h1,h2⟩:=T.okU.look ht
 ·refine ⟨.slice ad m.toNat cap,fun a w ha=>?_,?_⟩
  ·have e1:=ha.ev (bT (E:=E) hx)
   have e2:=ha.ev (bT (E:=E) hy)
   simp only [SV.g] at e1 e2
   rw [g3] at e1
   have hrun:=aNG (P:=P) w h1 h2 ad rows.length cap k m (by omega)
   simp [execOp,hop,e1,e2,Instr.sliceAt,run_underlying h1,hrun]
  refine S.add hbd ?_ (fun hw=>by cases hw)
  have hlt:(rows.take m.toNat).length=m.toNat:=by rw [List.length_take];omega
  refine ⟨fun r hr=>g1 r (List.mem_of_mem_take hr),⟨?_,?_⟩,ad,cap,by rw [hlt],g4.take _⟩
  ·have:=g2.1
   rw [hlt];omega
  show m.toNat≤cap
  omega
 refine ⟨.slice (if cap=m.toNat then ad else ad.map (·.add (m.toNat*sz))) (rows.length - m.toNat) (cap - m.toNat),fun a w ha=>?_,?_⟩
 ·have e1:=ha.ev (bT (E:=E) hx)
  have e2:=ha.ev (bT (E:=E) hy)
  simp only [SV.g] at e1 e2
  rw [g3] at e1
  have hrun:=aHE (P:=P) w h1 h2 ad rows.length cap k m hn hcap
  simp [execOp,hop,e1,e2,Instr.sliceAt,run_underlying h1,hrun]
 refine S.add hbd ?_ (fun hw=>by cases hw)
 have hlt:(rows.drop m.toNat).length=rows.length - m.toNat:=List.length_drop
 refine ⟨fun r hr=>g1 r (List.mem_of_mem_drop hr),⟨?_,?_⟩,_,cap - m.toNat,by rw [hlt],?_⟩
 ·have:=g2.1
  rw [hlt];omega
 ·show rows.length - m.toNat≤cap - m.toNat
  omega
 split
 ·exact .inl (List.drop_eq_nil_of_le (by omega))
 exact g4.drop g1 _
theorem aNW (T:Tab P) {t:TypeId} {cs:List SV} {f:Nat} {fs:List (Nat×Nat×Bool)} (hu:bU T.und t=some (.struct fs)):
  (∀oo m v,nth fs f=some (oo,m,false)→nth cs oo=some v → ∀E,wB T t (.agg (SV.gs E cs).toArray) f=.val (v.g E)) ∧
  (∀oo m,nth fs f=some (oo,m,true) → ∀E,wB T t (.agg (SV.gs E cs).toArray) f=.val (SV.g E (.agg ((cs.drop oo).take m)))):=by
 refine ⟨fun oo m v hn hv E=>?_,fun oo m hn E=>?_⟩
 ·unfold wB
  simp only [hu,hn]
  rw [iF] at hv
  have:nth (SV.gs E cs) oo=some (v.g E):=by rw [iF,vJ,hv];rfl
  simp [this]
 unfold wB
 simp only [hu,hn,SV.g,aDI,aDR]
theorem aQP (T:Tab P) (op:Op) (ho:o.op=op):(evO T l H nx op).ok P n F h0 nx l H o:=by
 unfold evO
 split
 ·split
  ·exact aWT ho (by assumption)
  trivial
 ·split
  ·exact aOT ho (by assumption)
  trivial
 ·split
  ·split
   ·exact aNK ho (by assumption) (by assumption)
   trivial
  ·split
   ·exact aNK ho (by assumption) (by assumption)
   trivial
  trivial
 ·split
  ·split
   ·exact aNR ho (by assumption) (by assumption)
   trivial
  ·exact fC T _ ho
  trivial
 ·split
  ·split
   ·split
    ·split
     ·exact xP (oo:=0) T ho (by assumption) (by assumption) (by assumption) (fun E=>⟨_,_,rfl,rfl⟩)
     exact xP T ho (by assumption) (by assumption) (by assumption) (fun E=>⟨_,_,rfl,by simp only [SV.g]⟩)
    trivial
   trivial
  ·split
   ·split
    ·split
     ·exact xP (oo:=0) T ho (by assumption) (by assumption) (by assumption) (fun E=>⟨_,_,rfl,rfl⟩)
     exact xP T ho (by assumption) (by assumption) (by assumption) (fun E=>⟨_,_,rfl,by simp only [SV.g,Nat.add_assoc]⟩)
    trivial
   trivial
  ·exact fC T _ ho
  trivial
 ·split
  ·split
   ·rename_i hu
    split
    ·rename_i hn
     split
     ·rename_i hv
      exact aDY T ho (by assumption) ((aNW T hu).1 _ _ _ hn hv)
     trivial
    ·rename_i hn
     exact aDY T ho (by assumption) ((aNW T hu).2 _ _ hn)
    trivial
   trivial
  ·exact fC T _ ho
  trivial
 ·split
  ·split
   ·split
    ·split
     ·split
      ·rename_i hb
       have:=Nat.eq_of_beq_eq_true hb
       subst this
       exact fun hp=>aSR T ho (by assumption) (by assumption) (by assumption) (by assumption) hp
      trivial
     trivial
    trivial
   trivial
  ·split
   ·split
    ·exact fun hp=>aQL T ho (by assumption) (by assumption) (by assumption) hp
    trivial
   trivial
  ·exact fC T _ ho
  trivial
 ·split
  ·exact aQY ho (by assumption) (fun E=>⟨_,rfl⟩)
  ·exact aQY ho (by assumption) (fun E=>⟨_,rfl⟩)
  ·exact fC T _ ho
  trivial
 ·split
  ·exact fC T _ ho
  ·split
   ·trivial
   ·rename_i hne hu
    exact aTF T ho (by assumption) hu (fun e=>hne e)
   trivial
  trivial
 ·split
  ·split
   ·exact aXG ho (by assumption) (by assumption)
   trivial
  trivial
 ·split
  ·split
   ·split
    ·split
     ·exact aWQ T ho (by assumption) (by assumption) (by assumption) (by assumption)
     trivial
    split
    ·split
     ·split
      ·exact aSP T ho (by assumption) (by assumption) (by assumption) (by assumption) (Nat.le_of_ble_eq_true (by assumption))
      trivial
     trivial
    trivial
   trivial
  ·split
   ·split
    ·rename_i hb
     have:=Nat.eq_of_beq_eq_true hb
     subst this
     split
     ·exact fun row hr x hx=>aTV T ho (by assumption) (by assumption) (by assumption) hr hx
     split
     ·split
      ·exact fun row hr hle=>aPU T ho (by assumption) (by assumption) (by assumption) (by assumption) hr hle
      trivial
     trivial
    trivial
   trivial
  ·split
   ·exact fun v hv=>okS_old T ho (by assumption) (by assumption) hv
   split
   ·split
    ·exact fun vs hl hv=>aWV T ho (by assumption) (by assumption) (by assumption) hl hv
    trivial
   trivial
  trivial
 ·split
  ·split
   ·split
    ·split
     ·split
      ·split
       ·split
        ·split
         ·exact aSM T ho (by assumption) (by assumption) (by assumption) (by assumption) (by assumption) (Nat.eq_of_beq_eq_true (by assumption)) (by assumption) (Nat.le_of_ble_eq_true (by assumption))
         trivial
        trivial
       trivial
      trivial
     trivial
    trivial
   trivial
  ·split
   ·split
    ·rename_i hb
     have:=Nat.eq_of_beq_eq_true hb
     subst this
     split
     ·split
      ·split
       ·split
        ·split
         ·split
          ·split
           ·exact fun row hr=>aVS T ho (by assumption) (by assumption) (by assumption) (by assumption) (by assumption) (by assumption) (Nat.eq_of_beq_eq_true (by assumption)) (by assumption) (Nat.le_of_ble_eq_true (by assumption)) hr
           trivial
          trivial
         trivial
        trivial
       trivial
      trivial
     trivial
    trivial
   trivial
  trivial
 ·split
  ·split
   ·exact fun hb hbs=>okS_box ho (by assumption) (by assumption) hb hbs
   trivial
  trivial
 ·split
  ·exact fun hb _=>aTM T ho (by assumption) hb
  trivial
 ·split
  ·split
   ·rename_i hi
    split
    ·rename_i hu
     split
     ·rename_i hf
      refine aIO ho (by assumption) fun E h S=>?_
      rw [aKJ T hi hu]
      have:=aAJ S hf
      rw [pV,Array.toArray_toList] at this
      exact this
     trivial
    ·rename_i hu
     split
     ·rename_i hf
      refine aIO ho (by assumption) fun E h S=>?_
      rw [aMJ T hi hu]
      have:=aAJ S hf
      rw [pV,Array.toArray_toList] at this
      exact this
     trivial
    trivial
   trivial
  trivial
 ·split
  ·split
   ·split
    ·split
     ·split
      ·split
       ·split
        ·split
         ·split
          ·split
           ·exact fun hb _=>aEI T ho (by assumption) (by assumption) (Nat.eq_of_beq_eq_true (by assumption)) (by assumption) (by assumption) (by assumption) (by assumption) (Nat.eq_of_beq_eq_true (by assumption))
             (Nat.le_trans (m:=16777216) (Nat.le_of_ble_eq_true (by assumption)) (by rw [aCF];omega)) (by assumption) hb
           trivial
          trivial
         trivial
        trivial
       trivial
      trivial
     trivial
    trivial
   trivial
  trivial
 ·split
  ·split
   ·split
    ·split
     ·split
      ·split
       ·exact fun hp hb _=>aWY T ho (by assumption) (by assumption) (by assumption) (by assumption) (Nat.eq_of_beq_eq_true (by assumption)) (by assumption) hp hb
       trivial
      trivial
     trivial
    trivial
   trivial
  trivial
 ·rename_i c
  split
  ·rename_i hc
   split
   ·rename_i x y ha
    split
    ·rename_i t t2 hts
     split
     ·rename_i htt
      have:=Nat.eq_of_beq_eq_true htt
      subst this
      split
      ·rename_i e sz hu
       split
       ·rename_i i hi
        split
        ·rename_i hz
         split
         ·rename_i hsz
          split
          ·rename_i b2 hy
           split
           ·rename_i sz2 rows2 hr2
            split
            ·rename_i h22
             have:=Nat.eq_of_beq_eq_true h22
             subst this
             split
             ·rename_i b hx
              split
              ·rename_i e' sz' rows hl
               split
               ·rename_i hee
                have:=Nat.eq_of_beq_eq_true hee
                subst this
                split
                ·rename_i hss
                 have:=Nat.eq_of_beq_eq_true hss
                 subst this
                 refine fun hp hb=>aGX T ho hc ha hts hu hi (Nat.eq_of_beq_eq_true hz) (Nat.blt_eq.mp hsz) hy hr2 hx (r:=some b) (fun E h S=>?_) ⟨hp.1,hp.2.1,hp.2.2.1⟩ hb
                 obtain ⟨k1,k2,k3⟩:=aDA S hl
                 exact ⟨k1,k2,fun g hg=>⟨k3 g hg,b,rfl,rfl,_,hl,rfl⟩⟩
                trivial
               trivial
              trivial
             ·rename_i hx
              refine fun hp hb=>aGX T ho hc ha hts hu hi (Nat.eq_of_beq_eq_true hz) (Nat.blt_eq.mp hsz) hy hr2 hx (r:=none) (rows:=[]) (fun E h S=>?_) ⟨hp.1,by simpa using hp.2.1,by simpa using hp.2.2⟩ hb
              exact ⟨(fun _ h=>by cases h),⟨by simp,.inl ⟨rfl,rfl⟩⟩,fun g hg=>by cases hg⟩
             trivial
            trivial
           trivial
          trivial
         trivial
        trivial
       trivial
      trivial
     trivial
    trivial
   trivial
  ·split
   ·split
    ·split
     ·split
      ·split
       ·exact okS_len T ho (by assumption) (by assumption) (by assumption) (by assumption) (by assumption) (by assumption)
       trivial
      trivial
     trivial
    ·exact fC T _ ho
    trivial
   trivial
  ·exact fC T _ ho
  ·exact fC T _ ho
  trivial
 ·split
  ·split
   ·split
    ·exact eqA_ok T ho (by assumption) (by assumption)
    trivial
   split
   ·split
    ·split
     ·exact fun r hr=>okS_rem ho (by assumption) (by assumption) hr
     trivial
    exact fC T _ ho
   exact fC T _ ho
  trivial
 ·exact fC T _ ho
 ·split
  ·split
   ·split
    ·split
     ·split
      ·rename_i hr
       intro is his
       rw [his] at hr
       exact aTT T ho (by assumption) (by assumption) (by assumption) (by assumption) hr
      trivial
     trivial
    trivial
   trivial
  exact fC T _ ho
 ·exact fC T _ ho
 ·split
  ·split
   ·split
    ·split
     ·rename_i hb
      have:=Nat.eq_of_beq_eq_true hb
      subst this
      split
      ·split
       ·split
        ·exact (aRY T (by assumption) (by assumption) (by assumption) (by assumption)).1 ho
        trivial
       trivial
      split
      ·split
       ·exact (aRY T (by assumption) (by assumption) (by assumption) (by assumption)).2 ho
       trivial
      trivial
     trivial
    trivial
   trivial
  exact fC T _ ho
 trivial
end
end Go.Fw

namespace Go.Fw
open Go
variable {P:Program}
set_option maxHeartbeats 4000000
def pX:List SV→(List SV→Prop)→Prop
 | [],K=>K []
 |x::xs,K=>pX xs (fun ys=>K (x::ys))
theorem jN:∀(xs:List SV) (K:List SV→Prop),pX xs K=K xs
 | [],K=>rfl
 |x::xs,K=>by simp only [pX,jN xs]
def wK (b:Blk) (K:Blk→Prop):Prop:=match b with
 | .cells t cs=>pX cs fun cs'=>K (.cells t cs')
 | .own e sz rows=>K (.own e sz rows)
 | .ro sz rows=>K (.ro sz rows)
 | .map d es=>K (.map d es)
theorem qH (b:Blk) (K:Blk→Prop):wK b K=K b:=by cases b<;>simp only [wK,jN]
def aNU:SH→Nat→(SH→Prop)→Prop
 | [],_,K=>K []
 |(s,v)::l,d,K=>match Nat.beq s d with
  |true=>aNU l d K
  |false=>aNU l d (fun H'=>K ((s,v)::H'))
theorem aAD:∀(H:SH) (d:Nat) (K:SH→Prop),aNU H d K=K (aDG H d)
 | [],d,K=>rfl
 |(s,v)::l,d,K=>by
  simp only [aNU,aDG]
  cases Nat.beq s d with
  |true=>exact aAD l d K
  |false=>simp only [aAD l d]
def aRO (H:SH) (r:Option Nat) (K:SH→Prop):Prop:=match r with
 |some b=>aNU H b K
 |none=>K H
theorem aLN (H:SH) (r:Option Nat) (K:SH→Prop):aRO H r K=K (remO H r):=by cases r<;>simp only [aRO,remO,aAD]
def aHL:SH→Nat→Blk→(SH→Prop)→Prop
 | [],_,_,K=>K []
 |(s,v)::l,d,x,K=>match Nat.beq s d with
  |true=>K ((s,x)::l)
  |false=>aHL l d x (fun H'=>K ((s,v)::H'))
theorem rP:∀(H:SH) (d:Nat) (x:Blk) (K:SH→Prop),aHL H d x K=K (rD H d x)
 | [],d,x,K=>rfl
 |(s,v)::l,d,x,K=>by
  simp only [aHL,rD]
  cases Nat.beq s d with
  |true=>rfl
  |false=>simp only [rP l d]
def jR (l:SFr) (dst:Option Nat) (x:SV) (K:SFr→Prop):Prop:=match dst with
 |some d=>K ((d,x)::l)
 |none=>K l
theorem bR (l:SFr) (dst:Option Nat) (x:SV) (K:SFr→Prop):jR l dst x K=K (aKR l dst x):=by cases dst<;>rfl
def goS (T:Tab P) (n n0:Nat) (F:Nat→Prop) (h0:Array Obj) (ds:List dS) (stop:Nat→List SI→SFr→SH→Prop):Nat→Nat→List SI→SFr→SH→Prop
 |0,nx,st,l,H=>stop nx st l H
 |f+1,nx,st,l,H=>match st with
  | []=>stop nx st l H
  |it::k=>match it with
   | .inBlock _=>goS T n n0 F h0 ds stop f nx k l H
   | .inScope _=>goS T n n0 F h0 ds stop f nx k l H
   | .ops all todo=>match todo with
    | []=>goS T n n0 F h0 ds stop f nx k l H
    |o::rest=>match dD n o.dst with
     |false=>stop nx st l H
     |true=>match cJ l all o with
      |none=>stop nx st l H
      |some false=>jR l o.dst (.v undef) fun l=>goS T n n0 F h0 ds stop f nx (.ops all rest::k) l H
      |some true=>match evO T l H nx o.op with
       | .stop=>stop nx st l H
       | .val x=>jR l o.dst x fun l=>goS T n n0 F h0 ds stop f nx (.ops all rest::k) l H
       | .vala cs=>pX cs fun cs=>jR l o.dst (.agg cs) fun l=>goS T n n0 F h0 ds stop f nx (.ops all rest::k) l H
       | .ob p x=>p∧jR l o.dst x fun l=>goS T n n0 F h0 ds stop f nx (.ops all rest::k) l H
       | .tst p i=>match o.dst with
        |none=>stop nx st l H
        |some d=>match lW all.toList rest k d with
         |true=>(p→goS T n n0 F h0 ds stop f nx (.ops all rest::k) ((d,.v (.bool true))::l) H)∧(¬p→goS T n n0 F h0 ds stop f nx (.ops all rest::k) ((d,.v (.bool false))::l) H)
         |false=>goS T n n0 F h0 ds stop f nx (.ops all rest::k) ((d,.v (.bool (@decide p i)))::l) H
       | .ntst p i=>match o.dst with
        |none=>stop nx st l H
        |some d=>match lW all.toList rest k d with
         |true=>(p→goS T n n0 F h0 ds stop f nx (.ops all rest::k) ((d,.v (.bool false))::l) H)∧(¬p→goS T n n0 F h0 ds stop f nx (.ops all rest::k) ((d,.v (.bool true))::l) H)
         |false=>goS T n n0 F h0 ds stop f nx (.ops all rest::k) ((d,.v (.bool (!@decide p i)))::l) H
       | .new x b=>match iX n0 nx l H ds with
        |false=>stop nx st l H
        |true=>match bdB nx b with
         |false=>stop nx st l H
         |true=>wK b fun b=>jR l o.dst x fun l=>goS T n n0 F h0 ds stop f (nx+1) (.ops all rest::k) l ((nx,b)::H)
       | .newo p x b=>match iX n0 nx l H ds with
        |false=>stop nx st l H
        |true=>match bdB nx b with
         |false=>stop nx st l H
         |true=>p∧wK b fun b=>jR l o.dst x fun l=>goS T n n0 F h0 ds stop f (nx+1) (.ops all rest::k) l ((nx,b)::H)
       | .app p r b=>match iX n0 nx l H ds with
        |false=>stop nx st l H
        |true=>p∧aRO H r fun H=>jR l o.dst (.buf nx) fun l=>goS T n n0 F h0 ds stop f (nx+1) (.ops all rest::k) l ((nx,b)::H)
       | .put b y=>wK y fun y=>aHL H b y fun H=>jR l o.dst (.v undef) fun l=>goS T n n0 F h0 ds stop f nx (.ops all rest::k) l H
       | .puto p b y=>p∧wK y fun y=>aHL H b y fun H=>jR l o.dst (.v undef) fun l=>goS T n n0 F h0 ds stop f nx (.ops all rest::k) l H
       | .rowv rows i off=>∃row,rows[i.toNat]? = some row∧(match nth row off with
        |some x=>jR l o.dst (.v x) fun l=>goS T n n0 F h0 ds stop f nx (.ops all rest::k) l H
        |none=>False)
       | .rowa rows i off m=>∃row,rows[i.toNat]? = some row∧off+m≤row.length∧pX (toV ((row.drop off).take m)) fun cs=>jR l o.dst (.agg cs) fun l=>goS T n n0 F h0 ds stop f nx (.ops all rest::k) l H
       | .rput b e sz rows i off vals=>∃row,rows[i.toNat]? = some row∧aHL H b (.own e sz (rows.set i.toNat (aBK row off vals))) fun H=>jR l o.dst (.v undef) fun l=>goS T n n0 F h0 ds stop f nx (.ops all rest::k) l H
       | .old b off=>∃v,OldC F h0 b off v∧jR l o.dst (.v v) fun l=>goS T n n0 F h0 ds stop f nx (.ops all rest::k) l H
       | .rem x y=>∃r,aOF x y r∧jR l o.dst (.v (.int .i64 r)) fun l=>goS T n n0 F h0 ds stop f nx (.ops all rest::k) l H
       | .sub p b=>match iX n0 nx l H ds with
        |false=>stop nx st l H
        |true=>p∧jR l o.dst (.buf nx) fun l=>goS T n n0 F h0 ds stop f (nx+1) (.ops all rest::k) l ((nx,b)::H)
       | .bytes rows=>∃is,rows=kA is∧jR l o.dst (.v (.string (aJY is))) fun l=>goS T n n0 F h0 ds stop f nx (.ops all rest::k) l H
       | .olda b off m=>∃vs,(vs.length=m∧aHS F h0 b off vs)∧pX (toV vs) fun cs=>jR l o.dst (.agg cs) fun l=>goS T n n0 F h0 ds stop f nx (.ops all rest::k) l H
   | .code c=>match c with
    | .skip=>goS T n n0 F h0 ds stop f nx k l H
    | .label _=>goS T n n0 F h0 ds stop f nx k l H
    | .seq a b=>goS T n n0 F h0 ds stop f nx (.code a::.code b::k) l H
    | .cond x y z=>match evS l x with
     |some (.v (.bool true))=>goS T n n0 F h0 ds stop f nx (.code y::k) l H
     |some (.v (.bool false))=>goS T n n0 F h0 ds stop f nx (.code z::k) l H
     |_=>stop nx st l H
    | .block i b=>goS T n n0 F h0 ds stop f nx (.code b::.inBlock i::k) l H
    | .scope b=>goS T n n0 F h0 ds stop f nx (.code b::.inScope b::k) l H
    | .exit i=>match aEN i k with
     |some k'=>goS T n n0 F h0 ds stop f nx k' l H
     |none=>stop nx st l H
    | .goto i=>match aFV i k with
     |some k'=>goS T n n0 F h0 ds stop f nx k' l H
     |none=>stop nx st l H
    | .region _ ops draw=>match draw with
     |false=>goS T n n0 F h0 ds stop f nx (.ops ops ops.toList::k) l H
     |true=>stop nx st l H
    |_=>stop nx st l H
   |_=>stop nx st l H
theorem aX.opSkip0 {c:Ctx P} {ds:List Deferred} {k:List SI} {l:Fr} {h:Array Obj} {all:Array Oper} {rest:List Oper} {o:Oper} (hdn:dD c.n o.dst=true) (hg:eC l all o=some false)
  (hr:aX c ds (.ops all rest::k) (upd l o.dst undef) h):aX c ds (.ops all (o::rest)::k) l h:=by
 unfold aX at hr ⊢
 intro hwf a w ha hd hh hw
 have hwn:=bQ ha hg
 obtain ⟨i,e1,e2,ho,hwf'⟩:=mY (hwf _ (List.mem_cons_self ..))
 have hr':=hr (cY hwf' (cH hwf)) _ w (fE ha (gJ hdn) undef) (by cases o.dst<;>simpa [Act.put] using hd) hh hw
 refine c.back _ _ (step_lone_go ?_) hr'
 simp only [lN,e1,e2]
 have hf:=iS (c:=c) a all i (List.range' (i+1) rest.length) (its k) undef
 rw [ho] at hf
 simp only [Option.bind_some] at hf
 rw [←hf]
 simp only [Ctx.fr] at *
 simp [stepG,stepG.exec,ho,hwn]
theorem aSQ (T:Tab P) {l:SFr} {H:SH} {nx:Nat} {o:Oper} (h:evO T l H nx o.op ≠ .stop):jL o=true:=by
 unfold jL
 split
 ·rename_i cl hop
  rw [hop] at h
  exact absurd rfl h
 rfl
section
variable {s:SCx P} {ds:List dS}
theorem aA.lift1 {nx nx':Nat} {st st':List SI} {l:SFr} {H:SH} (h:∀E hh,aX s.c (gD E ds) st' (gF E l) hh→aX s.c (gD E ds) st (gF E l) hh) (hr:aA s ds nx' st' l H):aA s ds nx st l H:=
 ⟨fun E hh hA S K=>h E hh (hr.run E hh hA S K)⟩
theorem jA (T:Tab P):∀(f nx:Nat) (st:List SI) (l:SFr) (H:SH),goS T s.c.n s.n0 s.F s.h0 ds (fun nx st l H=>aA s ds nx st l H) f nx st l H→aA s ds nx st l H:=by
 intro f
 induction f with
 |zero=>intro nx st l H hg;exact hg
 |succ f ih=>
  intro nx st l H hg
  unfold goS at hg
  split at hg
  ·exact hg
  split at hg
  ·exact aA.lift1 (fun E hh=>aX.inBlock) (ih _ _ _ _ hg)
  ·exact aA.lift1 (fun E hh=>aX.inScope) (ih _ _ _ _ hg)
  ·split at hg
   ·exact aA.lift1 (fun E hh=>aX.regionEnd) (ih _ _ _ _ hg)
   rename_i o rest
   split at hg
   ·exact hg
   rename_i hdst
   split at hg
   ·exact hg
   ·rename_i hgd
    rw [bR] at hg
    refine ⟨fun E h hA S K=>?_⟩
    have:=(ih _ _ _ _ hg).run E h hA S K
    rw [iB] at this
    exact aX.opSkip0 hdst (cD hgd) this
   rename_i hgd
   have hgd':∀E,eC (gF E l) _ o=some true:=fun E=>cD hgd
   have hk:=aQP (P:=P) (n:=s.c.n) (F:=s.F) (h0:=s.h0) (nx:=nx) (l:=l) (H:=H) (o:=o) T o.op rfl
   have hnd:=fun h=>aSQ (l:=l) (H:=H) (nx:=nx) (o:=o) T h
   split at hg
   ·exact hg
   ·rename_i hv;rw [hv] at hk hnd
    rw [bR] at hg
    exact aA.effK hk hgd' hdst (hnd (by simp)) (ih _ _ _ _ hg)
   ·rename_i hv;rw [hv] at hk hnd
    rw [jN,bR] at hg
    exact aA.effK hk hgd' hdst (hnd (by simp)) (ih _ _ _ _ hg)
   ·rename_i hv;rw [hv] at hk hnd
    rw [bR] at hg
    exact aA.effK (hk hg.1) hgd' hdst (hnd (by simp)) (ih _ _ _ _ hg.2)
   ·rename_i p i hv;rw [hv] at hk hnd
    simp only [PuS.ok] at hk
    split at hg
    ·exact hg
    rename_i d hd
    split at hg
    ·by_cases hp:p
     ·simp only [hp,decide_true] at hk
      refine aA.effK hk hgd' hdst (hnd (by simp)) ?_
      rw [hd];exact ih _ _ _ _ (hg.1 hp)
     simp only [hp,decide_false] at hk
     refine aA.effK hk hgd' hdst (hnd (by simp)) ?_
     rw [hd];exact ih _ _ _ _ (hg.2 hp)
    refine aA.effK hk hgd' hdst (hnd (by simp)) ?_
    rw [hd];exact ih _ _ _ _ hg
   ·rename_i p i hv;rw [hv] at hk hnd
    simp only [PuS.ok] at hk
    split at hg
    ·exact hg
    rename_i d hd
    split at hg
    ·by_cases hp:p
     ·simp only [hp,decide_true,Bool.not_true] at hk
      refine aA.effK hk hgd' hdst (hnd (by simp)) ?_
      rw [hd];exact ih _ _ _ _ (hg.1 hp)
     simp only [hp,decide_false,Bool.not_false] at hk
     refine aA.effK hk hgd' hdst (hnd (by simp)) ?_
     rw [hd];exact ih _ _ _ _ (hg.2 hp)
    refine aA.effK hk hgd' hdst (hnd (by simp)) ?_
    rw [hd];exact ih _ _ _ _ hg
   ·rename_i hv;rw [hv] at hk hnd
    split at hg
    ·exact hg
    rename_i hf
    obtain ⟨f1,f2,f3,f4⟩:=eY hf
    split at hg
    ·exact hg
    rw [qH,bR] at hg
    exact aA.eff (hk f3 (by assumption)) hgd' hdst (hnd (by simp)) f1 f2 f4 (ih _ _ _ _ hg)
   ·rename_i hv;rw [hv] at hk hnd
    split at hg
    ·exact hg
    rename_i hf
    obtain ⟨f1,f2,f3,f4⟩:=eY hf
    split at hg
    ·exact hg
    rw [qH,bR] at hg
    exact aA.eff (hk hg.1 f3 (by assumption)) hgd' hdst (hnd (by simp)) f1 f2 f4 (ih _ _ _ _ hg.2)
   ·rename_i hv;rw [hv] at hk hnd
    split at hg
    ·exact hg
    rename_i hf
    obtain ⟨f1,f2,f3,f4⟩:=eY hf
    rw [aLN,bR] at hg
    exact aA.eff (hk hg.1 f3) hgd' hdst (hnd (by simp)) f1 f2 f4 (ih _ _ _ _ hg.2)
   ·rename_i hv;rw [hv] at hk hnd
    rw [qH,rP,bR] at hg
    exact aA.effK hk hgd' hdst (hnd (by simp)) (ih _ _ _ _ hg)
   ·rename_i hv;rw [hv] at hk hnd
    rw [qH,rP,bR] at hg
    exact aA.effK (hk hg.1) hgd' hdst (hnd (by simp)) (ih _ _ _ _ hg.2)
   ·rename_i hv;rw [hv] at hk hnd
    obtain ⟨row,hr,hg⟩:=hg
    split at hg
    ·rename_i x hx
     rw [bR] at hg
     exact aA.effK (hk row hr x hx) hgd' hdst (hnd (by simp)) (ih _ _ _ _ hg)
    exact hg.elim
   ·rename_i hv;rw [hv] at hk hnd
    obtain ⟨row,hr,hle,hg⟩:=hg
    rw [jN,bR] at hg
    exact aA.effK (hk row hr hle) hgd' hdst (hnd (by simp)) (ih _ _ _ _ hg)
   ·rename_i hv;rw [hv] at hk hnd
    obtain ⟨row,hr,hg⟩:=hg
    rw [rP,bR] at hg
    exact aA.effK (hk row hr) hgd' hdst (hnd (by simp)) (ih _ _ _ _ hg)
   ·rename_i hv;rw [hv] at hk hnd
    obtain ⟨v,hc,hg⟩:=hg
    rw [bR] at hg
    exact aA.effK (hk v hc) hgd' hdst (hnd (by simp)) (ih _ _ _ _ hg)
   ·rename_i hv;rw [hv] at hk hnd
    obtain ⟨r,hr,hg⟩:=hg
    rw [bR] at hg
    exact aA.effK (hk r hr) hgd' hdst (hnd (by simp)) (ih _ _ _ _ hg)
   ·rename_i hv;rw [hv] at hk hnd
    split at hg
    ·exact hg
    rename_i hf
    obtain ⟨f1,f2,f3,f4⟩:=eY hf
    rw [bR] at hg
    refine aA.eff (x:=.buf nx) (fun E h S K=>?_) hgd' hdst (hnd (by simp)) f1 f2 f4 (ih _ _ _ _ hg.2)
    obtain ⟨v,e1,e2⟩:=hk hg.1 f3 E h S K
    exact Eff.of_value fun a w ha hh=>⟨v,w,e1 a w ha,fL.refl w,push E nx v,jW E nx v,by show _=push E nx v nx;rw [jS],hh▸e2,hh▸K⟩
   ·rename_i hv;rw [hv] at hk hnd
    obtain ⟨is,his,hg⟩:=hg
    rw [bR] at hg
    exact aA.effL (hk is his) hgd' hdst (hnd (by simp)) (ih _ _ _ _ hg)
   rename_i hv;rw [hv] at hk hnd
   obtain ⟨vs,⟨hl,hc⟩,hg⟩:=hg
   rw [jN,bR] at hg
   exact aA.effK (hk vs hl hc) hgd' hdst (hnd (by simp)) (ih _ _ _ _ hg)
  ·split at hg
   ·exact aA.lift1 (fun E hh=>aX.skip) (ih _ _ _ _ hg)
   ·exact aA.lift1 (fun E hh=>aX.label) (ih _ _ _ _ hg)
   ·exact aA.lift1 (fun E hh=>aX.seq) (ih _ _ _ _ hg)
   ·split at hg
    ·rename_i hx
     exact aA.lift1 (fun E hh hr=>aX.cond (bT hx) hr) (ih _ _ _ _ hg)
    ·rename_i hx
     exact aA.lift1 (fun E hh hr=>aX.cond (bT hx) hr) (ih _ _ _ _ hg)
    exact hg
   ·exact aA.lift1 (fun E hh=>aX.block) (ih _ _ _ _ hg)
   ·exact aA.lift1 (fun E hh=>aX.scope) (ih _ _ _ _ hg)
   ·split at hg
    ·rename_i hx
     exact aA.lift1 (fun E hh hr=>aX.exit hx hr) (ih _ _ _ _ hg)
    exact hg
   ·split at hg
    ·rename_i hx
     exact aA.lift1 (fun E hh hr=>aX.goto hx hr) (ih _ _ _ _ hg)
    exact hg
   ·split at hg
    ·exact aA.lift1 (fun E hh=>aX.region) (ih _ _ _ _ hg)
    exact hg
   exact hg
  exact hg
end
end Go.Fw

namespace Go.Fw
open Go
variable {P:Program}
set_option maxHeartbeats 4000000
/-! other names -/
def aKH (f:Nat→Nat):Blk→Blk
 | .cells t cs=>.cells t (SV.rens f cs)
 |b=>b
def rn (m:List (Nat×Nat)) (b:Nat):Nat:=match m with
 | []=>b
 |(x,y)::m=>match Nat.beq x b with
  |true=>y
  |false=>rn m b
def aNI (f:Nat→Nat) (l:SFr):SFr→Prop
 | []=>True
 |(s,x)::l'=>wV l s=some (x.ren f)∧aNI f l l'
def nQ (f:Nat→Nat) (H:SH):SH→Prop
 | []=>True
 |(b,x)::H'=>dE H (f b)=some (aKH f x)∧nQ f H H'
def aHD (k:Nat):List Nat→Bool
 | []=>false
 |j::js=>match Nat.beq k j with
  |true=>true
  |false=>aHD k js
theorem aAP {k:Nat}:∀ {l:List Nat},aHD k l=false→k∉l
 | [],_=>by simp
 |j::js,h=>by
  simp only [aHD] at h
  cases hb:Nat.beq k j with
  |true=>simp [hb] at h
  |false=>
   simp only [hb] at h
   rw [List.mem_cons]
   rintro (e|e)
   ·subst e;simp at hb
   exact aAP h e
def dY (f:Nat→Nat):SH→List Nat→Bool
 | [],_=>true
 |(b,_)::H,seen=>match aHD (f b) seen with
  |true=>false
  |false=>dY f H (f b::seen)
theorem aNI.ok {f:Nat→Nat} {E:Env} {l:SFr}:∀ {l':SFr},aNI f l l'→Sub (gF E l) (gF (fun b=>E (f b)) l')
 | [],_=>trivial
 |(s,x)::l',h=>⟨by rw [jC h.1,SV.g_ren],aNI.ok h.2⟩
theorem nQ.mem {f:Nat→Nat} {H:SH}:∀ {H':SH},nQ f H H' → ∀p∈H',(f p.1,aKH f p.2)∈H
 | [],_,p,hp=>by cases hp
 |(b,x)::H',h,p,hp=>by
  rcases List.mem_cons.1 hp with rfl|hp
  ·exact cG h.1
  exact nQ.mem h.2 p hp
theorem aAV {E:Env} {H:SH} (hp:H.Pairwise (qC E)) {p q:Nat×Blk} (h1:p∈H) (h2:q∈H) (hne:p.1≠q.1):qC E p q:=by
 induction H with
 |nil=>cases h1
 |cons x H ih=>
  obtain ⟨hx,hr⟩:=List.pairwise_cons.1 hp
  rcases List.mem_cons.1 h1 with e1|h1
  ·rcases List.mem_cons.1 h2 with e2|h2
   ·exact absurd (by rw [e1,e2]) hne
   rw [e1];exact hx q h2
  rcases List.mem_cons.1 h2 with e2|h2
  ·rw [e2];exact (hx p h1).symm
  exact ih hr h1 h2
theorem aYK {f:Nat→Nat} {E:Env} {F:Nat→Prop} {h:Array Obj} {x:Value} {b:Blk}:(aKH f b).ok E F h x↔b.ok (fun b=>E (f b)) F h x:=by
 cases b with
 |cells t cs=>simp only [aKH,Blk.ok,SV.gs_ren]
 |own=>exact Iff.rfl
 |ro=>exact Iff.rfl
 |map=>exact Iff.rfl
theorem aQH (f:Nat→Nat) (b:Blk):wr (aKH f b)=wr b:=by cases b<;>rfl
theorem aIB {f:Nat→Nat} {E:Env} {H:SH} (hp:H.Pairwise (qC E)):∀ {H':SH} {seen:List Nat},nQ f H H'→dY f H' seen=true →
  (∀p∈H',f p.1∉seen)∧H'.Pairwise (qC (fun b=>E (f b)))
 | [],_,_,_=>⟨fun _ h=>(by cases h),List.Pairwise.nil⟩
 |(b,x)::H',seen,hs,hn=>by
  simp only [dY] at hn
  cases hm:aHD (f b) seen with
  |true=>simp [hm] at hn
  |false=>
   simp only [hm] at hn
   obtain ⟨h1,h2⟩:=aIB hp hs.2 hn
   have hb:=aAP hm
   refine ⟨fun p hp'=>?_,List.pairwise_cons.2 ⟨fun q hq=>?_,h2⟩⟩
   ·rcases List.mem_cons.1 hp' with rfl|hp'
    ·exact hb
    exact fun hc=>h1 p hp' (List.mem_cons_of_mem _ hc)
   have hne:f b≠f q.1:=fun e=>h1 q hq (by rw [e];exact List.mem_cons_self ..)
   have:=aAV hp (cG hs.1) (nQ.mem hs.2 q hq) hne
   intro hw1 hw2 g e1 e2
   exact this (by rw [aQH];exact hw1) (by rw [aQH];exact hw2) g e1 e2
theorem Sat.ren {f:Nat→Nat} {E:Env} {F:Nat→Prop} {H H':SH} {h:Array Obj} (S:Sat E F H h) (hs:nQ f H H') (hn:dY f H' []=true):Sat (fun b=>E (f b)) F H' h:=
 ⟨fun p hp=>aYK.1 (S.ok _ (nQ.mem hs p hp)),(aIB S.apart hs hn).2⟩
def renD (f:Nat→Nat):List dS→List dS
 | []=>[]
 |d::l=>⟨d.g,SV.rens f d.captured,SV.rens f d.args⟩::renD f l
theorem aPM (f:Nat→Nat) (E:Env):∀l:List dS,gD E (renD f l)=gD (fun b=>E (f b)) l
 | []=>rfl
 |d::l=>by simp only [renD,gD,dS.c,SV.gs_ren,aPM f E l]
section
variable {s:SCx P} {ds:List dS} {nx:Nat} {k:List SI} {l:SFr} {H:SH} {st:List SI}
theorem aA.sub {ds':List dS} {nx':Nat} {l':SFr} {H':SH} (f:Nat→Nat) (hr:aA s ds' nx' st l' H') (hf:∀b,b<s.n0→f b=b) (hn:dY f H' []=true) (hd:renD f ds'=ds) (hl:aNI f l l') (hH:nQ f H H'):aA s ds nx st l H:=.mk fun E h hA S K=>by
 have:=hr.run (fun b=>E (f b)) h (fun b hb=>by show E (f b)=_;rw [hf b hb];exact hA b hb) (S.ren hH hn) K
 rw [←aPM,hd] at this
 exact aX.sub hl.ok this
theorem aE.sub {ds':List dS} {u:FrameMode} {nx':Nat} {l':SFr} {H':SH} (f:Nat→Nat) (hr:aE s ds' u nx' l' H') (hf:∀b,b<s.n0→f b=b) (hn:dY f H' []=true) (hd:renD f ds'=ds) (hl:aNI f l l') (hH:nQ f H H'):aE s ds u nx l H:=.mk fun E h hA S K=>by
 have:=hr.run (fun b=>E (f b)) h (fun b hb=>by show E (f b)=_;rw [hf b hb];exact hA b hb) (S.ren hH hn) K
 rw [←aPM,hd] at this
 exact Unw.sub hl.ok this
theorem aA.mark (hr:aA s ds nx k l H):aA s ds nx (.mark::k) l H:=aA.lift1 (fun _ _=>aX.mark) hr
theorem aA.loopB {x:Code} {c:Ctx P} {E0:Env} {n0:Nat} {X:Type} (S:X→(Nat→Prop)×Array Obj) (L:X→SFr) (HH:X→SH) (nxl:Nat) (J:X→Prop) (μ:X→Nat)
  (round:∀x0,J x0→(∀x',J x'→μ x'<μ x0→aA ⟨c,(S x').1,(S x').2,E0,n0⟩ ds nxl (.inLoop x::k) (L x') (HH x'))→aA ⟨c,(S x0).1,(S x0).2,E0,n0⟩ ds nxl (.code x::.inLoop x::k) (L x0) (HH x0)):
  ∀x0,J x0→aA ⟨c,(S x0).1,(S x0).2,E0,n0⟩ ds nxl (.code (.loop x)::k) (L x0) (HH x0):=by
 have key:∀m x0,μ x0=m→J x0→aA ⟨c,(S x0).1,(S x0).2,E0,n0⟩ ds nxl (.code x::.inLoop x::k) (L x0) (HH x0):=by
  intro m
  induction m using Nat.strongRecOn with
  |_ m ih=>
   intro x0 hm hJ
   exact round x0 hJ fun x' hJ' hlt=>aA.lift1 (fun _ _=>aX.inLoop) (ih (μ x') (hm▸hlt) x' rfl hJ')
 exact fun x0 hJ=>aA.lift1 (fun _ _=>aX.loop1) (key _ x0 rfl hJ)
theorem aA.loop {x:Code} {X:Type} (L:X→SFr) (HH:X→SH) (nxl:Nat) (J:X→Prop) (μ:X→Nat)
  (round:∀x0,J x0→(∀x',J x'→μ x'<μ x0→aA s ds nxl (.inLoop x::k) (L x') (HH x'))→aA s ds nxl (.code x::.inLoop x::k) (L x0) (HH x0)):
  ∀x0,J x0→aA s ds nxl (.code (.loop x)::k) (L x0) (HH x0):=
 aA.loopB (c:=s.c) (E0:=s.E0) (n0:=s.n0) (fun _=>(s.F,s.h0)) L HH nxl J μ round
theorem aA.join {x:Code} {Y:Type} (L:Y→SFr) (HH:Y→SH) (nxe:Nat) (J:Y→Prop) (after:∀y,J y→aA s ds nxe k (L y) (HH y))
  (body:(∀y,J y→aA s ds nxe (.mark::k) (L y) (HH y))→aA s ds nx (.code x::.mark::k) l H):aA s ds nx (.code x::k) l H:=.mk fun E h hA S K=>by
 have:=(body (fun y hy=>aA.mark (after y hy))).run E h hA S K
 unfold aX at this ⊢
 exact fun hwf a w ha hd hh hw=>this (cY trivial (cY trivial (cH hwf))) a w ha hd hh hw
theorem aA.meet {x:Code} {i:Nat} {Y:Type} (L:Y→SFr) (HH:Y→SH) (nxe:Nat) (J:Y→Prop) (after:∀y,J y→aA s ds nxe k (L y) (HH y))
  (body:(∀y,J y→aA s ds nxe (.mark::k) (L y) (HH y))→aA s ds nx (.code x::.inBlock i::.mark::k) l H):aA s ds nx (.code x::.inBlock i::k) l H:=.mk fun E h hA S K=>by
 have:=(body (fun y hy=>aA.mark (after y hy))).run E h hA S K
 unfold aX at this ⊢
 exact fun hwf a w ha hd hh hw=>this (cY trivial (cY trivial (cY trivial (cH (cH hwf))))) a w ha hd hh hw
end
/-! calls -/
def iM (l:SFr) (x:Operand):Option (FuncId×List SV×List SV):=
 match evS l x with
 |some (.v (.func (.func g) a b))=>some (g,toV a.toList,toV b.toList)
 |some (.fn (.func g) a b)=>some (g,a,b)
 |_=>none
theorem mC {E:Env} {l:SFr} {x:Operand} {g:FuncId} {a b:List SV} (h:iM l x=some (g,a,b)):ev (gF E l) x=some (.func (.func g) (SV.gs E a).toArray (SV.gs E b).toArray):=by
 unfold iM at h
 split at h
 ·rename_i hx
  simp only [Option.some.injEq,Prod.mk.injEq] at h
  obtain ⟨rfl,rfl,rfl⟩:=h
  rw [bT hx];simp [SV.g,pV]
 ·rename_i hx
  simp only [Option.some.injEq,Prod.mk.injEq] at h
  obtain ⟨rfl,rfl,rfl⟩:=h
  rw [bT hx];rfl
 cases h
theorem xW (E:Env) (a b c:List SV):(SV.gs E a).toArray++(SV.gs E b).toArray++(SV.gs E c).toArray=(SV.gs E (a++(b++c))).toArray:=by
 apply Array.ext';simp [aKW]
section
variable {s:SCx P} {ds:List dS} {nx:Nat} {k:List SI} {l:SFr} {H:SH}
variable {all:Array Oper} {rest:List Oper} {o:Oper} {cl:Call} {x:Operand} {g:FuncId} {first captured vs:List SV}
theorem aA.callE {R:Env→Array Obj→Ending→Array Obj→Prop}
  (H1:∀E h,Ag s.n0 s.E0 E→Sat E s.F H h→Kp s.F s.h0 h→Fn P g (SV.gs E (first++(vs++captured))).toArray h (R E h))
  (hno:∀E h h',¬R E h .outgrown h')
  (hp:∀E h,Ag s.n0 s.E0 E→Sat E s.F H h→Kp s.F s.h0 h → ∀ch h',R E h (.panicked ch) h'→Unw s.c (gD E ds) (.panicking ch) (gF E l) h')
  (hr:∀E h,Ag s.n0 s.E0 E→Sat E s.F H h→Kp s.F s.h0 h → ∀v h',R E h (.returned v) h'→aX s.c (gD E ds) (.ops all rest::k) (upd (gF E l) o.dst v) h')
  (hop:o.op=.call cl:=by rfl) (hcal:cl.callee=.value x:=by rfl) (hx:iM l x=some (g,first,captured):=by rfl) (hargs:kH l cl.args.toList=some vs:=by rfl)
  (hgd:cJ l all o=some true:=by rfl) (hdn:dD s.c.n o.dst=true:=by rfl):aA s ds nx (.ops all (o::rest)::k) l H:=.mk fun E h hA S K=>
 aX.callE (first:=(SV.gs E first).toArray) (captured:=(SV.gs E captured).toArray) (vs:=SV.gs E vs) (by rw [xW];exact H1 E h hA S K) (hno E h) (hp E h hA S K) (hr E h hA S K) hop hcal (mC hx) (lE hargs) (cD hgd) hdn
theorem aA.callV {X:Value}
  (H1:∀E h,Ag s.n0 s.E0 E→Sat E s.F H h→Kp s.F s.h0 h→FnV P g (SV.gs E (first++(vs++captured))).toArray h fun r h'=>r=X∧bW h.size h h')
  (hr:jR l o.dst (.v X) fun l=>aA s ds nx (.ops all rest::k) l H)
  (hop:o.op=.call cl:=by rfl) (hcal:cl.callee=.value x:=by rfl) (hx:iM l x=some (g,first,captured):=by rfl) (hargs:kH l cl.args.toList=some vs:=by rfl)
  (hgd:cJ l all o=some true:=by rfl) (hdn:dD s.c.n o.dst=true:=by rfl):aA s ds nx (.ops all (o::rest)::k) l H:=by
 refine aA.callE (R:=fun E h e h'=>∃v,e=.returned v∧v=X∧bW h.size h h') H1 ?_ ?_ ?_ hop hcal hx hargs hgd hdn
 ·rintro E h h' ⟨v,e,_⟩;cases e
 ·rintro E h _ _ _ ch h' ⟨v,e,_⟩;cases e
 rintro E h hA S K v h' ⟨v',e,rfl,hk⟩
 cases e
 obtain ⟨S',K'⟩:=S.keeps K hk
 rw [bR] at hr
 have:=hr.run E h' hA S' K'
 rw [iB] at this
 exact this
theorem aA.ext {X:Value} (H1:∀E,Ext P g (SV.gs E (first++(vs++captured))).toArray X)
  (hr:jR l o.dst (.v X) fun l=>aA s ds nx (.ops all rest::k) l H)
  (hop:o.op=.call cl:=by rfl) (hcal:cl.callee=.value x:=by rfl) (hx:iM l x=some (g,first,captured):=by rfl) (hargs:kH l cl.args.toList=some vs:=by rfl)
  (hgd:cJ l all o=some true:=by rfl) (hdn:dD s.c.n o.dst=true:=by rfl):aA s ds nx (.ops all (o::rest)::k) l H:=
 aA.effK (x:=.v X) (H':=H) (cV.of_eff (by simp [kX,cN,dQ,hop,hcal]) fun E h S K=>(Eff.ext (first:=(SV.gs E first).toArray) (captured:=(SV.gs E captured).toArray) (vs:=SV.gs E vs) (by rw [xW];exact H1 E) hop hcal (mC hx) (lE hargs)).toS S K) (fun E=>cD hgd) hdn (by unfold jL;rw [hop]) (by rw [bR] at hr;exact hr)
end
/-! ends -/
def aNY {P:Program} (T:Tab P) (l:SFr) (H:SH):List ResultVar→Option (List SV)
 | []=>some []
 | .tmp t::rs=>match wV l t with
  |some x=>match aNY T l H rs with
   |some xs=>some (x::xs)
   |none=>none
  |none=>none
 | .cell a t::rs=>match wV l a with
  |some (.ptr b off)=>match dE H b with
   |some (.cells _ cs)=>match fY T t with
    |true=>match nth cs off with
     |some x=>match aNY T l H rs with
      |some xs=>some (x::xs)
      |none=>none
     |none=>none
    |false=>match xZ T t with
     |true=>match eQ T.inf t with
      |some i=>match Nat.ble (off+i.size) cs.length with
       |true=>match aNY T l H rs with
        |some xs=>some (.agg ((cs.drop off).take i.size)::xs)
        |none=>none
       |false=>none
      |none=>none
     |false=>none
   |_=>none
  |_=>none
def tupS:List SV→SV
 | [x]=>x
 |xs=>.tup xs
theorem tupS_g (E:Env) (xs:List SV):(tupS xs).g E=tup (SV.gs E xs):=by
 cases xs with
 |nil=>rfl
 |cons x xs=>cases xs<;>rfl
theorem aDW (T:Tab P) {E:Env} {F:Nat→Prop} {l:SFr} {H:SH} {h:Array Obj} (S:Sat E F H h):∀ {rs:List ResultVar} {xs:List SV},aNY T l H rs=some xs→aBA T (gF E l) h rs (SV.gs E xs)
 | [],xs,hx=>by simp only [aNY,Option.some.injEq] at hx;subst hx;trivial
 | .tmp t::rs,xs,hx=>by
  simp only [aNY] at hx
  split at hx
  ·rename_i x h1
   split at hx
   ·rename_i ys h2
    simp only [Option.some.injEq] at hx
    subst hx
    exact ⟨jC h1,aDW T S h2⟩
   cases hx
  cases hx
 | .cell a t::rs,xs,hx=>by
  simp only [aNY] at hx
  split at hx
  ·rename_i b off hl
   split at hx
   ·rename_i t' cs hb
    obtain ⟨_,h2,_⟩:=S.cellsAt hb
    split at hx
    ·rename_i hs
     split at hx
     ·rename_i x hn
      split at hx
      ·rename_i ys h3
       simp only [Option.some.injEq] at hx
       subst hx
       refine ⟨⟨_,_,jC hl,.inl ⟨hs,?_⟩⟩,aDW T S h3⟩
       rw [iF] at hn
       rw [h2.cell];simp [vJ,hn]
      cases hx
     cases hx
    split at hx
    ·rename_i hag
     split at hx
     ·rename_i i hi
      split at hx
      ·rename_i hle
       split at hx
       ·rename_i ys h3
        simp only [Option.some.injEq] at hx
        subst hx
        have:=Nat.le_of_ble_eq_true hle
        refine ⟨⟨_,_,jC hl,.inr ⟨i,SV.gs E ((cs.drop off).take i.size),hag,hi,by simp [kL];omega,fun j v hj=>?_,rfl⟩⟩,aDW T S h3⟩
        rw [h2.cell]
        simpa using zE E cs off i.size j hj
       cases hx
      cases hx
     cases hx
    cases hx
   cases hx
  cases hx
section
variable {f n nx:Nat} {w0:World} {cs:List Frame} {R:Ending→Array Obj→Prop} {F:Nat→Prop} {h0:Array Obj} {E0:Env} {n0:Nat} {k:List SI} {l:SFr} {H:SH} {ds:List dS} {s:SCx P}
theorem aE.ret (T:Tab P) {fn:Func} {xs:List SV} (hf:P.funcs[f]? = some fn) (hx:aNY T l H fn.results.toList=some xs)
  (hR:∀E h,Ag n0 E0 E→Sat E F H h→Kp F h0 h→R (.returned ((tupS xs).g E)) h):aE ⟨gT P f n w0 cs R,F,h0,E0,n0⟩ [] .returning nx l H:=.mk fun E h hA S K=>
 Unw.retA T hf (aDW T S hx) (by rw [←tupS_g];exact hR E h hA S K)
theorem aE.pan {ch:List PanicEntry} {fn:Func} (hf:P.funcs[f]? = some fn)
  (hR:∀E h,Ag n0 E0 E→Sat E F H h→Kp F h0 h→R (.panicked ch) h):aE ⟨gT P f n w0 cs R,F,h0,E0,n0⟩ [] (.panicking ch) nx l H:=.mk fun E h hA S K=>
 Unw.pan hf (hR E h hA S K)
theorem aA.retU (hr:aE s ds .returning nx l H) (hro:s.c.round=none:=by rfl):aA s ds nx (.code .ret::k) l H:=.mk fun E h hA S K=>aX.retU (hr.run E h hA S K) hro
theorem aA.finU (hr:aE s ds .returning nx l H) (hro:s.c.round=none:=by rfl):aA s ds nx [] l H:=.mk fun E h hA S K=>aX.finU (hr.run E h hA S K) hro
theorem aA.panicU {all:Array Oper} {rest:List Oper} {o:Oper} {x:Operand} {t:TypeId} {v:Value} (hr:aE s ds (.panicking [{v:=.iface t v,recovered:=false}]) nx l H)
  (hop:o.op=.panic x:=by rfl) (hx:evS l x=some (.v (.iface t v)):=by rfl) (hgd:cJ l all o=some true:=by rfl):aA s ds nx (.ops all (o::rest)::k) l H:=.mk fun E h hA S K=>
 aX.panicU (hr.run E h hA S K) hop (bT hx) (cD hgd)
theorem aA.panicX {all:Array Oper} {rest:List Oper} {o:Oper} {x:Operand} {t:TypeId} {y:SV} {v:Value} (hr:aE s ds (.panicking [{v:=.iface t v,recovered:=false}]) nx l H) (hy:∀E,y.g E=v)
  (hop:o.op=.panic x:=by rfl) (hx:evS l x=some (.ifc t y):=by rfl) (hgd:cJ l all o=some true:=by rfl):aA s ds nx (.ops all (o::rest)::k) l H:=.mk fun E h hA S K=>
 aX.panicU (hr.run E h hA S K) hop (by rw [bT hx,SV.g,hy]) (cD hgd)
theorem aA.deferU {all:Array Oper} {rest:List Oper} {o:Oper} {cl:Call} {x:Operand} {g:FuncId} {first captured vs:List SV}
  (hr:aA s (⟨g,captured,first++vs⟩::ds) nx (.ops all rest::k) l H)
  (hop:o.op=.defer cl:=by rfl) (hcal:cl.callee=.value x:=by rfl) (hx:iM l x=some (g,first,captured):=by rfl) (hargs:kH l cl.args.toList=some vs:=by rfl)
  (hgd:cJ l all o=some true:=by rfl) (hdst:o.dst=none:=by rfl) (hro:s.c.round=none:=by rfl):aA s ds nx (.ops all (o::rest)::k) l H:=.mk fun E h hA S K=>by
 refine aX.deferU (first:=(SV.gs E first).toArray) (captured:=(SV.gs E captured).toArray) (vs:=SV.gs E vs) ?_ hop hcal (mC hx) (lE hargs) (cD hgd) hdst hro
 have:=hr.run E h hA S K
 simp only [gD,dS.c,aKW] at this
 simpa using this
end
def argS:Nat→List Value→SFr
 |_,[]=>[]
 |i,v::vs=>(i,.v v)::argS (i+1) vs
theorem aRP (E:Env):∀(i:Nat) (vs:List Value),gF E (argS i vs)=yK i vs
 |_,[]=>rfl
 |i,v::vs=>by simp only [argS,gF,SV.g,yK,aRP E (i+1) vs]
def argK:Nat→List Value→(SFr→Prop)→Prop
 |_,[],K=>K []
 |i,v::vs,K=>argK (i+1) vs fun l=>K ((i,.v v)::l)
theorem aQW:∀(i:Nat) (vs:List Value) (K:SFr→Prop),argK i vs K=K (argS i vs)
 |_,[],_=>rfl
 |i,v::vs,K=>by simp only [argK,argS,aQW (i+1) vs]
theorem Sat.nil {E:Env} {F:Nat→Prop} {h:Array Obj}:Sat E F [] h:=⟨fun _ h=>(by cases h),List.Pairwise.nil⟩
theorem Kp.start (h:Array Obj):Kp (fun k=>k<h.size) h h:=⟨Nat.le_refl _,fun _ _=>rfl,fun _ h=>h⟩
theorem Kp.keeps {h h':Array Obj} (K:Kp (fun k=>k<h.size) h h'):bW h.size h h':=⟨K.size,K.same⟩
theorem Fn.ofS {f:FuncId} {fn:Func} {code:Code} (hf:P.funcs[f]? = some fn) (hname:(fn.name == "runtime.NumGoroutine")=false) (hb:fn.body=some code) {n:Nat} (hnt:fn.ntmps=n)
  {args:List Value} (hargs:Nat.ble args.length n=true) {h:Array Obj} {R:Ending→Array Obj→Prop}
  (H:∀w0 cs,argK 0 args fun l=>aA ⟨gT P f n w0 cs R,fun k=>k<h.size,h,fun _=>undef,0⟩ [] 0 [.code code] l []):Fn P f args.toArray h R:=
 Fn.of hf hname hb hnt hargs fun w0 cs=>by
  have H:=H w0 cs
  rw [aQW] at H
  have:=H.run (fun _=>undef) h (fun _ _=>rfl) Sat.nil (Kp.start h)
  rw [aRP] at this
  exact this
end Go.Fw

namespace Go.Fw
open Go
variable {P:Program}
set_option maxHeartbeats 8000000
inductive Tr where
 |done
 |fl (k:Nat) (t:Tr)
 |e1 (k:Nat) (keep:List Nat) (t:Tr)
 |e2 (k1:Nat) (keep1:List Nat) (t1:Tr) (k2:Nat) (keep2:List Nat) (t2:Tr)
 |e3 (k1:Nat) (keep1:List Nat) (t1:Tr) (k2:Nat) (keep2:List Nat) (t2:Tr) (k3:Nat) (keep3:List Nat) (t3:Tr)
section any
variable {ops:Array Oper} {md:Region.Mode} {Q:Exit→Act→World→Prop}
def aHF (P:Program) (md:Region.Mode) (ops:Array Oper) (Q:Exit→Act→World→Prop):Tr→uP→Act→World→Prop
 | .done,_,a,w=>Q .normal a w
 | .fl k t,pins,a,w=>∃o,ops[k]? = some o∧cN o=true ∧ ∃v C,YieldsIf P ops C o v a∧C w∧aHF P md ops Q t ((k,C)::pins) (a.put o.dst v) w
 | .e1 k _ t,pins,a,w=>cT ops k=false∧wpOp P ops Q k (fun a' w'=>(∀p∈pins,k∈pY md ops p.1∨p.2 w')∧aHF P md ops Q t pins a' w') a w
 | .e2 k1 _ t1 k2 _ t2,pins,a,w=>(cT ops k1=false∧wpOp P ops Q k1 (fun a' w'=>(∀p∈pins,k1∈pY md ops p.1∨p.2 w')∧aHF P md ops Q t1 pins a' w') a w) ∧
   (cT ops k2=false∧wpOp P ops Q k2 (fun a' w'=>(∀p∈pins,k2∈pY md ops p.1∨p.2 w')∧aHF P md ops Q t2 pins a' w') a w)
 | .e3 k1 _ t1 k2 _ t2 k3 _ t3,pins,a,w=>(cT ops k1=false∧wpOp P ops Q k1 (fun a' w'=>(∀p∈pins,k1∈pY md ops p.1∨p.2 w')∧aHF P md ops Q t1 pins a' w') a w) ∧
   (cT ops k2=false∧wpOp P ops Q k2 (fun a' w'=>(∀p∈pins,k2∈pY md ops p.1∨p.2 w')∧aHF P md ops Q t2 pins a' w') a w) ∧
   (cT ops k3=false∧wpOp P ops Q k3 (fun a' w'=>(∀p∈pins,k3∈pY md ops p.1∨p.2 w')∧aHF P md ops Q t3 pins a' w') a w)
def zA (md:Region.Mode) (ops:Array Oper) (taken:List Nat) (k:Nat) (keep:List Nat):Bool:=taken.all fun p=>uL p keep||(pY md ops p).contains k
def mW (md:Region.Mode) (ops:Array Oper):Tr→Nat→List Nat→Array Bool→Bool
 | .done,f,_,listed=>decide (f=0)&&decide (Region.ready md ops listed=[])
 | .fl k t,f,taken,listed=>match f with
  |0=>false
  |f+1=>(Region.ready md ops listed).contains k&&Region.free md ops listed k&&cT ops k && !uL k taken&&mW md ops t f (if fU ops k then taken else k::taken) (listed.setIfInBounds k true)
 | .e1 k keep t,f,taken,listed=>match f with
  |0=>false
  |f+1=>decide (Region.ready md ops listed=[k])&&zA md ops taken k keep&&mW md ops t f taken (listed.setIfInBounds k true)
 | .e2 k1 keep1 t1 k2 keep2 t2,f,taken,listed=>match f with
  |0=>false
  |f+1=>decide (Region.ready md ops listed=[k1,k2])&&(zA md ops taken k1 keep1&&mW md ops t1 f taken (listed.setIfInBounds k1 true))&&(zA md ops taken k2 keep2&&mW md ops t2 f taken (listed.setIfInBounds k2 true))
 | .e3 k1 keep1 t1 k2 keep2 t2 k3 keep3 t3,f,taken,listed=>match f with
  |0=>false
  |f+1=>decide (Region.ready md ops listed=[k1,k2,k3])&&(zA md ops taken k1 keep1&&mW md ops t1 f taken (listed.setIfInBounds k1 true))&&(zA md ops taken k2 keep2&&mW md ops t2 f taken (listed.setIfInBounds k2 true)) &&
    (zA md ops taken k3 keep3&&mW md ops t3 f taken (listed.setIfInBounds k3 true))
theorem sem4_C (hsel:Region.noSelect ops=true) (hQ:∀(k:Nat) (o:Oper),ops[k]? = some o → ∀v c a w,Q (.panic c) (a.put o.dst v) w→Q (.panic c) a w):∀(t:Tr) (f:Nat) (taken:List Nat) (pins:uP) (listed:Array Bool) (a:Act) (w:World),gH md ops listed→mW md ops t f taken listed=true →
  aHF P md ops Q t pins a w→rZ P md ops Q pins f listed a w:=by
 intro t
 induction t with
 |done=>
  intro f taken pins listed a w inv hc h
  simp only [mW,Bool.and_eq_true,decide_eq_true_eq] at hc
  obtain ⟨rfl,hc⟩:=hc
  exact ⟨hc,h⟩
 |fl k t ih=>
  intro f taken pins listed a w inv hc h
  cases f with
  |zero=>simp [mW] at hc
  |succ f=>
   simp only [mW,Bool.and_eq_true] at hc
   obtain ⟨o,ho,hf,v,C,hy,hC,h⟩:=h
   have hr:k∈Region.ready md ops listed:=by simpa using hc.1.1.1.1
   exact aHJ ho (Region.noSelect_spec hsel) (hQ k o ho v) hc.1.1.2 f listed a w inv (Region.free_spec ho hc.1.1.1.2) hr hy hC (ih f _ _ _ _ w (inv.set hr) hc.2 h)
 |e1 k keep t ih=>
  intro f taken pins listed a w inv hc h
  cases f with
  |zero=>simp [mW] at hc
  |succ f=>
   simp only [mW,Bool.and_eq_true,decide_eq_true_eq] at hc
   refine ⟨fun h0=>(by rw [hc.1.1] at h0;cases h0),fun i hi=>?_⟩
   have hik:i=k:=by rw [hc.1.1] at hi;simpa using hi
   subst hik
   exact wpOp_mono (fun a' w' h'=>⟨⟨fun h0=>(by rw [h.1] at h0;cases h0),fun _=>h'.1⟩,ih f _ _ _ a' w' (inv.set hi) hc.2 h'.2⟩) h.2
 |e2 k1 keep1 t1 k2 keep2 t2 ih1 ih2=>
  intro f taken pins listed a w inv hc h
  cases f with
  |zero=>simp [mW] at hc
  |succ f=>
   simp only [mW,Bool.and_eq_true,decide_eq_true_eq] at hc
   refine ⟨fun h0=>(by rw [hc.1.1] at h0;cases h0),fun i hi=>?_⟩
   have hik:i=k1∨i=k2:=by rw [hc.1.1] at hi;simpa using hi
   rcases hik with rfl|rfl
   ·exact wpOp_mono (fun a' w' h'=>⟨⟨fun h0=>(by rw [h.1.1] at h0;cases h0),fun _=>h'.1⟩,ih1 f _ _ _ a' w' (inv.set hi) hc.1.2.2 h'.2⟩) h.1.2
   exact wpOp_mono (fun a' w' h'=>⟨⟨fun h0=>(by rw [h.2.1] at h0;cases h0),fun _=>h'.1⟩,ih2 f _ _ _ a' w' (inv.set hi) hc.2.2 h'.2⟩) h.2.2
 |e3 k1 keep1 t1 k2 keep2 t2 k3 keep3 t3 ih1 ih2 ih3=>
  intro f taken pins listed a w inv hc h
  cases f with
  |zero=>simp [mW] at hc
  |succ f=>
   simp only [mW,Bool.and_eq_true,decide_eq_true_eq] at hc
   refine ⟨fun h0=>(by rw [hc.1.1.1] at h0;cases h0),fun i hi=>?_⟩
   have hik:i=k1∨i=k2∨i=k3:=by rw [hc.1.1.1] at hi;simpa using hi
   rcases hik with rfl|rfl|rfl
   ·exact wpOp_mono (fun a' w' h'=>⟨⟨fun h0=>(by rw [h.1.1] at h0;cases h0),fun _=>h'.1⟩,ih1 f _ _ _ a' w' (inv.set hi) hc.1.1.2.2 h'.2⟩) h.1.2
   ·exact wpOp_mono (fun a' w' h'=>⟨⟨fun h0=>(by rw [h.2.1.1] at h0;cases h0),fun _=>h'.1⟩,ih2 f _ _ _ a' w' (inv.set hi) hc.1.2.2 h'.2⟩) h.2.1.2
   exact wpOp_mono (fun a' w' h'=>⟨⟨fun h0=>(by rw [h.2.2.1] at h0;cases h0),fun _=>h'.1⟩,ih3 f _ _ _ a' w' (inv.set hi) hc.2.2 h'.2⟩) h.2.2.2
end any
/-! what a load has read -/
inductive cW where
 |cell (b off:Nat) (x:SV)
 |cells (b off:Nat) (xs:List SV)
 |rws (b sz:Nat) (rows:List (List Value))
 |none
def bdP (n:Nat):cW→Bool
 | .cell b _ x=>match Nat.blt b n with
  |true=>x.bd n
  |false=>false
 | .cells b _ xs=>match Nat.blt b n with
  |true=>SV.bds n xs
  |false=>false
 | .rws b _ _=>Nat.blt b n
 | .none=>true
def yU (n:Nat):List (Nat×cW)→Bool
 | []=>true
 |(_,p)::ps=>match bdP n p with
  |true=>yU n ps
  |false=>false
theorem aNH {n:Nat}:∀ {ps:List (Nat×cW)} {q:Nat×cW},yU n ps=true→q∈ps→bdP n q.2=true
 | [],_,_,h=>by cases h
 |(k,p)::ps,q,h,hq=>by
  simp only [yU] at h
  cases hp:bdP n p with
  |false=>simp [hp] at h
  |true=>
   simp only [hp] at h
   rcases List.mem_cons.1 hq with rfl|hq
   ·exact hp
   exact aNH h hq
def cW.at (F:Nat→Prop) (h0:Array Obj) (E:Env) (h:Array Obj):cW→Prop
 | .cell b off x=>eK h (jH (E b)) off=some (x.g E)
 | .cells b off xs=>kW h (jH (E b)) off (SV.gs E xs)
 | .rws b _ rows=>∃a cap,E b=.slice a rows.length cap∧(rows=[] ∨ ∃g o,a=some ⟨g,o,Option.none⟩∧kW h g o rows.flatten)
 | .none=>Kp F h0 h
def cW.in (H:SH):cW→Prop
 | .cell b off x=>match dE H b with
  |some (.cells _ cs)=>nth cs off=some x
  |_=>False
 | .cells b off xs=>match dE H b with
  |some (.cells _ cs)=>(cs.drop off).take xs.length=xs
  |_=>False
 | .rws b sz rows=>rowsAt H b=some (sz,rows)
 | .none=>True
theorem cW.at_of {F:Nat→Prop} {h0:Array Obj} {E:Env} {H:SH} {h:Array Obj} (S:Sat E F H h) (K:Kp F h0 h) {p:cW} (hp:p.in H):p.at F h0 E h:=by
 cases p with
 |cell b off x=>
  simp only [cW.in] at hp
  split at hp
  ·rename_i hl
   obtain ⟨_,h2,_⟩:=S.cellsAt hl
   rw [iF] at hp
   simp only [cW.at]
   rw [h2.cell];simp [vJ,hp]
  exact hp.elim
 |cells b off xs=>
  simp only [cW.in] at hp
  split at hp
  ·rename_i cs hl
   obtain ⟨_,h2,_⟩:=S.cellsAt hl
   intro j v hj
   rw [h2.cell]
   rw [←hp] at hj
   simpa using zE E cs off xs.length j hj
  exact hp.elim
 |rws b sz rows=>
  exact (S.rowsAt hp).2
 |none=>exact K
theorem cW.at_ag {n:Nat} {E E':Env} (A:Ag n E E') {F:Nat→Prop} {h0 h:Array Obj} {p:cW} (hb:bdP n p=true) (hp:p.at F h0 E' h):p.at F h0 E h:=by
 cases p with
 |cell b off x=>
  simp only [bdP] at hb
  cases hx:Nat.blt b n with
  |false=>simp [hx] at hb
  |true=>
   simp only [hx] at hb
   simp only [cW.at] at hp ⊢
   rw [A b (Nat.blt_eq.mp hx),SV.g_ag A x hb] at hp
   exact hp
 |cells b off xs=>
  simp only [bdP] at hb
  cases hx:Nat.blt b n with
  |false=>simp [hx] at hb
  |true=>
   simp only [hx] at hb
   simp only [cW.at] at hp ⊢
   rw [A b (Nat.blt_eq.mp hx),SV.gs_ag A xs hb] at hp
   exact hp
 |rws b sz rows=>
  simp only [bdP] at hb
  simp only [cW.at] at hp ⊢
  rw [A b (Nat.blt_eq.mp hb)] at hp
  exact hp
 |none=>exact hp
def kN (H:SH) (keep:List Nat):List (Nat×cW)→Prop
 | []=>True
 |(k,p)::ps=>match uL k keep with
  |true=>p.in H∧kN H keep ps
  |false=>kN H keep ps
theorem lZ {H:SH} {keep:List Nat}:∀ {ps:List (Nat×cW)},kN H keep ps → ∀k p,(k,p)∈ps→k∈keep→p.in H
 | [],_,_,_,h,_=>by cases h
 |(j,q)::ps,hh,k,p,hm,hk=>by
  simp only [kN] at hh
  cases hj:uL j keep with
  |true=>
   simp only [hj] at hh
   rcases List.mem_cons.1 hm with e|hm
   ·cases e;exact hh.1
   exact lZ hh.2 k p hm hk
  |false=>
   simp only [hj] at hh
   rcases List.mem_cons.1 hm with e|hm
   ·cases e;rw [iA.2 hk] at hj;cases hj
   exact lZ hh k p hm hk
structure aMM (F:Nat→Prop) (h0:Array Obj) (E:Env) (taken:List Nat) (ps:List (Nat×cW)) (G:uP):Prop where
 full:∀q∈G,(∀w,q.2 w)∨(q.1∈taken ∧ ∃p,(q.1,p)∈ps ∧ ∀w:World,p.at F h0 E w.heap→q.2 w)
 tk:∀k p,(k,p)∈ps→k∈taken
theorem aMM.ag {n:Nat} {F:Nat→Prop} {h0:Array Obj} {E E':Env} {taken:List Nat} {ps:List (Nat×cW)} {G:uP} (R:aMM F h0 E taken ps G) (A:Ag n E E') (hb:yU n ps=true):aMM F h0 E' taken ps G:=
 ⟨fun q hq=>(R.full q hq).imp id fun ⟨h1,p,h2,h3⟩=>⟨h1,p,h2,fun w hw=>h3 w (cW.at_ag A (aNH hb h2) hw)⟩,R.tk⟩
def cutS (D:List Nat):SFr→SFr
 | []=>[]
 |(d,v)::l=>match uL d D with
  |true=>cutS D l
  |false=>(d,v)::cutS D l
theorem uA (E:Env) (D:List Nat):∀l:SFr,gF E (cutS D l)=aGE D (gF E l)
 | []=>rfl
 |(d,v)::l=>by
  simp only [cutS,gF,aGE]
  cases uL d D with
  |true=>exact uA E D l
  |false=>simp only [gF,uA E D l]
structure bK (s:SCx P) (ds:List dS) (all:List Oper) (st:List SI) (t:Tr) (taken:List Nat) (ps:List (Nat×cW)) (nx:Nat) (l:SFr) (H:SH):Prop where
 run:∀(E:Env) (h:Array Obj),Ag s.n0 s.E0 E→Sat E s.F H h→Kp s.F s.h0 h → ∀(Q:Exit→Act→World→Prop) (D:List Deferred),gD E ds=D →
  (∀l' h' a w,aX s.c D st l' h'→bO s.c.n l' a→a.defers=D→w.heap=h'→fL s.c.w0 w→Q .normal a w) →
  (∀l' ch h' a w,Unw s.c D (.panicking ch) (aGE (aAY all) l') h'→bO s.c.n l' a→a.defers=D→w.heap=h'→fL s.c.w0 w→Q (.panic ch) a w) →
  ∀G,aMM s.F s.h0 E taken ps G → ∀f listed,mW .any all.toArray t f taken listed=true →
  ∀a w,bO s.c.n (gF E l) a→a.defers=D→w.heap=h→fL s.c.w0 w→aHF P .any all.toArray Q t G a w
section
variable {s:SCx P} {ds:List dS} {all:List Oper} {st:List SI} {t:Tr} {taken:List Nat} {ps:List (Nat×cW)} {nx:Nat} {l:SFr} {H:SH}
theorem bK.done (hr:aA s ds nx st l H):bK s ds all st .done taken ps nx l H:=
 ⟨fun E h hA S K Q D hD hN hP G hG f listed hc a w ha hd hh hw=>hN _ _ a w (hD▸hr.run E h hA S K) ha hd hh hw⟩
theorem bK.fl {k:Nat} {o:Oper} {x:SV} {p:cW} (ho:all[k]? = some o) (hf:cN o=true) (hdst:dD s.c.n o.dst=true) {taken':List Nat} (htk:taken'=if fU all.toArray k then taken else k::taken)
  (ps':List (Nat×cW)) (hps:ps'=if fU all.toArray k then ps else (k,p)::ps)
  (hin:fU all.toArray k=false→p.in H)
  (hy:∀E h,Sat E s.F H h→Kp s.F s.h0 h → ∀a,bO s.c.n (gF E l) a→YieldsIf P all.toArray (fun w=>fU all.toArray k=true∨p.at s.F s.h0 E w.heap) o (x.g E) a)
  (hr:bK s ds all st t taken' ps' nx (aKR l o.dst x) H):bK s ds all st (.fl k t) taken ps nx l H:=by
 refine ⟨fun E h hA S K Q D hD hN hP G hG f listed hc a w ha hd hh hw=>?_⟩
 cases f with
 |zero=>simp [mW] at hc
 |succ f=>
  simp only [mW,Bool.and_eq_true] at hc
  have hnk:k∉taken:=fun hk=>by have:=hc.1.2;rw [iA.2 hk] at this;simp at this
  refine ⟨o,by simpa using ho,hf,x.g E,_,hy E h S K a ha,?_,?_⟩
  ·cases hp:fU all.toArray k with
   |true=>exact .inl rfl
   |false=>exact .inr (by rw [hh];exact cW.at_of S K (hin hp))
  rw [←htk] at hc
  refine hr.run E h hA S K Q D hD hN hP _ ?_ f _ hc.2 _ w ?_ (by cases o.dst<;>simpa [Act.put] using hd) hh hw
  ·refine ⟨fun q hq=>?_,fun j q hj=>?_⟩
   ·rcases List.mem_cons.1 hq with rfl|hq
    ·cases hp:fU all.toArray k with
     |true=>exact .inl fun w=>.inl rfl
     |false=>
      refine .inr ⟨by rw [htk,hp];simp,p,by rw [hps,hp];simp,fun w hw=>.inr hw⟩
    rcases hG.full q hq with h1|⟨h1,p',h2,h3⟩
    ·exact .inl h1
    refine .inr ⟨?_,p',?_,h3⟩
    ·rw [htk];split
     ·exact h1
     exact List.mem_cons_of_mem _ h1
    rw [hps];split
    ·exact h2
    exact List.mem_cons_of_mem _ h2
   rw [hps] at hj
   rw [htk]
   split at hj
   ·rename_i hp;simp only [hp,if_true];exact hG.tk j q hj
   rename_i hp
   simp only [hp]
   rcases List.mem_cons.1 hj with e|hj
   ·cases e;simp
   exact List.mem_cons_of_mem _ (hG.tk j q hj)
  rw [iB];exact fE ha (gJ hdst) _
structure aV (s:SCx P) (ds:List dS) (all:List Oper) (st:List SI) (k:Nat) (keep:List Nat) (t:Tr) (taken:List Nat) (ps:List (Nat×cW)) (nx:Nat) (l:SFr) (H:SH):Prop where
 run:∀(E:Env) (h:Array Obj),Ag s.n0 s.E0 E→Sat E s.F H h→Kp s.F s.h0 h → ∀(Q:Exit→Act→World→Prop) (D:List Deferred),gD E ds=D →
  (∀l' h' a w,aX s.c D st l' h'→bO s.c.n l' a→a.defers=D→w.heap=h'→fL s.c.w0 w→Q .normal a w) →
  (∀l' ch h' a w,Unw s.c D (.panicking ch) (aGE (aAY all) l') h'→bO s.c.n l' a→a.defers=D→w.heap=h'→fL s.c.w0 w→Q (.panic ch) a w) →
  ∀G,aMM s.F s.h0 E taken ps G→zA .any all.toArray taken k keep=true → ∀f listed,mW .any all.toArray t f taken listed=true →
  ∀a w,bO s.c.n (gF E l) a→a.defers=D→w.heap=h→fL s.c.w0 w →
   cT all.toArray k=false∧wpOp P all.toArray Q k (fun a' w'=>(∀p∈G,k∈pY .any all.toArray p.1∨p.2 w')∧aHF P .any all.toArray Q t G a' w') a w
theorem bK.e1 {k:Nat} {keep:List Nat} (h:aV s ds all st k keep t taken ps nx l H):bK s ds all st (.e1 k keep t) taken ps nx l H:=by
 refine ⟨fun E hh hA S K Q D hD hN hP G hG f listed hc a w ha hd hhh hw=>?_⟩
 cases f with
 |zero=>simp [mW] at hc
 |succ f=>
  simp only [mW,Bool.and_eq_true] at hc
  exact h.run E hh hA S K Q D hD hN hP G hG hc.1.2 f _ hc.2 a w ha hd hhh hw
theorem bK.e2 {k1 k2:Nat} {keep1 keep2:List Nat} {t1 t2:Tr} (h1:aV s ds all st k1 keep1 t1 taken ps nx l H) (h2:aV s ds all st k2 keep2 t2 taken ps nx l H):bK s ds all st (.e2 k1 keep1 t1 k2 keep2 t2) taken ps nx l H:=by
 refine ⟨fun E hh hA S K Q D hD hN hP G hG f listed hc a w ha hd hhh hw=>?_⟩
 cases f with
 |zero=>simp [mW] at hc
 |succ f=>
  simp only [mW,Bool.and_eq_true] at hc
  exact ⟨h1.run E hh hA S K Q D hD hN hP G hG hc.1.2.1 f _ hc.1.2.2 a w ha hd hhh hw,h2.run E hh hA S K Q D hD hN hP G hG hc.2.1 f _ hc.2.2 a w ha hd hhh hw⟩
theorem bK.e3 {k1 k2 k3:Nat} {keep1 keep2 keep3:List Nat} {t1 t2 t3:Tr} (h1:aV s ds all st k1 keep1 t1 taken ps nx l H) (h2:aV s ds all st k2 keep2 t2 taken ps nx l H) (h3:aV s ds all st k3 keep3 t3 taken ps nx l H):
  bK s ds all st (.e3 k1 keep1 t1 k2 keep2 t2 k3 keep3 t3) taken ps nx l H:=by
 refine ⟨fun E hh hA S K Q D hD hN hP G hG f listed hc a w ha hd hhh hw=>?_⟩
 cases f with
 |zero=>simp [mW] at hc
 |succ f=>
  simp only [mW,Bool.and_eq_true] at hc
  exact ⟨h1.run E hh hA S K Q D hD hN hP G hG hc.1.1.2.1 f _ hc.1.1.2.2 a w ha hd hhh hw,h2.run E hh hA S K Q D hD hN hP G hG hc.1.2.1 f _ hc.1.2.2 a w ha hd hhh hw,
   h3.run E hh hA S K Q D hD hN hP G hG hc.2.1 f _ hc.2.2 a w ha hd hhh hw⟩
theorem aV.of {k:Nat} {keep:List Nat} {o:Oper} (ho:all[k]? = some o) (hf:cN o=false) (hdst:dD s.c.n o.dst=true)
  {V:Env→Array Obj→Value→Array Obj→Prop} {PN:Env→Array Obj→List PanicEntry→Array Obj→Prop} (hgd:cJ l all.toArray o=some true)
  (hE:∀E h,Ag s.n0 s.E0 E→Sat E s.F H h→Kp s.F s.h0 h→yB P s.c.n (gF E l) h o (V E h) (PN E h))
  (hpan:∀E h,Ag s.n0 s.E0 E→Sat E s.F H h→Kp s.F s.h0 h → ∀ch h',PN E h ch h'→Unw s.c (gD E ds) (.panicking ch) (aGE (aAY all) (gF E l)) h')
  (hr:∀E h,Ag s.n0 s.E0 E→Sat E s.F H h→Kp s.F s.h0 h → ∀v h',V E h v h' → ∃(E':Env) (nx':Nat) (l':SFr) (H':SH),Ag nx E E'∧s.n0≤nx∧yU nx ps=true∧gD E' ds=gD E ds∧gF E' l'=upd (gF E l) o.dst v∧Sat E' s.F H' h'∧Kp s.F s.h0 h'∧kN H' keep ps∧bK s ds all st t taken ps nx' l' H'):
  aV s ds all st k keep t taken ps nx l H:=by
 refine ⟨fun E h hA S K Q D hD hN hP G hG hk f listed hc a w ha hd hh hw=>?_⟩
 have hfa:cT all.toArray k=false:=by
  have ho':all.toArray[k]? = some o:=by simpa using ho
  unfold cT;rw [ho'];exact hf
 refine ⟨hfa,?_⟩
 have hwn:=bQ ha (cD hgd)
 have ho':all.toArray[k]? = some o:=by simpa using ho
 unfold wpOp
 simp only [ho',hwn,if_true]
 refine .inl (hE E h hA S K a w ha hh _ _ (fun v w' hlk hV=>?_) fun ch w' hlk hPN=>hP (gF E l) ch w'.heap a w' (hD▸hpan E h hA S K ch _ hPN) ha hd rfl (hw.trans hlk))
 obtain ⟨E',nx',l',H',hag,hn,hbp,hgD,hgF,S',K',hpi,hrr⟩:=hr E h hA S K v _ hV
 have hG':=hG.ag hag hbp
 refine ⟨fun q hq=>?_,hrr.run E' w'.heap (hA.trans (hag.mono hn)) S' K' Q D (hgD.trans hD) hN hP G hG' f _ hc (a.put o.dst v) w' (by rw [hgF];exact fE ha (gJ hdst) v) (by cases o.dst<;>simpa [Act.put] using hd) rfl (hw.trans hlk)⟩
 rcases hG'.full q hq with h1|⟨h1,p,h2,h3⟩
 ·exact .inr (h1 w')
 have:=List.all_eq_true.1 hk q.1 h1
 simp only [Bool.or_eq_true,iA] at this
 rcases this with h4|h4
 ·exact .inr (h3 w' (cW.at_of S' K' (lZ hpi q.1 p h2 h4)))
 exact .inl (by simpa using h4)
end
end Go.Fw

namespace Go.Fw
open Go
variable {P:Program}
set_option maxHeartbeats 8000000
inductive LdR where
 |no
 |got (x:SV) (p:cW)
 |gota (b off:Nat) (cs:List SV)
 |rowv (b sz:Nat) (rows:List (List Value)) (i:Int) (off:Nat)
 |rowa (b sz:Nat) (rows:List (List Value)) (i:Int) (off m:Nat)
 |old (b off:Nat)
 |olda (b off m:Nat)
 |bad
def ldR (T:Tab P) (l:SFr) (H:SH) (op:Op):LdR:=
 match op with
 | .load t x=>match evS l x with
  |some (.ptr b off)=>match dE H b with
   |some (.cells _ cs)=>match fY T t with
    |true=>match nth cs off with
     |some v=>.got v (.cell b off v)
     |none=>.bad
    |false=>match xZ T t with
     |true=>match eQ T.inf t with
      |some i=>match Nat.ble (off+i.size) cs.length with
       |true=>.gota b off ((cs.drop off).take i.size)
       |false=>.bad
      |none=>.bad
     |false=>.bad
   |_=>.bad
  |some (.row b i off sz)=>match rowsAt H b with
   |some (sz',rows)=>match Nat.beq sz sz' with
    |true=>match fY T t with
     |true=>.rowv b sz rows i off
     |false=>match xZ T t with
      |true=>match eQ T.inf t with
       |some j=>.rowa b sz rows i off j.size
       |none=>.bad
      |false=>.bad
    |false=>.bad
   |none=>.bad
  |some (.v (.pointer (some ⟨b,off,none⟩)))=>match fY T t with
   |true=>.old b off
   |false=>match xZ T t with
    |true=>match eQ T.inf t with
     |some j=>.olda b off j.size
     |none=>.bad
    |false=>.bad
  |_=>.bad
 |_=>.no
def goR (T:Tab P) (n n0:Nat) (F:Nat→Prop) (h0:Array Obj) (ds:List dS) (all:List Oper) (st:List SI) (ops:Array Oper)
  (stop:Nat→List Nat→Tr→List Nat→List (Nat×cW)→Nat→SFr→SH→Prop) (K:Nat→SFr→SH→Prop):Tr→List Nat→List (Nat×cW)→Nat→SFr→SH→Prop
 | .done,_,_,nx,l,H=>K nx l H
 | .fl k t,taken,ps,nx,l,H=>match nth all k with
  |none=>False
  |some o=>match cN o with
   |false=>False
   |true=>match o.dst with
    |none=>False
    |some d=>match Nat.blt d n with
     |false=>False
     |true=>match cJ l ops o with
      |none=>False
      |some false=>match dQ o with
       |true=>goR T n n0 F h0 ds all st ops stop K t taken ps nx ((d,.v undef)::l) H
       |false=>goR T n n0 F h0 ds all st ops stop K t (k::taken) ((k,.none)::ps) nx ((d,.v undef)::l) H
      |some true=>match ldR T l H o.op with
       | .bad=>False
       | .got x p=>goR T n n0 F h0 ds all st ops stop K t (k::taken) ((k,p)::ps) nx ((d,x)::l) H
       | .gota b off cs=>pX cs fun cs=>goR T n n0 F h0 ds all st ops stop K t (k::taken) ((k,.cells b off cs)::ps) nx ((d,.agg cs)::l) H
       | .rowv b sz rows i off=>∃row,rows[i.toNat]? = some row∧(match nth row off with
        |some x=>goR T n n0 F h0 ds all st ops stop K t (k::taken) ((k,.rws b sz rows)::ps) nx ((d,.v x)::l) H
        |none=>False)
       | .rowa b sz rows i off m=>∃row,rows[i.toNat]? = some row∧off+m≤row.length∧pX (toV ((row.drop off).take m)) fun cs=>goR T n n0 F h0 ds all st ops stop K t (k::taken) ((k,.rws b sz rows)::ps) nx ((d,.agg cs)::l) H
       | .old b off=>∃v,OldC F h0 b off v∧goR T n n0 F h0 ds all st ops stop K t (k::taken) ((k,.none)::ps) nx ((d,.v v)::l) H
       | .olda b off m=>∃vs,(vs.length=m∧aHS F h0 b off vs)∧pX (toV vs) fun cs=>goR T n n0 F h0 ds all st ops stop K t (k::taken) ((k,.none)::ps) nx ((d,.agg cs)::l) H
       | .no=>match dQ o with
        |true=>match evO T l H nx o.op with
         | .val x=>goR T n n0 F h0 ds all st ops stop K t taken ps nx ((d,x)::l) H
         | .vala cs=>pX cs fun cs=>goR T n n0 F h0 ds all st ops stop K t taken ps nx ((d,.agg cs)::l) H
         | .ob p x=>p∧goR T n n0 F h0 ds all st ops stop K t taken ps nx ((d,x)::l) H
         | .tst p i=>match lW all all st d with
          |true=>(p→goR T n n0 F h0 ds all st ops stop K t taken ps nx ((d,.v (.bool true))::l) H)∧(¬p→goR T n n0 F h0 ds all st ops stop K t taken ps nx ((d,.v (.bool false))::l) H)
          |false=>goR T n n0 F h0 ds all st ops stop K t taken ps nx ((d,.v (.bool (@decide p i)))::l) H
         | .ntst p i=>match lW all all st d with
          |true=>(p→goR T n n0 F h0 ds all st ops stop K t taken ps nx ((d,.v (.bool false))::l) H)∧(¬p→goR T n n0 F h0 ds all st ops stop K t taken ps nx ((d,.v (.bool true))::l) H)
          |false=>goR T n n0 F h0 ds all st ops stop K t taken ps nx ((d,.v (.bool (!@decide p i)))::l) H
         | .rem x y=>∃r,aOF x y r∧goR T n n0 F h0 ds all st ops stop K t taken ps nx ((d,.v (.int .i64 r))::l) H
         | .sub p b=>match iX n0 nx l H ds with
          |false=>False
          |true=>match yU nx ps with
           |false=>False
           |true=>p∧goR T n n0 F h0 ds all st ops stop K t taken ps (nx+1) ((d,.buf nx)::l) ((nx,b)::H)
         |_=>False
        |false=>match evO T l H nx o.op with
         | .vala cs=>pX cs fun cs=>goR T n n0 F h0 ds all st ops stop K t (k::taken) ((k,.none)::ps) nx ((d,.agg cs)::l) H
         |_=>False
 | .e1 k keep t,taken,ps,nx,l,H=>goE k keep t (goR T n n0 F h0 ds all st ops stop K t) taken ps nx l H
 | .e2 k1 keep1 t1 k2 keep2 t2,taken,ps,nx,l,H=>goE k1 keep1 t1 (goR T n n0 F h0 ds all st ops stop K t1) taken ps nx l H∧goE k2 keep2 t2 (goR T n n0 F h0 ds all st ops stop K t2) taken ps nx l H
 | .e3 k1 keep1 t1 k2 keep2 t2 k3 keep3 t3,taken,ps,nx,l,H=>goE k1 keep1 t1 (goR T n n0 F h0 ds all st ops stop K t1) taken ps nx l H∧goE k2 keep2 t2 (goR T n n0 F h0 ds all st ops stop K t2) taken ps nx l H ∧
   goE k3 keep3 t3 (goR T n n0 F h0 ds all st ops stop K t3) taken ps nx l H
where
 goE (k:Nat) (keep:List Nat) (t:Tr) (next:List Nat→List (Nat×cW)→Nat→SFr→SH→Prop) (taken:List Nat) (ps:List (Nat×cW)) (nx:Nat) (l:SFr) (H:SH):Prop:=
  match nth all k with
  |none=>False
  |some o=>match cN o with
   |true=>False
   |false=>match dD n o.dst with
    |false=>False
    |true=>match cJ l ops o with
     |none=>False
     |some false=>kN H keep ps∧jR l o.dst (.v undef) fun l=>next taken ps nx l H
     |some true=>match evO T l H nx o.op with
      | .new x b=>match iX n0 nx l H ds with
       |false=>False
       |true=>match bdB nx b with
        |false=>False
        |true=>match yU nx ps with
         |false=>False
         |true=>wK b fun b=>kN ((nx,b)::H) keep ps∧jR l o.dst x fun l=>next taken ps (nx+1) l ((nx,b)::H)
      | .put b y=>wK y fun y=>aHL H b y fun H=>kN H keep ps∧jR l o.dst (.v undef) fun l=>next taken ps nx l H
      | .app p r b=>match iX n0 nx l H ds with
       |false=>False
       |true=>match yU nx ps with
        |false=>False
        |true=>p∧aRO H r fun H=>kN ((nx,b)::H) keep ps∧jR l o.dst (.buf nx) fun l=>next taken ps (nx+1) l ((nx,b)::H)
      |_=>stop k keep t taken ps nx l H
section
variable {s:SCx P} {ds:List dS} {all:List Oper} {st:List SI}
theorem ldR_no {T:Tab P} {l:SFr} {H:SH} {o:Oper} (h:ldR T l H o.op=.no) (hf:cN o=true):kX o=true:=by
 unfold ldR at h
 unfold kX
 split
 ·rename_i hop
  rw [hop] at h
  simp only at h
  split at h
  ·split at h
   ·split at h
    ·split at h<;>cases h
    split at h
    ·split at h
     ·split at h<;>cases h
     cases h
    cases h
   cases h
  ·split at h
   ·split at h
    ·split at h
     ·cases h
     split at h
     ·split at h<;>cases h
     cases h
    cases h
   cases h
  ·split at h
   ·cases h
   split at h
   ·split at h<;>cases h
   cases h
  cases h
 exact hf
theorem sT {T:Tab P} {l:SFr} {H:SH} {o:Oper} (h:ldR T l H o.op ≠ .no):∃t x,o.op=.load t x:=by
 unfold ldR at h
 split at h
 ·rename_i t x hop;exact ⟨t,x,hop⟩
 exact absurd rfl h
theorem aFB (T:Tab P) {L:Fr} {o:Oper} {t:TypeId} {x:Operand} {n b off:Nat} {v:Value} {a:Act} {w:World} (hop:o.op=.load t x) (ha:bO n L a) (hx:ev L x=some (.pointer (some ⟨b,off,none⟩))) (ht:fY T t=true) (hc:eK w.heap b off=some v):
  (execOp a.eval o).run P w=.ok (.value v) w:=by
 have hcell:=kT hc
 simp [execOp,hop,ha.ev hx,Instr.loadAt,Instr.sureAddr,loadVar,nG T ht,Go.load,Sem.run,hcell]
theorem aBY (T:Tab P) {L:Fr} {o:Oper} {t:TypeId} {x:Operand} {n b off:Nat} {vs:List Value} {i:Inf} {a:Act} {w:World} (hop:o.op=.load t x) (ha:bO n L a) (hx:ev L x=some (.pointer (some ⟨b,off,none⟩))) (ht:xZ T t=true) (hi:eQ T.inf t=some i) (hl:vs.length=i.size) (hc:kW w.heap b off vs):
  (execOp a.eval o).run P w=.ok (.value (.agg vs.toArray)) w:=by
 have hl':=run_loadCells_list (P:=P) w ⟨b,off,none⟩ vs (fun j v hv=>by rw [jK];exact kT (hc j v hv))
 rw [hl] at hl'
 simp [execOp,hop,ha.ev hx,Instr.loadAt,Instr.sureAddr,loadVar,xG T ht,oI T hi,hl']
def LdR.ok (s:SCx P) (l:SFr) (H:SH) (o:Oper):LdR→Prop
 | .no=>True
 | .bad=>True
 | .got x p=>p.in H ∧ ∀E h,Sat E s.F H h → ∀a w,bO s.c.n (gF E l) a→p.at s.F s.h0 E w.heap→(execOp a.eval o).run P w=.ok (.value (x.g E)) w
 | .gota b off cs=>(cW.cells b off cs).in H ∧ ∀E h,Sat E s.F H h → ∀a w,bO s.c.n (gF E l) a→(cW.cells b off cs).at s.F s.h0 E w.heap→(execOp a.eval o).run P w=.ok (.value ((SV.agg cs).g E)) w
 | .rowv b sz rows i off=>(cW.rws b sz rows).in H ∧ ∀row,rows[i.toNat]? = some row → ∀x,nth row off=some x → ∀E h,Sat E s.F H h → ∀a w,bO s.c.n (gF E l) a→(cW.rws b sz rows).at s.F s.h0 E w.heap→(execOp a.eval o).run P w=.ok (.value x) w
 | .rowa b sz rows i off m=>(cW.rws b sz rows).in H ∧ ∀row,rows[i.toNat]? = some row→off+m≤row.length → ∀E h,Sat E s.F H h → ∀a w,bO s.c.n (gF E l) a→(cW.rws b sz rows).at s.F s.h0 E w.heap→(execOp a.eval o).run P w=.ok (.value ((SV.agg (toV ((row.drop off).take m))).g E)) w
 | .old b off=>∀v,OldC s.F s.h0 b off v → ∀E a w,bO s.c.n (gF E l) a→Kp s.F s.h0 w.heap→(execOp a.eval o).run P w=.ok (.value v) w
 | .olda b off m=>∀vs,vs.length=m→aHS s.F s.h0 b off vs → ∀E a w,bO s.c.n (gF E l) a→Kp s.F s.h0 w.heap→(execOp a.eval o).run P w=.ok (.value ((SV.agg (toV vs)).g E)) w
theorem ldR_ok (T:Tab P) {l:SFr} {H:SH} {o:Oper}:(ldR T l H o.op).ok s l H o:=by
 unfold ldR
 split
 ·rename_i t x hop
  split
  ·rename_i b off hx
   split
   ·rename_i t' cs hl
    split
    ·rename_i hs
     split
     ·rename_i v hv
      refine ⟨by simp only [cW.in,hl];exact hv,fun E h S a w ha hc=>aFB T hop ha (bT hx) hs hc⟩
     trivial
    split
    ·rename_i hag
     split
     ·rename_i i hi
      split
      ·rename_i hle
       have hle:=Nat.le_of_ble_eq_true hle
       have hlen:((cs.drop off).take i.size).length=i.size:=by simp;omega
       refine ⟨by simp only [cW.in,hl,hlen],fun E h S a w ha hc=>?_⟩
       have:=aBY T hop ha (bT hx) hag hi (by rw [kL];exact hlen) hc
       exact this
      trivial
     trivial
    trivial
   trivial
  ·rename_i b i off sz hx
   split
   ·rename_i sz' rows hr
    split
    ·rename_i hb
     have:=Nat.eq_of_beq_eq_true hb
     subst this
     have adr:∀(E:Env) (row:List Value),rows[i.toNat]? = some row → ∀(a:Option Addr) (cap:Nat),E b=.slice a rows.length cap → ∀h,(rows=[] ∨ ∃g o,a=some ⟨g,o,none⟩∧kW h g o rows.flatten) →
       ∃g oo,ev (gF E l) x=some (.pointer (some ⟨g,oo+i.toNat*sz+off,none⟩))∧kW h g oo rows.flatten:=by
      intro E row hrow a cap hE h hc
      rcases hc with rfl|⟨g,oo,rfl,h4⟩
      ·simp at hrow
      have hx':=bT (E:=E) hx
      simp only [SV.g,hE,jH,ownB,aGN,Option.getD_some] at hx'
      exact ⟨g,oo,hx',h4⟩
     split
     ·rename_i hs
      refine ⟨hr,fun row hrow v hv E h S a w ha hc=>?_⟩
      obtain ⟨a',cap,hE,hc⟩:=hc
      obtain ⟨g,oo,hx',h4⟩:=adr E row hrow a' cap hE _ hc
      rw [iF] at hv
      refine aFB T hop ha hx' hs ?_
      rw [Nat.add_assoc]
      exact h4 _ _ (tG (S.rowsAt hr).1 hrow hv)
     split
     ·rename_i hag
      split
      ·rename_i j hi
       refine ⟨hr,fun row hrow hle E h S a w ha hc=>?_⟩
       obtain ⟨a',cap,hE,hc⟩:=hc
       obtain ⟨g,oo,hx',h4⟩:=adr E row hrow a' cap hE _ hc
       have:=aBY (w:=w) T (vs:=(row.drop off).take j.size) hop ha hx' hag hi (by simp;omega) (fun q v hq=>?_)
       ·simp only [SV.g,pV];exact this
       have hq':row[off+q]? = some v:=by
        rw [List.getElem?_take] at hq
        split at hq
        ·simpa using hq
        cases hq
       have:=h4 _ _ (tG (S.rowsAt hr).1 hrow hq')
       rw [show oo+i.toNat*sz+off+q=oo+(i.toNat*sz+(off+q)) by omega]
       exact this
      trivial
     trivial
    trivial
   trivial
  ·rename_i b off hx
   split
   ·rename_i hs
    intro v hv E a w ha K
    refine aFB T hop ha (bT hx) hs ?_
    have:=hv.2
    unfold eK at this ⊢
    rw [K.same b hv.1];exact this
   split
   ·rename_i hag
    split
    ·rename_i j hi
     intro vs hlen hv E a w ha K
     have:=aBY (w:=w) T (vs:=vs) hop ha (bT hx) hag hi hlen (fun q v hq=>?_)
     ·simp only [SV.g,pV];exact this
     obtain ⟨h1,h2⟩:=hv q v hq
     unfold eK at h2 ⊢
     rw [K.same b h1];exact h2
    trivial
   trivial
  trivial
 trivial
end
end Go.Fw

namespace Go.Fw
open Go
variable {P:Program}
set_option maxHeartbeats 16000000
section
variable {s:SCx P} {ds:List dS} {all:List Oper} {st:List SI}
theorem xB {all:List Oper} {k:Nat} {o:Oper} (ho:all[k]? = some o):fU all.toArray k=dQ o:=by
 have:all.toArray[k]? = some o:=by simpa using ho
 unfold fU;rw [this]
theorem bK.flP {t:Tr} {taken taken':List Nat} {ps ps':List (Nat×cW)} {nx:Nat} {l:SFr} {H:SH} {k:Nat} {o:Oper} {x:SV} {H':SH} {d:Nat} (ho:all[k]? = some o) (hf:cN o=true) (hd:o.dst=some d) (hdst:dD s.c.n o.dst=true) (hgd:cJ l all.toArray o=some true)
  (hk:cV P s.c.n s.F s.h0 l H o x H') (hpl:kX o=true) (htk:taken'=if dQ o then taken else k::taken) (hps:ps'=if dQ o then ps else (k,.none)::ps)
  (hr:bK s ds all st t taken' ps' nx ((d,x)::l) H):bK s ds all st (.fl k t) taken ps nx l H:=by
 have hp:=xB ho
 refine bK.fl (o:=o) (x:=x) (p:=.none) ho hf hdst (taken':=taken') (by rw [hp];exact htk) ps' (by rw [hp];exact hps) (fun _=>trivial) (fun E h S K a ha=>.inl ⟨?_,fun w _=>(hk.2 hpl).2 E h S K a w ha⟩) (by rw [hd];exact hr)
 have:=bQ ha (cD (E:=E) hgd)
 exact this
theorem bK.flS {t:Tr} {taken taken':List Nat} {ps ps':List (Nat×cW)} {nx:Nat} {l:SFr} {H:SH} {k:Nat} {o:Oper} {d:Nat} (ho:all[k]? = some o) (hf:cN o=true) (hd:o.dst=some d) (hdst:dD s.c.n o.dst=true) (hgd:cJ l all.toArray o=some false)
  (htk:taken'=if dQ o then taken else k::taken) (hps:ps'=if dQ o then ps else (k,.none)::ps)
  (hr:bK s ds all st t taken' ps' nx ((d,.v undef)::l) H):bK s ds all st (.fl k t) taken ps nx l H:=by
 have hp:=xB ho
 refine bK.fl (o:=o) (x:=.v undef) (p:=.none) ho hf hdst (taken':=taken') (by rw [hp];exact htk) ps' (by rw [hp];exact hps) (fun _=>trivial) (fun E h S K a ha=>.inr ⟨?_,rfl⟩) (by rw [hd];exact hr)
 have:=bQ ha (cD (E:=E) hgd)
 exact this
theorem bK.flN {t:Tr} {taken:List Nat} {ps:List (Nat×cW)} {nx:Nat} {l:SFr} {H:SH} {b:Blk} {k:Nat} {o:Oper} {d:Nat} (ho:all[k]? = some o) (hf:cN o=true) (hpu:dQ o=true) (hd:o.dst=some d) (hdst:dD s.c.n o.dst=true) (hgd:cJ l all.toArray o=some true)
  (hn:s.n0≤nx) (hb:bdF nx l=true) (hds:bdD nx ds=true) (hbp:yU nx ps=true)
  (hk:∀E h,Sat E s.F H h→Kp s.F s.h0 h → ∃v,(∀a w,bO s.c.n (gF E l) a→(execOp a.eval o).run P w=.ok (.value v) w)∧Sat (push E nx v) s.F ((nx,b)::H) h)
  (hr:bK s ds all st t taken ps (nx+1) ((d,.buf nx)::l) ((nx,b)::H)):bK s ds all st (.fl k t) taken ps nx l H:=by
 refine ⟨fun E h hA S K Q D hD hN hP G hG f listed hc a w ha hdf hh hw=>?_⟩
 have hp:fU all.toArray k=true:=by rw [xB ho];exact hpu
 cases f with
 |zero=>simp [mW] at hc
 |succ f=>
  simp only [mW,Bool.and_eq_true] at hc
  obtain ⟨v,h1,h2⟩:=hk E h S K
  have A:=jW E nx v
  have hY:YieldsIf P all.toArray (fun w=>fU all.toArray k=true∨True) o v a:=.inl ⟨bQ ha (cD (E:=E) hgd),fun w _=>h1 a w ha⟩
  refine ⟨o,by simpa using ho,hf,v,_,hY,.inl hp,?_⟩
  rw [hp] at hc
  simp only [if_true] at hc
  have hG':=hG.ag A hbp
  have hgf:gF (push E nx v) l=gF E l:=nC A l hb
  refine hr.run (push E nx v) h (hA.trans (A.mono hn)) h2 K Q D ?_ hN hP _ ?_ f _ hc.2 _ w ?_ (by cases o.dst<;>simpa [Act.put] using hdf) hh hw
  ·rw [mH A ds hds];exact hD
  ·exact ⟨fun q hq=>(List.mem_cons.1 hq).elim (fun e=>.inl fun w=>by rw [e];exact .inl hp) (hG'.full q),hG'.tk⟩
  have:=fE ha (gJ hdst) v
  rw [hd] at this ⊢
  simp only [gF,SV.g,jS,hgf]
  exact this
theorem bK.flL {t:Tr} {taken:List Nat} {ps:List (Nat×cW)} {nx:Nat} {l:SFr} {H:SH} {k:Nat} {o:Oper} {x:SV} {p:cW} {d:Nat} (ho:all[k]? = some o) (hf:cN o=true) (hd:o.dst=some d) (hdst:dD s.c.n o.dst=true) (hgd:cJ l all.toArray o=some true)
  (hop:∃t x,o.op=.load t x) (hin:p.in H) (hk:∀E h,Sat E s.F H h → ∀a w,bO s.c.n (gF E l) a→p.at s.F s.h0 E w.heap→(execOp a.eval o).run P w=.ok (.value (x.g E)) w)
  (hr:bK s ds all st t (k::taken) ((k,p)::ps) nx ((d,x)::l) H):bK s ds all st (.fl k t) taken ps nx l H:=by
 have hp:fU all.toArray k=false:=by
  obtain ⟨t,x,e⟩:=hop
  rw [xB ho];simp [dQ,e]
 refine bK.fl (o:=o) (x:=x) (p:=p) ho hf hdst (taken':=k::taken) (by rw [hp];rfl) ((k,p)::ps) (by rw [hp];rfl) (fun _=>hin) (fun E h S K a ha=>.inl ⟨?_,fun w hw=>?_⟩) (by rw [hd];exact hr)
 ·have:=bQ ha (cD (E:=E) hgd)
  exact this
 rcases hw with hw|hw
 ·rw [hp] at hw;cases hw
 exact hk E h S a w ha hw
theorem aV.skip {t:Tr} {taken:List Nat} {ps:List (Nat×cW)} {nx:Nat} {l:SFr} {H:SH} {k:Nat} {keep:List Nat} {o:Oper} (ho:all[k]? = some o) (hf:cN o=false) (hdst:dD s.c.n o.dst=true) (hgd:cJ l all.toArray o=some false) (hpi:kN H keep ps)
  (hr:bK s ds all st t taken ps nx (aKR l o.dst (.v undef)) H):aV s ds all st k keep t taken ps nx l H:=by
 refine ⟨fun E h hA S K Q D hD hN hP G hG hk f listed hc a w ha hd hh hw=>?_⟩
 have ho':all.toArray[k]? = some o:=by simpa using ho
 have hfa:cT all.toArray k=false:=by unfold cT;rw [ho'];exact hf
 refine ⟨hfa,?_⟩
 have hwn:=bQ ha (cD (E:=E) hgd)
 unfold wpOp
 simp only [ho',hwn,Bool.false_eq_true,if_false]
 refine ⟨fun q hq=>?_,hr.run E h hA S K Q D hD hN hP G hG f _ hc _ w (by rw [iB];exact fE ha (gJ hdst) _) (by cases o.dst<;>simpa [Act.put] using hd) hh hw⟩
 rcases hG.full q hq with h1|⟨h1,p,h2,h3⟩
 ·exact .inr (h1 w)
 have:=List.all_eq_true.1 hk q.1 h1
 simp only [Bool.or_eq_true,iA] at this
 rcases this with h4|h4
 ·exact .inr (h3 w (by rw [hh];exact cW.at_of S K (lZ hpi q.1 p h2 h4)))
 exact .inl (by simpa using h4)
theorem aV.ofS {t:Tr} {taken:List Nat} {ps:List (Nat×cW)} {nx nx':Nat} {l:SFr} {H H':SH} {k:Nat} {keep:List Nat} {o:Oper} {x:SV} (ho:all[k]? = some o) (hf:cN o=false) (hdst:dD s.c.n o.dst=true) (hgd:cJ l all.toArray o=some true)
  (hE:aEY P s.c.n s.F s.h0 nx l H o x H') (hn:s.n0≤nx) (hb:bdF nx l=true) (hd:bdD nx ds=true) (hbp:yU nx ps=true) (hpi:kN H' keep ps)
  (hr:bK s ds all st t taken ps nx' (aKR l o.dst x) H'):aV s ds all st k keep t taken ps nx l H:=
 aV.of ho hf hdst (V:=fun E h v h'=>∃E',Ag nx E E'∧v=x.g E'∧Sat E' s.F H' h'∧Kp s.F s.h0 h') (PN:=fun _ _ _ _=>False) hgd (fun E h _ S K=>yB.of_eff (hE E h S K)) (fun _ _ _ _ _ _ _ hf=>hf.elim)
  (fun E h hA S K v h' ⟨E',hag,hv,S',K'⟩=>⟨E',nx',_,H',hag,hn,hbp,mH hag ds hd,by rw [iB,nC hag l hb,hv],S',K',hpi,hr⟩)
theorem aV.ofK {t:Tr} {taken:List Nat} {ps:List (Nat×cW)} {nx:Nat} {l:SFr} {H H':SH} {k:Nat} {keep:List Nat} {o:Oper} {x:SV} (ho:all[k]? = some o) (hf:cN o=false) (hdst:dD s.c.n o.dst=true) (hgd:cJ l all.toArray o=some true)
  (hE:cV P s.c.n s.F s.h0 l H o x H') (hpi:kN H' keep ps)
  (hr:bK s ds all st t taken ps nx (aKR l o.dst x) H'):aV s ds all st k keep t taken ps nx l H:=by
 refine ⟨fun E h hA S K Q D hD hN hP G hG hk f listed hc a w ha hd hh hw=>?_⟩
 have ho':all.toArray[k]? = some o:=by simpa using ho
 have hfa:cT all.toArray k=false:=by unfold cT;rw [ho'];exact hf
 refine ⟨hfa,?_⟩
 have hwn:=bQ ha (cD (E:=E) hgd)
 unfold wpOp
 simp only [ho',hwn,if_true]
 refine .inl (hE.1 E h S K a w ha hh _ _ fun v w' hlk ⟨hv,S',K'⟩=>?_)
 refine ⟨fun q hq=>?_,hr.run E w'.heap hA S' K' Q D hD hN hP G hG f _ hc _ w' (by rw [iB,←hv];exact fE ha (gJ hdst) _) (by cases o.dst<;>simpa [Act.put] using hd) rfl (hw.trans hlk)⟩
 rcases hG.full q hq with h1|⟨h1,p,h2,h3⟩
 ·exact .inr (h1 w')
 have:=List.all_eq_true.1 hk q.1 h1
 simp only [Bool.or_eq_true,iA] at this
 rcases this with h4|h4
 ·exact .inr (h3 w' (cW.at_of S' K' (lZ hpi q.1 p h2 h4)))
 exact .inl (by simpa using h4)
theorem goR_run (T:Tab P):∀(t:Tr) (taken:List Nat) (ps:List (Nat×cW)) (nx:Nat) (l:SFr) (H:SH),
  goR T s.c.n s.n0 s.F s.h0 ds all st all.toArray (fun k keep t taken ps nx l H=>aV s ds all st k keep t taken ps nx l H) (fun nx l H=>aA s ds nx st l H) t taken ps nx l H→bK s ds all st t taken ps nx l H:=by
 intro t
 have key:∀(k:Nat) (keep:List Nat) (t:Tr),(∀(taken:List Nat) (ps:List (Nat×cW)) (nx:Nat) (l:SFr) (H:SH),
   goR T s.c.n s.n0 s.F s.h0 ds all st all.toArray (fun k keep t taken ps nx l H=>aV s ds all st k keep t taken ps nx l H) (fun nx l H=>aA s ds nx st l H) t taken ps nx l H→bK s ds all st t taken ps nx l H) →
   ∀(taken:List Nat) (ps:List (Nat×cW)) (nx:Nat) (l:SFr) (H:SH),goR.goE T s.c.n s.n0 ds all all.toArray (fun k keep t taken ps nx l H=>aV s ds all st k keep t taken ps nx l H) k keep t
    (goR T s.c.n s.n0 s.F s.h0 ds all st all.toArray (fun k keep t taken ps nx l H=>aV s ds all st k keep t taken ps nx l H) (fun nx l H=>aA s ds nx st l H) t) taken ps nx l H→aV s ds all st k keep t taken ps nx l H:=by
  intro k keep t ih taken ps nx l H hg
  unfold goR.goE at hg
  split at hg
  ·exact hg.elim
  rename_i o hn
  rw [iF] at hn
  split at hg
  ·exact hg.elim
  rename_i hf
  split at hg
  ·exact hg.elim
  rename_i hdst
  split at hg
  ·exact hg.elim
  ·rename_i hgd
   rw [bR] at hg
   exact aV.skip hn hf hdst hgd hg.1 (ih _ _ _ _ _ hg.2)
  rename_i hgd
  have hk:=aQP (P:=P) (n:=s.c.n) (F:=s.F) (h0:=s.h0) (nx:=nx) (l:=l) (H:=H) (o:=o) T o.op rfl
  split at hg
  ·rename_i hv;rw [hv] at hk
   split at hg
   ·exact hg.elim
   rename_i hfr
   obtain ⟨f1,f2,f3,f4⟩:=eY hfr
   split at hg
   ·exact hg.elim
   rename_i hbb
   split at hg
   ·exact hg.elim
   rename_i hbp
   rw [qH,bR] at hg
   exact aV.ofS hn hf hdst hgd (hk f3 hbb) f1 f2 f4 hbp hg.1 (ih _ _ _ _ _ hg.2)
  ·rename_i hv;rw [hv] at hk
   rw [qH,rP,bR] at hg
   exact aV.ofK hn hf hdst hgd hk hg.1 (ih _ _ _ _ _ hg.2)
  ·rename_i hv;rw [hv] at hk
   split at hg
   ·exact hg.elim
   rename_i hfr
   obtain ⟨f1,f2,f3,f4⟩:=eY hfr
   split at hg
   ·exact hg.elim
   rename_i hbp
   rw [aLN,bR] at hg
   exact aV.ofS hn hf hdst hgd (hk hg.1 f3) f1 f2 f4 hbp hg.2.1 (ih _ _ _ _ _ hg.2.2)
  exact hg
 induction t with
 |done=>intro taken ps nx l H hg;exact bK.done hg
 |e1 k keep t ih=>intro taken ps nx l H hg;exact bK.e1 (key k keep t ih _ _ _ _ _ hg)
 |e2 k1 keep1 t1 k2 keep2 t2 ih1 ih2=>intro taken ps nx l H hg;exact bK.e2 (key k1 keep1 t1 ih1 _ _ _ _ _ hg.1) (key k2 keep2 t2 ih2 _ _ _ _ _ hg.2)
 |e3 k1 keep1 t1 k2 keep2 t2 k3 keep3 t3 ih1 ih2 ih3=>intro taken ps nx l H hg;exact bK.e3 (key k1 keep1 t1 ih1 _ _ _ _ _ hg.1) (key k2 keep2 t2 ih2 _ _ _ _ _ hg.2.1) (key k3 keep3 t3 ih3 _ _ _ _ _ hg.2.2)
 |fl k t ih=>
  intro taken ps nx l H hg
  unfold goR at hg
  split at hg
  ·exact hg.elim
  rename_i o hn
  rw [iF] at hn
  split at hg
  ·exact hg.elim
  rename_i hf
  split at hg
  ·exact hg.elim
  rename_i d hd
  split at hg
  ·exact hg.elim
  rename_i hlt
  have hdst:dD s.c.n o.dst=true:=by rw [hd];exact hlt
  split at hg
  ·exact hg.elim
  ·rename_i hgd
   split at hg
   ·rename_i hp;exact bK.flS hn hf hd hdst hgd (by rw [hp];rfl) (by rw [hp];rfl) (ih _ _ _ _ _ hg)
   rename_i hp;exact bK.flS hn hf hd hdst hgd (by rw [hp];rfl) (by rw [hp];rfl) (ih _ _ _ _ _ hg)
  rename_i hgd
  have hL:=ldR_ok (P:=P) (s:=s) T (l:=l) (H:=H) (o:=o)
  split at hg
  ·exact hg.elim
  ·rename_i hv;rw [hv] at hL
   exact bK.flL hn hf hd hdst hgd (sT (by rw [hv];simp)) hL.1 hL.2 (ih _ _ _ _ _ hg)
  ·rename_i hv;rw [hv] at hL
   rw [jN] at hg
   exact bK.flL hn hf hd hdst hgd (sT (by rw [hv];simp)) hL.1 hL.2 (ih _ _ _ _ _ hg)
  ·rename_i hv;rw [hv] at hL
   obtain ⟨row,hrow,hg⟩:=hg
   split at hg
   ·rename_i x hx
    exact bK.flL (x:=.v x) hn hf hd hdst hgd (sT (by rw [hv];simp)) hL.1 (hL.2 row hrow x hx) (ih _ _ _ _ _ hg)
   exact hg.elim
  ·rename_i hv;rw [hv] at hL
   obtain ⟨row,hrow,hle,hg⟩:=hg
   rw [jN] at hg
   exact bK.flL hn hf hd hdst hgd (sT (by rw [hv];simp)) hL.1 (hL.2 row hrow hle) (ih _ _ _ _ _ hg)
  ·rename_i hv;rw [hv] at hL
   obtain ⟨v,hc,hg⟩:=hg
   exact bK.flL (x:=.v v) hn hf hd hdst hgd (sT (by rw [hv];simp)) (p:=.none) trivial (fun E h _ a w ha K=>hL v hc E a w ha K) (ih _ _ _ _ _ hg)
  ·rename_i hv;rw [hv] at hL
   obtain ⟨vs,⟨hl,hc⟩,hg⟩:=hg
   rw [jN] at hg
   exact bK.flL hn hf hd hdst hgd (sT (by rw [hv];simp)) (p:=.none) trivial (fun E h _ a w ha K=>hL vs hl hc E a w ha K) (ih _ _ _ _ _ hg)
  rename_i hv
  have hpl:=ldR_no hv hf
  have hk:=aQP (P:=P) (n:=s.c.n) (F:=s.F) (h0:=s.h0) (nx:=nx) (l:=l) (H:=H) (o:=o) T o.op rfl
  split at hg
  ·rename_i hp
   have e1:∀ {α:Type} (a b:α),a=if dQ o=true then a else b:=fun a b=>by rw [if_pos hp]
   split at hg
   ·rename_i hv;rw [hv] at hk
    exact bK.flP hn hf hd hdst hgd hk hpl (e1 _ _) (e1 _ _) (ih _ _ _ _ _ hg)
   ·rename_i hv;rw [hv] at hk
    rw [jN] at hg
    exact bK.flP hn hf hd hdst hgd hk hpl (e1 _ _) (e1 _ _) (ih _ _ _ _ _ hg)
   ·rename_i hv;rw [hv] at hk
    exact bK.flP hn hf hd hdst hgd (hk hg.1) hpl (e1 _ _) (e1 _ _) (ih _ _ _ _ _ hg.2)
   ·rename_i p i hv;rw [hv] at hk
    simp only [PuS.ok] at hk
    split at hg
    ·by_cases hp:p
     ·simp only [hp,decide_true] at hk;exact bK.flP hn hf hd hdst hgd hk hpl (e1 _ _) (e1 _ _) (ih _ _ _ _ _ (hg.1 hp))
     simp only [hp,decide_false] at hk;exact bK.flP hn hf hd hdst hgd hk hpl (e1 _ _) (e1 _ _) (ih _ _ _ _ _ (hg.2 hp))
    exact bK.flP hn hf hd hdst hgd hk hpl (e1 _ _) (e1 _ _) (ih _ _ _ _ _ hg)
   ·rename_i p i hv;rw [hv] at hk
    simp only [PuS.ok] at hk
    split at hg
    ·by_cases hp:p
     ·simp only [hp,decide_true,Bool.not_true] at hk;exact bK.flP hn hf hd hdst hgd hk hpl (e1 _ _) (e1 _ _) (ih _ _ _ _ _ (hg.1 hp))
     simp only [hp,decide_false,Bool.not_false] at hk;exact bK.flP hn hf hd hdst hgd hk hpl (e1 _ _) (e1 _ _) (ih _ _ _ _ _ (hg.2 hp))
    exact bK.flP hn hf hd hdst hgd hk hpl (e1 _ _) (e1 _ _) (ih _ _ _ _ _ hg)
   ·rename_i hv;rw [hv] at hk
    obtain ⟨r,hr,hg⟩:=hg
    exact bK.flP hn hf hd hdst hgd (hk r hr) hpl (e1 _ _) (e1 _ _) (ih _ _ _ _ _ hg)
   ·rename_i hv;rw [hv] at hk
    split at hg
    ·exact hg.elim
    rename_i hfr
    obtain ⟨f1,f2,f3,f4⟩:=eY hfr
    split at hg
    ·exact hg.elim
    rename_i hbp
    exact bK.flN hn hf hp hd hdst hgd f1 f2 f4 hbp (hk hg.1 f3) (ih _ _ _ _ _ hg.2)
   exact hg.elim
  rename_i hp
  split at hg
  ·rename_i hv;rw [hv] at hk
   rw [jN] at hg
   exact bK.flP hn hf hd hdst hgd hk hpl (by rw [hp];rfl) (by rw [hp];rfl) (ih _ _ _ _ _ hg)
  exact hg.elim
theorem aA.held {nx:Nat} {l:SFr} {H:SH} {k:List SI} {id:Nat} {ops:List Oper} (T:Tab P) (t:Tr)
  (hB:(Region.noSelect ops.toArray&&mW .any ops.toArray t ops.toArray.size [] (Array.replicate ops.toArray.size false))=true)
  (hr:bK s ds ops k t [] [] nx l H) (hnd:xJ ops=true:=by rfl):aA s ds nx (.code (.region id ops.toArray true)::k) l H:=by
 refine ⟨fun E h hA S K=>?_⟩
 unfold aX
 intro hwf a w ha hd hh hw
 simp only [Bool.and_eq_true] at hB
 obtain ⟨hsel,hc4⟩:=hB
 obtain ⟨Q,hQdef⟩:∃Q:Exit→Act→World→Prop,Q=fun e a' w'=>match e with
  | .normal=>s.c.Z (lone (s.c.fr a' (its k)) s.c.cs w')
  | .panic ch=>∀a2,aAS (aAY ops) a' a2 → ∀todo,s.c.Z (lone {s.c.fr a2 todo with mode:=.panicking ch} s.c.cs w')
  |_=>False:=⟨_,rfl⟩
 have hN:∀a' w',Q .normal a' w'=s.c.Z (lone (s.c.fr a' (its k)) s.c.cs w'):=fun a' w'=>by rw [hQdef]
 have hP:∀ch a' w',Q (.panic ch) a' w' = ∀a2,aAS (aAY ops) a' a2 → ∀todo,s.c.Z (lone {s.c.fr a2 todo with mode:=.panicking ch} s.c.cs w'):=fun ch a' w'=>by rw [hQdef]
 have hO:∀a' w',¬Q .outgrown a' w':=fun a' w' h=>by rw [hQdef] at h;exact h
 refine aPN (K:=its k) (Q:=Q) T.mixed ⟨fun a' w' hq=>by rw [hN] at hq;exact hq,fun ch a' w' hq todo=>by rw [hP] at hq;exact hq a' (aAS.refl _ _) todo,hO⟩ (.inr fun i o ho=>zG hnd i o (by simpa using ho)) ?_
 have H3:=hr.run E h hA S K Q (gD E ds) rfl
  (fun l2 h2 a2 w2 hK2 ha2 hd2 hh2 hw2=>by
   rw [hN]
   unfold aX at hK2
   exact hK2 (cH hwf) a2 w2 ha2 hd2 hh2 hw2)
  (fun l2 ch h2 a2 w2 hU ha2 hd2 hh2 hw2=>by
   rw [hP]
   intro a3 hal todo
   exact hU a3 w2 todo (ha2.alike hal) (by rw [hal.2.1];exact hd2) hh2 hw2) [] ⟨fun _ h=>(by cases h),fun _ _ h=>(by cases h)⟩ _ _ hc4 a {w with drawn:=w.drawn+1} ha hd hh (hw.trans ⟨rfl,rfl,rfl⟩)
 have H4:=sem4_C hsel (fun i o ho v ch a' w' hq=>by
  rw [hP] at hq ⊢
  exact fun a2 hal=>hq a2 (hal.put (fun d hd=>aNX (by simpa using ho) hd) v)) t _ _ [] (Array.replicate ops.toArray.size false) a _ (fun j oj _ hl=>(by rw [getD_replicate_false] at hl;cases hl)) hc4 H3
 exact yM _ _ _ _ H4
/-! calls in a region -/
variable {t:Tr} {taken:List Nat} {ps:List (Nat×cW)} {nx k:Nat} {keep:List Nat} {l:SFr} {H:SH} {o:Oper} {cl:Call} {x:Operand} {g:FuncId} {first captured vs:List SV}
theorem rE (hop:o.op=.call cl) (hcal:cl.callee=.value x):cN o=false:=by simp [cN,dQ,hop,hcal]
theorem aV.callO {ch:List PanicEntry} {r:Option Value}
  (H1:∀E h,Ag s.n0 s.E0 E→Sat E s.F H h→Kp s.F s.h0 h→FnO P ch g (SV.gs E (first++(vs++captured))).toArray h r)
  (hpi:kN H keep ps) (hp:r=none→aE s ds (.panicking ch) nx (cutS (aAY all) l) H)
  (hr:∀X,r=some X→jR l o.dst (.v X) fun l=>bK s ds all st t taken ps nx l H)
  (ho:all[k]? = some o:=by rfl) (hop:o.op=.call cl:=by rfl) (hcal:cl.callee=.value x:=by rfl) (hx:iM l x=some (g,first,captured):=by rfl) (hargs:kH l cl.args.toList=some vs:=by rfl)
  (hgd:cJ l all.toArray o=some true:=by rfl) (hdn:dD s.c.n o.dst=true:=by rfl):aV s ds all st k keep t taken ps nx l H:=by
 refine ⟨fun E h hA S K Q D hD hN hP G hG hk f listed hc a w ha hd hh hw=>?_⟩
 have hf:=rE hop hcal
 have ho':all.toArray[k]? = some o:=by simpa using ho
 have hfa:cT all.toArray k=false:=by unfold cT;rw [ho'];exact hf
 refine ⟨hfa,?_⟩
 have hwn:=bQ ha (cD (E:=E) hgd)
 unfold wpOp
 simp only [ho',hwn,if_true]
 have hE:=yB.callO (n:=s.c.n) (l:=gF E l) (h:=h) (o:=o) (first:=(SV.gs E first).toArray) (captured:=(SV.gs E captured).toArray) (vs:=SV.gs E vs) (by rw [xW];exact H1 E h hA S K) hop hcal (mC hx) (lE hargs)
 refine .inl (hE a w ha hh _ _ (fun v w' hlk ⟨hv,hkk⟩=>?_) fun ch' w' hlk ⟨hrn,hch,hkk⟩=>?_)
 ·obtain ⟨S',K'⟩:=S.keeps K hkk
  have hr:=hr v hv
  rw [bR] at hr
  refine ⟨fun q hq=>?_,hr.run E w'.heap hA S' K' Q D hD hN hP G hG f _ hc _ w' (by rw [iB];exact fE ha (gJ hdn) _) (by cases o.dst<;>simpa [Act.put] using hd) rfl (hw.trans hlk)⟩
  rcases hG.full q hq with h1|⟨h1,p,h2,h3⟩
  ·exact .inr (h1 w')
  have:=List.all_eq_true.1 hk q.1 h1
  simp only [Bool.or_eq_true,iA] at this
  rcases this with h4|h4
  ·exact .inr (h3 w' (cW.at_of S' K' (lZ hpi q.1 p h2 h4)))
  exact .inl (by simpa using h4)
 subst hch
 obtain ⟨S',K'⟩:=S.keeps K hkk
 have:=(hp hrn).run E w'.heap hA S' K'
 rw [uA,hD] at this
 exact hP _ _ _ a w' this ha hd rfl (hw.trans hlk)
theorem FnO.of_V {P:Program} {ch:List PanicEntry} {f:FuncId} {args:Array Value} {h:Array Obj} {X:Value} (H:FnV P f args h fun r h'=>r=X∧bW h.size h h'):FnO P ch f args h (some X):=
 Fn.mono H fun e h' ⟨v,he,hv,hk⟩=>⟨by rw [he,hv],hk⟩
theorem aV.callV {X:Value}
  (H1:∀E h,Ag s.n0 s.E0 E→Sat E s.F H h→Kp s.F s.h0 h→FnV P g (SV.gs E (first++(vs++captured))).toArray h fun r h'=>r=X∧bW h.size h h')
  (hpi:kN H keep ps)
  (hr:jR l o.dst (.v X) fun l=>bK s ds all st t taken ps nx l H)
  (ho:all[k]? = some o:=by rfl) (hop:o.op=.call cl:=by rfl) (hcal:cl.callee=.value x:=by rfl) (hx:iM l x=some (g,first,captured):=by rfl) (hargs:kH l cl.args.toList=some vs:=by rfl)
  (hgd:cJ l all.toArray o=some true:=by rfl) (hdn:dD s.c.n o.dst=true:=by rfl):aV s ds all st k keep t taken ps nx l H:=
 aV.callO (ch:=[]) (fun E h hA S K=>FnO.of_V (H1 E h hA S K)) hpi (fun e=>by cases e) (fun X' e=>by cases e;exact hr) ho hop hcal hx hargs hgd hdn
end
end Go.Fw

namespace Go.Fw
open Go
variable {P:Program}
set_option maxHeartbeats 8000000
def Ro (h:Array Obj) (v:Value) (sz:Nat) (rows:List (List Value)):Prop:=
 oU sz rows∧(rows.length≤9223372036854775807∧aRL v) ∧ ∃a cap,v=.slice a rows.length cap∧(rows=[] ∨ ∃g o,a=some ⟨g,o,none⟩∧g<h.size∧kW h g o rows.flatten)
theorem Ro.len {h:Array Obj} {v:Value} {sz:Nat} {rows:List (List Value)} (H:Ro h v sz rows):rows.length≤9223372036854775807:=H.2.1.1
theorem Ro.keeps {h h':Array Obj} {v:Value} {sz:Nat} {rows:List (List Value)} (H:Ro h v sz rows) (k:bW h.size h h'):Ro h' v sz rows:=by
 obtain ⟨h1,h0,a,cap,h2,h3⟩:=H
 refine ⟨h1,h0,a,cap,h2,h3.imp id fun ⟨g,o,e1,e2,e3⟩=>⟨g,o,e1,Nat.lt_of_lt_of_le e2 k.size,k.cells e2 e3⟩⟩
theorem Ro.nil {h:Array Obj} {sz:Nat}:Ro h (.slice none 0 0) sz []:=⟨fun _ h=>(by cases h),⟨by simp,Nat.le_refl 0⟩,none,0,rfl,.inl rfl⟩
theorem Ro.blk {E:Env} {h:Array Obj} {v:Value} {sz:Nat} {rows:List (List Value)} (H:Ro h v sz rows):(Blk.ro sz rows).ok E (fun k=>k<h.size) h v:=by
 obtain ⟨h1,h0,a,cap,h2,h3⟩:=H
 exact ⟨h1,h0,a,cap,h2,h3.imp id fun ⟨g,o,e1,e2,e3⟩=>⟨g,o,e1,e2,e3⟩⟩
theorem Sat.ro {E:Env} {F:Nat→Prop} {H:SH} {h:Array Obj} (S:Sat E F H h) {b sz:Nat} {rows:List (List Value)} (hl:Fw.rowsAt H b=some (sz,rows)) (hz:0<sz:=by decide):Ro h (E b) sz rows:=by
 obtain ⟨h1,a,cap,h2,h3⟩:=S.rowsAt hl
 refine ⟨h1,⟨S.rowsLen hl,S.rowsCap hl⟩,a,cap,h2,?_⟩
 rcases h3 with h3|⟨g,o,e1,e2⟩
 ·exact .inl h3
 cases rows with
 |nil=>exact .inl rfl
 |cons r rs=>
  have hr:=(h1 r (List.mem_cons_self ..)).1
  have hv:(r::rs).flatten[0]? = some (r[0]'(by omega)):=by
   rw [List.flatten_cons,List.getElem?_append_left (by omega)];exact List.getElem?_eq_getElem _
  have:=e2 0 _ hv
  refine .inr ⟨g,o,e1,?_,e2⟩
  unfold eK at this
  split at this
  ·rename_i hc;exact (Array.getElem?_eq_some_iff.1 hc).1
  cases this
def argG:Nat→List SV→SFr
 |_,[]=>[]
 |i,v::vs=>(i,v)::argG (i+1) vs
theorem aKA (E:Env):∀(i:Nat) (vs:List SV),gF E (argG i vs)=yK i (SV.gs E vs)
 |_,[]=>rfl
 |i,v::vs=>by simp only [argG,gF,SV.gs,yK,aKA E (i+1) vs]
def aCW:Nat→List SV→(SFr→Prop)→Prop
 |_,[],K=>K []
 |i,v::vs,K=>aCW (i+1) vs fun l=>K ((i,v)::l)
theorem aET:∀(i:Nat) (vs:List SV) (K:SFr→Prop),aCW i vs K=K (argG i vs)
 |_,[],_=>rfl
 |i,v::vs,K=>by simp only [aCW,argG,aET (i+1) vs]
theorem Fn.ofG {f:FuncId} {fn:Func} {code:Code} (E0:Env) (n0:Nat) (args:List SV) (W:SH) (F:Nat→Prop) (hf:P.funcs[f]? = some fn) (hname:(fn.name == "runtime.NumGoroutine")=false) (hb:fn.body=some code) {n:Nat} (hnt:fn.ntmps=n)
  (hargs:Nat.ble args.length n=true) {h:Array Obj} {R:Ending→Array Obj→Prop} (hF:∀k,F k→k<h.size) (S:Sat E0 F W h)
  (H:∀w0 cs,aCW 0 args fun l=>aA ⟨gT P f n w0 cs R,F,h,E0,n0⟩ [] n0 [.code code] l W):Fn P f (SV.gs E0 args).toArray h R:=
 Fn.of hf hname hb hnt (by rw [kL];exact hargs) fun w0 cs=>by
  have H:=H w0 cs
  rw [aET] at H
  have:=H.run E0 h (fun _ _=>rfl) S ⟨Nat.le_refl _,fun _ _=>rfl,hF⟩
  rw [aKA] at this
  exact this
def envL:List Value→Env
 | [],_=>undef
 |v::_,0=>v
 |_::vs,n+1=>envL vs n
def roH:Nat→List (Nat×List (List Value))→SH
 |_,[]=>[]
 |i,(sz,rows)::l=>(i,.ro sz rows)::roH (i+1) l
def Ros (h:Array Obj):List Value→List (Nat×List (List Value))→Prop
 | [],[]=>True
 |v::vs,(sz,rows)::l=>Ro h v sz rows∧Ros h vs l
 |_,_=>False
theorem aQX {h:Array Obj}:∀ {vs:List Value} {l:List (Nat×List (List Value))} (i:Nat) (E:Env),(∀j v,vs[j]? = some v→E (i+j)=v)→Ros h vs l → ∀p∈roH i l,p.2.ok E (fun k=>k<h.size) h (E p.1)∧wr p.2=false
 | [],[],_,_,_,_,p,hp=>by cases hp
 |v::vs,(sz,rows)::l,i,E,hE,hR,p,hp=>by
  rcases List.mem_cons.1 hp with rfl|hp
  ·refine ⟨?_,rfl⟩
   have:=hE 0 v rfl
   simp only [Nat.add_zero] at this
   show (Blk.ro sz rows).ok E _ h (E i)
   rw [this];exact hR.1.blk
  exact aQX (i+1) E (fun j u hu=>by have:=hE (j+1) u (by simpa using hu);rw [show i+1+j=i+(j+1) by omega];exact this) hR.2 p hp
theorem aMO:∀(vs:List Value) (j:Nat) (v:Value),vs[j]? = some v→envL vs j=v
 | [],j,v,h=>by simp at h
 |u::vs,0,v,h=>by simp at h;exact h
 |u::vs,j+1,v,h=>aMO vs j v (by simpa using h)
theorem Sat.ros {h:Array Obj} {vs:List Value} {l:List (Nat×List (List Value))} (H:Ros h vs l):Sat (envL vs) (fun k=>k<h.size) (roH 0 l) h:=by
 have hm:=aQX (vs:=vs) 0 (envL vs) (fun j v hv=>by rw [Nat.zero_add];exact aMO vs j v hv) H
 refine ⟨fun p hp=>(hm p hp).1,?_⟩
 have:∀L:SH,(∀p∈L,wr p.2=false)→L.Pairwise (qC (envL vs)):=by
  intro L
  induction L with
  |nil=>intro _;exact List.Pairwise.nil
  |cons q L ih=>
   intro hL
   exact List.pairwise_cons.2 ⟨fun r _ hw=>(by rw [hL q (List.mem_cons_self ..)] at hw;cases hw),ih fun p hp=>hL p (List.mem_cons_of_mem _ hp)⟩
 exact this _ fun p hp=>(hm p hp).2
/-! other names, from a list -/
def aLW (n0:Nat):List (Nat×Nat)→Bool
 | []=>true
 |(x,_)::m=>match Nat.ble n0 x with
  |true=>aLW n0 m
  |false=>false
theorem xM {n0:Nat}:∀ {m:List (Nat×Nat)},aLW n0 m=true → ∀b,b<n0→rn m b=b
 | [],_,_,_=>rfl
 |(x,y)::m,h,b,hb=>by
  simp only [aLW] at h
  cases hx:Nat.ble n0 x with
  |false=>simp [hx] at h
  |true=>
   simp only [hx] at h
   have h1:=Nat.le_of_ble_eq_true hx
   simp only [rn]
   have:Nat.beq x b=false:=by cases hb':Nat.beq x b with|false=>rfl|true=>have:=Nat.eq_of_beq_eq_true hb';omega
   simp only [this]
   exact xM h b hb
section
variable {s:SCx P} {ds:List dS} {nx nx':Nat} {l l':SFr} {H H':SH} {st:List SI} {u:FrameMode}
theorem aA.subR (m:List (Nat×Nat)) (hr:aA s ds nx' st l' H') (hl:aNI (rn m) l l') (hH:nQ (rn m) H H') (hm:aLW s.n0 m=true:=by rfl) (hn:dY (rn m) H' []=true:=by rfl) (hd:renD (rn m) ds=ds:=by rfl):aA s ds nx st l H:=
 aA.sub (rn m) hr (xM hm) hn hd hl hH
theorem aE.subR (m:List (Nat×Nat)) (hr:aE s ds u nx' l' H') (hl:aNI (rn m) l l') (hH:nQ (rn m) H H') (hm:aLW s.n0 m=true:=by rfl) (hn:dY (rn m) H' []=true:=by rfl) (hd:renD (rn m) ds=ds:=by rfl):aE s ds u nx l H:=
 aE.sub (rn m) hr (xM hm) hn hd hl hH
end
end Go.Fw

namespace Go.Fw
open Go
variable {P:Program}
set_option maxHeartbeats 8000000
inductive gK where
 |ret (v:SV) (n:Nat) (H:SH)
 |pan (ch:List PanicEntry) (n:Nat) (H:SH)
def gK.heap:gK→SH
 | .ret _ _ H=>H
 | .pan _ _ H=>H
def gK.ok (E:Env):gK→Ending→Prop
 | .ret v _ _,e=>e=.returned (v.g E)
 | .pan ch _ _,e=>e=.panicked ch
def aL {X:Type} (k:Nat) (E:Env) (F:Nat→Prop) (h:Array Obj) (J:X→Prop) (out:X→gK) (e:Ending) (h':Array Obj):Prop:=
 ∃x E',J x∧Ag k E E'∧Sat E' F (out x).heap h'∧Kp F h h'∧(out x).ok E' e
structure FnS (P:Program) (g:FuncId) (k:Nat) (args:List SV) (W:SH) {X:Type} (J:X→Prop) (out:X→gK):Prop where
 call:∀(E:Env) (F:Nat→Prop) (h:Array Obj),(∀i,F i→i<h.size)→Sat E F W h→Fn P g (SV.gs E args).toArray h (aL k E F h J out)
theorem FnS.of {f:FuncId} {fn:Func} {code:Code} {k:Nat} {args:List SV} {W:SH} {X:Type} {J:X→Prop} {out:X→gK} (hf:P.funcs[f]? = some fn) (hname:(fn.name == "runtime.NumGoroutine")=false) (hb:fn.body=some code) {n:Nat} (hnt:fn.ntmps=n)
  (hargs:Nat.ble args.length n=true)
  (H:∀E0 F h w0 cs,aCW 0 args fun l=>aA ⟨gT P f n w0 cs (aL k E0 F h J out),F,h,E0,k⟩ [] k [.code code] l W):FnS P f k args W J out:=
 ⟨fun E F h hF S=>Fn.ofG E k args W F hf hname hb hnt hargs hF S fun w0 cs=>H E F h w0 cs⟩
theorem aL.mk {X:Type} {k:Nat} {E0:Env} {F:Nat→Prop} {h0:Array Obj} {J:X→Prop} {out:X→gK} (x:X) (hJ:J x) (m:List (Nat×Nat)) {H:SH}
  (hH:nQ (rn m) H (out x).heap) (hm:aLW k m=true) (hn:dY (rn m) (out x).heap []=true) {e:Env→Ending} (he:∀E,(out x).ok (fun b=>E (rn m b)) (e E)):
  ∀E h,Ag k E0 E→Sat E F H h→Kp F h0 h→aL k E0 F h0 J out (e E) h:=fun E h hA S K=>
 ⟨x,fun b=>E (rn m b),hJ,fun b hb=>by show E (rn m b)=_;rw [xM hm b hb];exact hA b hb,S.ren hH hn,K,he E⟩
theorem aY {m:List (Nat×Nat)} {o:gK} {w:SV} {v:SV} {n:Nat} {H:SH} (ho:o=.ret v n H) (hv:w=v.ren (rn m)) (E:Env):o.ok (fun b=>E (rn m b)) (.returned (w.g E)):=by
 subst ho hv
 show Ending.returned _=.returned _
 rw [SV.g_ren]
theorem aT {m:List (Nat×Nat)} {o:gK} {ch:List PanicEntry} {n:Nat} {H:SH} (ho:o=.pan ch n H) (E:Env):o.ok (fun b=>E (rn m b)) (.panicked ch):=by
 subst ho;rfl
/-! the call -/
def bS:List Nat→Nat→Nat
 | [],_=>0
 |x::_,0=>x
 |_::xs,n+1=>bS xs n
def bdN (n:Nat):List Nat→Bool
 | []=>true
 |x::xs=>match Nat.blt x n with
  |true=>bdN n xs
  |false=>false
theorem aQZ {n:Nat}:∀ {l:List Nat} {i:Nat},bdN n l=true→i<l.length→bS l i<n
 | [],_,_,h=>by simp at h
 |x::xs,i,hb,h=>by
  simp only [bdN] at hb
  cases hx:Nat.blt x n with
  |false=>simp [hx] at hb
  |true=>
   simp only [hx] at hb
   match i,h with
   |0,_=>exact Nat.blt_eq.mp hx
   |i+1,h=>exact aQZ (l:=xs) hb (by simpa using h)
def nmC (ren:List Nat) (k nx i:Nat):Nat:=match Nat.blt i k with
 |true=>bS ren i
 |false=>nx+(i - k)
def iH (f:Nat→Nat):SH→List Nat
 | []=>[]
 |(b,x)::W=>match wr x with
  |true=>f b::iH f W
  |false=>iH f W
def dW (ns:List Nat):SH→SH
 | []=>[]
 |(b,x)::H=>match aHD b ns with
  |true=>dW ns H
  |false=>(b,x)::dW ns H
def nW (f:Nat→Nat) (R:SH):SH→SH
 | []=>R
 |(b,x)::H=>match wr x with
  |true=>(f b,aKH f x)::nW f R H
  |false=>nW f R H
theorem eJ (ns:List Nat):∀H:SH,(dW ns H).Sublist H
 | []=>List.Sublist.refl _
 |(b,x)::H=>by
  simp only [dW]
  cases aHD b ns with
  |true=>exact (eJ ns H).cons _
  |false=>exact (eJ ns H).cons_cons _
theorem aGF {ns:List Nat}:∀ {H:SH} {p:Nat×Blk},p∈dW ns H→p.1∉ns
 | [],_,h=>by cases h
 |(b,x)::H,p,h=>by
  simp only [dW] at h
  cases hb:aHD b ns with
  |true=>simp only [hb] at h;exact aGF h
  |false=>
   simp only [hb] at h
   rcases List.mem_cons.1 h with rfl|h
   ·exact aAP hb
   exact aGF h
theorem aHA {f:Nat→Nat}:∀ {W:SH} {p:Nat×Blk},p∈W→wr p.2=true→f p.1∈iH f W
 | [],_,h,_=>by cases h
 |(b,x)::W,p,h,hw=>by
  simp only [iH]
  rcases List.mem_cons.1 h with rfl|h
  ·simp only [hw];exact List.mem_cons_self ..
  cases wr x with
  |true=>exact List.mem_cons_of_mem _ (aHA h hw)
  |false=>exact aHA h hw
theorem sN {f:Nat→Nat} {R:SH}:∀ {H:SH} {p:Nat×Blk},p∈nW f R H→p∈R ∨ ∃q∈H,wr q.2=true∧p=(f q.1,aKH f q.2)
 | [],_,h=>.inl h
 |(b,x)::H,p,h=>by
  simp only [nW] at h
  cases hw:wr x with
  |true=>
   simp only [hw] at h
   rcases List.mem_cons.1 h with rfl|h
   ·exact .inr ⟨(b,x),List.mem_cons_self ..,hw,rfl⟩
   exact (sN h).imp id fun ⟨q,h1,h2,h3⟩=>⟨q,List.mem_cons_of_mem _ h1,h2,h3⟩
  |false=>
   simp only [hw] at h
   exact (sN h).imp id fun ⟨q,h1,h2,h3⟩=>⟨q,List.mem_cons_of_mem _ h1,h2,h3⟩
theorem aLK {E:Env} {f:Nat→Nat} {R:SH} (hR:R.Pairwise (qC E)):∀ {H:SH},H.Pairwise (qC (fun b=>E (f b)))→(∀p∈H,wr p.2=true → ∀q∈R,qC E (f p.1,aKH f p.2) q)→(nW f R H).Pairwise (qC E)
 | [],_,_=>hR
 |(b,x)::H,hp,hx=>by
  obtain ⟨h1,h2⟩:=List.pairwise_cons.1 hp
  have ih:=aLK hR h2 fun p hp=>hx p (List.mem_cons_of_mem _ hp)
  simp only [nW]
  cases hw:wr x with
  |false=>exact ih
  |true=>
   refine List.pairwise_cons.2 ⟨fun q hq=>?_,ih⟩
   rcases sN hq with hq|⟨r,hr,hwr,rfl⟩
   ·exact hx (b,x) (List.mem_cons_self ..) hw q hq
   intro hp1 hp2 g e1 e2
   exact h1 r hr hw hwr g e1 e2
def jX (F:Nat→Prop) (E:Env) (R:SH):Nat→Prop:=fun g=>F g ∨ ∃q∈R,wr q.2=true∧ownB (E q.1)=some g
theorem jV.mono {F F':Nat→Prop} {h:Array Obj} {a:Option Addr} {rows:List (List Value)} (H:jV F h a rows) (hF:∀g,F g→F' g):jV F' h a rows:=
 H.imp id fun ⟨g,o,h1,h2,h3⟩=>⟨g,o,h1,hF g h2,h3⟩
theorem Sat.hand {E:Env} {F:Nat→Prop} {H W:SH} {h:Array Obj} (f:Nat→Nat) (S:Sat E F H h) (hH:nQ f H W) (hn:dY f W []=true):
  Sat (fun b=>E (f b)) (jX F E (dW (iH f W) H)) W h:=by
 have S1:=S.ren hH hn
 refine ⟨fun p hp=>?_,S1.apart⟩
 have h1:=S1.ok p hp
 have hpH:=nQ.mem hH p hp
 have hno:wr p.2=true → ∀g,ownB (E (f p.1))=some g → ¬F g → ¬jX F E (dW (iH f W) H) g:=by
  intro hw g hg hF hk
  rcases hk with hk|⟨q,hq,hwq,hgq⟩
  ·exact hF hk
  have hne:f p.1≠q.1:=fun e=>aGF hq (by rw [←e];exact aHA hp hw)
  exact aAV S.apart hpH ((eJ _ _).subset hq) hne (by rw [aQH];exact hw) hwq g hg hgq
 obtain ⟨b,x⟩:=p
 cases x with
 |cells t cs=>
  obtain ⟨g,e1,e2,e3⟩:=h1
  exact ⟨g,e1,e2,hno rfl g (by show ownB (E (f b))=_;rw [show E (f b)=_ from e1];rfl) e3⟩
 |own e sz rows=>
  obtain ⟨e1,e2,e3⟩:=h1
  exact ⟨e1,e2,fun g hg=>hno rfl g hg (e3 g hg)⟩
 |ro sz rows=>
  obtain ⟨e1,e0,a,cap,e2,e3⟩:=h1
  exact ⟨e1,e0,a,cap,e2,e3.mono fun g hg=>.inl hg⟩
 |map d es=>
  obtain ⟨g,e1,e2,e3⟩:=h1
  exact ⟨g,e1,e2,hno rfl g (by show ownB (E (f b))=_;rw [show E (f b)=_ from e1];rfl) e3⟩
theorem Sat.takeBack {k nx:Nat} {E E':Env} {F:Nat→Prop} {H W H':SH} {h h' h0:Array Obj} {ren:List Nat} (S:Sat E F H h) (K:Kp F h0 h) (hlen:ren.length=k) (hren:bdN nx ren=true) (hbd:bdH nx H=true)
  (A:Ag k (fun b=>E (bS ren b)) E') (S':Sat E' (jX F E (dW (iH (bS ren) W) H)) H' h') (K':Kp (jX F E (dW (iH (bS ren) W) H)) h h'):
  ∃E'':Env,Ag nx E E''∧(∀x:SV,(x.ren (nmC ren k nx)).g E''=x.g E')∧Sat E'' F (nW (nmC ren k nx) (dW (iH (bS ren) W) H) H') h'∧Kp F h0 h':=by
 refine ⟨fun b=>if b<nx then E b else E' (k+(b - nx)),fun b hb=>by simp [hb],?_⟩
 have hc:(fun i=>(fun b=>if b<nx then E b else E' (k+(b - nx))) (nmC ren k nx i))=E':=by
  funext i
  unfold nmC
  cases hi:Nat.blt i k with
  |true=>
   have hi':i<k:=Nat.blt_eq.mp hi
   have:=aQZ hren (by rw [hlen];exact hi')
   simp only [this,if_true]
   exact (A i hi').symm
  |false=>
   have hi':¬i<k:=fun hc=>by have:=Nat.blt_eq.mpr hc;rw [hi] at this;cases this
   have:¬nx+(i - k)<nx:=by omega
   simp only [this,if_false]
   rw [show k+(nx+(i - k) - nx)=i by omega]
 have Ag1:Ag nx E (fun b=>if b<nx then E b else E' (k+(b - nx))):=fun b hb=>by simp [hb]
 generalize (fun b=>if b<nx then E b else E' (k+(b - nx)))=E'' at hc Ag1
 refine ⟨fun x=>by rw [SV.g_ren,hc],⟨fun p hp=>?_,?_⟩,K.trans ⟨K'.size,fun i hi=>K'.same i (.inl hi),fun i hi=>K'.lt i (.inl hi)⟩⟩
 ·rcases sN hp with hp|⟨q,hq,hw,rfl⟩
  ·have hpH:=(eJ (iH (bS ren) W) H).subset hp
   have h1:=S.ok p hpH
   have h2:p.2.ok E F h' (E p.1):=Blk.keep h1 (fun hw g hg=>K'.same g (.inr ⟨p,hp,hw,hg⟩)) fun i hi=>K'.same i (.inl hi)
   obtain ⟨b1,b2⟩:=lV hbd hpH
   rw [Ag1 p.1 b1]
   exact Blk.ok_ag Ag1 b2 h2
  have h1:=S'.ok q hq
  show (aKH (nmC ren k nx) q.2).ok E'' F h' (E'' (nmC ren k nx q.1))
  rw [aYK,hc,show E'' (nmC ren k nx q.1)=E' q.1 from congrFun hc q.1]
  obtain ⟨b,x⟩:=q
  cases x with
  |cells t cs=>
   obtain ⟨g,e1,e2,e3⟩:=h1
   exact ⟨g,e1,e2,fun hF=>e3 (.inl hF)⟩
  |own e sz rows=>
   obtain ⟨e1,e2,e3⟩:=h1
   exact ⟨e1,e2,fun g hg hF=>e3 g hg (.inl hF)⟩
  |ro=>cases hw
  |map d es=>
   obtain ⟨g,e1,e2,e3⟩:=h1
   exact ⟨g,e1,e2,fun hF=>e3 (.inl hF)⟩
 refine aLK ?_ (by rw [hc];exact S'.apart) fun p hp hw q hq=>?_
 ·exact List.Pairwise.imp_of_mem (fun {a b} ha hb hA=>by
   intro hw1 hw2 g e1 e2
   have ha':=(eJ (iH (bS ren) W) H).subset ha
   have hb':=(eJ (iH (bS ren) W) H).subset hb
   rw [Ag1 _ (lV hbd ha').1] at e1
   rw [Ag1 _ (lV hbd hb').1] at e2
   exact hA hw1 hw2 g e1 e2) (S.apart.sublist (eJ _ _))
 intro _ hwq g e1 e2
 have hqH:=(eJ (iH (bS ren) W) H).subset hq
 rw [Ag1 _ (lV hbd hqH).1] at e2
 have e1:ownB (E' p.1)=some g:=by rw [←congrFun hc p.1];exact e1
 exact (Blk.lt (S'.ok p hp) hw e1).2 (.inr ⟨q,hq,hwq,e2⟩)
section
variable {s:SCx P} {ds:List dS} {nx:Nat} {kk:List SI} {l:SFr} {H:SH}
variable {all:Array Oper} {rest:List Oper} {o:Oper} {cl:Call} {x:Operand} {g:FuncId} {first captured vs:List SV}
def yV (s:SCx P) (ds:List dS) (k nx:Nat) (ren:List Nat) (R:SH) (dst:Option Nat) (l:SFr) (st:List SI):gK→Prop
 | .ret v n H'=>jR l dst (v.ren (nmC ren k nx)) fun l=>aA s ds (nx+(n - k)) st l (nW (nmC ren k nx) R H')
 | .pan ch n H'=>aE s ds (.panicking ch) (nx+(n - k)) l (nW (nmC ren k nx) R H')
theorem aA.callN {k:Nat} {args:List SV} {W:SH} {X:Type} {J:X→Prop} {out:X→gK} (C:FnS P g k args W J out) (ren:List Nat)
  (hr:∀y,J y→yV s ds k nx ren (dW (iH (bS ren) W) H) o.dst l (.ops all rest::kk) (out y))
  (hH:nQ (bS ren) H W) (ha:SV.rens (bS ren) args=first++(vs++captured))
  (hlen:ren.length=k:=by rfl) (hren:bdN nx ren=true:=by rfl) (hfr:iX s.n0 nx l H ds=true:=by rfl) (hn:dY (bS ren) W []=true:=by rfl)
  (hop:o.op=.call cl:=by rfl) (hcal:cl.callee=.value x:=by rfl) (hx:iM l x=some (g,first,captured):=by rfl) (hargs:kH l cl.args.toList=some vs:=by rfl)
  (hgd:cJ l all o=some true:=by rfl) (hdn:dD s.c.n o.dst=true:=by rfl):aA s ds nx (.ops all (o::rest)::kk) l H:=by
 obtain ⟨f1,f2,f3,f4⟩:=eY hfr
 refine aA.callE (R:=fun E h=>aL k (fun b=>E (bS ren b)) (jX s.F E (dW (iH (bS ren) W) H)) h J out) ?_ ?_ ?_ ?_ hop hcal hx hargs hgd hdn
 ·intro E h hA S K
  have:=C.call (fun b=>E (bS ren b)) (jX s.F E (dW (iH (bS ren) W) H)) h (fun i hi=>?_) (S.hand (bS ren) hH hn)
  ·rw [←ha,SV.gs_ren];exact this
  rcases hi with hi|⟨q,hq,hw,hg⟩
  ·have:=K.lt i hi;have:=K.size;omega
  exact (Blk.lt (S.ok q ((eJ _ _).subset hq)) hw hg).1
 ·rintro E h h' ⟨y,E',_,_,_,_,he⟩
  cases ho:out y<;>rw [ho] at he<;>cases he
 ·rintro E h hA S K ch h' ⟨y,E',hJ,hA',S',K',he⟩
  have hr:=hr y hJ
  cases ho:out y with
  |ret v n H'=>rw [ho] at he;cases he
  |pan ch' n H'=>
   rw [ho] at he hr S'
   cases he
   obtain ⟨E'',a1,_,a3,a4⟩:=S.takeBack K hlen hren f3 hA' S' K'
   have:=hr.run E'' h' (hA.trans (a1.mono f1)) a3 a4
   rw [mH a1 ds f4,nC a1 l f2] at this
   exact this
 rintro E h hA S K v h' ⟨y,E',hJ,hA',S',K',he⟩
 have hr:=hr y hJ
 cases ho:out y with
 |pan ch n H'=>rw [ho] at he;cases he
 |ret v' n H'=>
  rw [ho] at he hr S'
  cases he
  obtain ⟨E'',a1,a2,a3,a4⟩:=S.takeBack K hlen hren f3 hA' S' K'
  simp only [yV,bR] at hr
  have:=hr.run E'' h' (hA.trans (a1.mono f1)) a3 a4
  rw [mH a1 ds f4,iB,nC a1 l f2,a2] at this
  exact this
end
theorem wJ {T:Tab P} {l:SFr} {H:SH} {nx:Nat} {t t':TypeId} {x:Operand} {b off:Nat} {cs:List SV} {v:SV} (hn:nth cs off=some v) (hx:evS l x=some (.ptr b off)) (hb:dE H b=some (.cells t' cs)) (hs:fY T t=true):
  evO T l H nx (.load t x)=.val v:=by
 simp only [evO,hx,hb,hs,hn]
theorem yB.callE {n:Nat} {l:Fr} {h:Array Obj} {o:Oper} {cl:Call} {x:Operand} {g:FuncId} {first captured:Array Value} {vs:List Value} {R:Ending→Array Obj→Prop}
  (H:Fn P g (first++vs.toArray++captured) h R) (hno:∀h',¬R .outgrown h')
  (hop:o.op=.call cl:=by rfl) (hcal:cl.callee=.value x:=by rfl)
  (hx:ev l x=some (.func (.func g) first captured):=by rfl) (hargs:mQ l cl.args.toList=some vs:=by rfl):
  yB P n l h o (fun v h'=>R (.returned v) h') (fun ch' h'=>R (.panicked ch') h'):=by
 intro a w ha hh next Q hn hp
 unfold Oper.wp
 rw [tE hop hcal ha hx hargs H.enters w,Oper.upon_enter]
 refine (H.calls w hh).mono fun e w' ⟨hlk,he⟩=>?_
 cases e with
 |returned v=>exact hn v w' hlk he
 |panicked ch=>exact hp ch w' hlk he
 |outgrown=>exact absurd he (hno _)
section
variable {s:SCx P} {ds:List dS} {all:List Oper} {st:List SI} {t:Tr} {taken:List Nat} {ps:List (Nat×cW)} {nx kk:Nat} {keep:List Nat} {l:SFr} {H:SH} {o:Oper} {cl:Call} {x:Operand} {g:FuncId} {first captured vs:List SV}
def tM (s:SCx P) (ds:List dS) (all:List Oper) (st:List SI) (t:Tr) (taken:List Nat) (ps:List (Nat×cW)) (keep:List Nat) (k nx:Nat) (ren:List Nat) (R:SH) (dst:Option Nat) (l:SFr):gK→Prop
 | .ret v n H'=>kN (nW (nmC ren k nx) R H') keep ps∧jR l dst (v.ren (nmC ren k nx)) fun l=>bK s ds all st t taken ps (nx+(n - k)) l (nW (nmC ren k nx) R H')
 | .pan ch n H'=>aE s ds (.panicking ch) (nx+(n - k)) (cutS (aAY all) l) (nW (nmC ren k nx) R H')
theorem aV.callN {k:Nat} {args:List SV} {W:SH} {X:Type} {J:X→Prop} {out:X→gK} (C:FnS P g k args W J out) (ren:List Nat)
  (hr:∀y,J y→tM s ds all st t taken ps keep k nx ren (dW (iH (bS ren) W) H) o.dst l (out y))
  (hH:nQ (bS ren) H W) (ha:SV.rens (bS ren) args=first++(vs++captured))
  (hlen:ren.length=k:=by rfl) (hren:bdN nx ren=true:=by rfl) (hfr:iX s.n0 nx l H ds=true:=by rfl) (hn:dY (bS ren) W []=true:=by rfl) (hps:yU nx ps=true:=by rfl)
  (ho:all[kk]? = some o:=by rfl) (hop:o.op=.call cl:=by rfl) (hcal:cl.callee=.value x:=by rfl) (hx:iM l x=some (g,first,captured):=by rfl) (hargs:kH l cl.args.toList=some vs:=by rfl)
  (hgd:cJ l all.toArray o=some true:=by rfl) (hdn:dD s.c.n o.dst=true:=by rfl):aV s ds all st kk keep t taken ps nx l H:=by
 obtain ⟨f1,f2,f3,f4⟩:=eY hfr
 refine aV.of ho (rE hop hcal) hdn hgd (V:=fun E h v h'=>aL k (fun b=>E (bS ren b)) (jX s.F E (dW (iH (bS ren) W) H)) h J out (.returned v) h')
  (PN:=fun E h ch h'=>aL k (fun b=>E (bS ren b)) (jX s.F E (dW (iH (bS ren) W) H)) h J out (.panicked ch) h') ?_ ?_ ?_
 ·intro E h hA S K
  have:=C.call (fun b=>E (bS ren b)) (jX s.F E (dW (iH (bS ren) W) H)) h (fun i hi=>by
   rcases hi with hi|⟨q,hq,hw,hg⟩
   ·have:=K.lt i hi;have:=K.size;omega
   exact (Blk.lt (S.ok q ((eJ _ _).subset hq)) hw hg).1) (S.hand (bS ren) hH hn)
  rw [←SV.gs_ren,ha] at this
  refine yB.callE (first:=(SV.gs E first).toArray) (captured:=(SV.gs E captured).toArray) (vs:=SV.gs E vs) (by rw [xW];exact this) ?_ hop hcal (mC hx) (lE hargs)
  rintro h' ⟨y,E',_,_,_,_,he⟩
  cases ho:out y<;>rw [ho] at he<;>cases he
 ·rintro E h hA S K ch h' ⟨y,E',hJ,hA',S',K',he⟩
  have hr:=hr y hJ
  cases ho:out y with
  |ret v n H'=>rw [ho] at he;cases he
  |pan ch' n H'=>
   rw [ho] at he hr S'
   cases he
   obtain ⟨E'',a1,_,a3,a4⟩:=S.takeBack K hlen hren f3 hA' S' K'
   have:=hr.run E'' h' (hA.trans (a1.mono f1)) a3 a4
   rw [mH a1 ds f4,uA,nC a1 l f2] at this
   exact this
 rintro E h hA S K v h' ⟨y,E',hJ,hA',S',K',he⟩
 have hr:=hr y hJ
 cases ho:out y with
 |pan ch n H'=>rw [ho] at he;cases he
 |ret v' n H'=>
  rw [ho] at he hr S'
  cases he
  obtain ⟨E'',a1,a2,a3,a4⟩:=S.takeBack K hlen hren f3 hA' S' K'
  simp only [tM,bR] at hr
  exact ⟨E'',_,_,_,a1,f1,hps,mH a1 ds f4,by rw [iB,nC a1 l f2,a2],a3,a4,hr.1,hr.2⟩
end
end Go.Fw

namespace Go.Fw
open Go
variable {P:Program}
set_option maxHeartbeats 8000000
structure OutD where
 u:FrameMode
 n:Nat
 H:SH
def aJU {X:Type} (k:Nat) (E:Env) (F:Nat→Prop) (h:Array Obj) (J:X→Prop) (out:X→OutD) (e:Ending) (u':FrameMode) (h':Array Obj):Prop:=
 ∃x E',J x∧Ag k E E'∧Sat E' F (out x).H h'∧Kp F h h'∧(∃v,e=.returned v)∧u'=(out x).u
structure aEZ (P:Program) (g:FuncId) (k:Nat) (args:List SV) (W:SH) (u:FrameMode) {X:Type} (J:X→Prop) (out:X→OutD):Prop where
 call:∀(E:Env) (F:Nat→Prop) (h:Array Obj),(∀i,F i→i<h.size)→Sat E F W h→FnD P g (SV.gs E args).toArray u h (aJU k E F h J out)
theorem aEZ.of {f:FuncId} {fn:Func} {code:Code} {k:Nat} {args:List SV} {W:SH} {u:FrameMode} {X:Type} {J:X→Prop} {out:X→OutD} (hf:P.funcs[f]? = some fn) (hname:(fn.name == "runtime.NumGoroutine")=false) (hb:fn.body=some code) {n:Nat} (hnt:fn.ntmps=n)
  (hargs:Nat.ble args.length n=true)
  (H:∀E0 F h w0 c0 cs,aCW 0 args fun l=>aA ⟨dM P f n w0 c0 cs u (aJU k E0 F h J out),F,h,E0,k⟩ [] k [.code code] l W):aEZ P f k args W u J out:=
 ⟨fun E F h hF S=>FnD.of hf hname hb hnt (by rw [kL];exact hargs) fun w0 c0 cs=>by
  have H:=H E F h w0 c0 cs
  rw [aET] at H
  have:=H.run E h (fun _ _=>rfl) S ⟨Nat.le_refl _,fun _ _=>rfl,hF⟩
  rw [aKA] at this
  exact this⟩
section
variable {s:SCx P} {ds:List dS} {nx:Nat} {l:SFr} {H:SH} {d:dS} {u:FrameMode}
theorem aE.deferN {k:Nat} {args:List SV} {W:SH} {X:Type} {J:X→Prop} {out:X→OutD} (C:aEZ P d.g k args W u J out) (ren:List Nat)
  (hr:∀y,J y→aE s ds (settle (out y).u) (nx+((out y).n - k)) l (nW (nmC ren k nx) (dW (iH (bS ren) W) H) (out y).H))
  (hH:nQ (bS ren) H W) (ha:SV.rens (bS ren) args=d.args++d.captured) (hu:u ≠ .run)
  (hlen:ren.length=k:=by rfl) (hren:bdN nx ren=true:=by rfl) (hfr:iX s.n0 nx l H ds=true:=by rfl) (hn:dY (bS ren) W []=true:=by rfl):aE s (d::ds) u nx l H:=.mk fun E h hA S K=>by
 obtain ⟨f1,f2,f3,f4⟩:=eY hfr
 have C1:=C.call (fun b=>E (bS ren b)) (jX s.F E (dW (iH (bS ren) W) H)) h (fun i hi=>by
  rcases hi with hi|⟨q,hq,hw,hg⟩
  ·have:=K.lt i hi;have:=K.size;omega
  exact (Blk.lt (S.ok q ((eJ _ _).subset hq)) hw hg).1) (S.hand (bS ren) hH hn)
 rw [←SV.gs_ren,ha,aKW] at C1
 refine Unw.defer (args:=(SV.gs E d.args).toArray) (captured:=(SV.gs E d.captured).toArray) (R:=aJU k (fun b=>E (bS ren b)) (jX s.F E (dW (iH (bS ren) W) H)) h J out) (by rw [show (SV.gs E d.args).toArray++(SV.gs E d.captured).toArray=(SV.gs E d.args++SV.gs E d.captured).toArray by apply Array.ext';simp];exact C1) hu ?_ ?_ ?_
 ·rintro u' h' ⟨_,_,_,_,_,_,⟨v,e⟩,_⟩;cases e
 ·rintro v u' h' ⟨y,E',hJ,hA',S',K',_,rfl⟩
  obtain ⟨E'',a1,_,a3,a4⟩:=S.takeBack K hlen hren f3 hA' S' K'
  have:=(hr y hJ).run E'' h' (hA.trans (a1.mono f1)) a3 a4
  rw [mH a1 ds f4,nC a1 l f2] at this
  exact this
 rintro ch u' h' ⟨_,_,_,_,_,_,⟨v,e⟩,_⟩;cases e
end
section
variable {f n nx:Nat} {w0:World} {c0:Frame} {cs:List Frame} {R:Ending→FrameMode→Array Obj→Prop} {F:Nat→Prop} {h0:Array Obj} {E0:Env} {n0:Nat} {k:List SI} {l:SFr} {H:SH} {ds:List dS} {u:FrameMode}
theorem aE.retD (T:Tab P) {fn:Func} (hf:P.funcs[f]? = some fn) (hx:fn.results.toList=[])
  (hR:∀E h,Ag n0 E0 E→Sat E F H h→Kp F h0 h→R (.returned (tup [])) u h):aE ⟨dM P f n w0 c0 cs u R,F,h0,E0,n0⟩ [] .returning nx l H:=.mk fun E h hA S K=>
 Unw.retD T hf (vs:=[]) (by rw [hx];trivial) (hR E h hA S K)
theorem aJU.mk {X:Type} {J:X→Prop} {out:X→OutD} (x:X) (hJ:J x) (m:List (Nat×Nat)) (hH:nQ (rn m) H (out x).H) (hm:aLW n0 m=true) (hn:dY (rn m) (out x).H []=true) (hu:u=(out x).u):
  ∀E h,Ag n0 E0 E→Sat E F H h→Kp F h0 h→aJU n0 E0 F h0 J out (.returned (tup [])) u h:=fun E h hA S K=>
 ⟨x,fun b=>E (rn m b),hJ,fun b hb=>by show E (rn m b)=_;rw [xM hm b hb];exact hA b hb,S.ren hH hn,K,⟨_,rfl⟩,hu⟩
theorem aA.recoverP {all:Array Oper} {rest:List Oper} {o:Oper} {cl:Call} {v:Value} {older:List PanicEntry}
  (hr:jR l o.dst (.v v) fun l=>aA ⟨dM P f n w0 c0 cs (.panicking ({v,recovered:=true}::older)) R,F,h0,E0,n0⟩ ds nx (.ops all rest::k) l H)
  (hop:o.op=.call cl:=by rfl) (hcal:cl.callee=.builtin .recover:=by rfl) (hgd:cJ l all o=some true:=by rfl) (hdn:dD n o.dst=true:=by rfl):
  aA ⟨dM P f n w0 c0 cs (.panicking ({v,recovered:=false}::older)) R,F,h0,E0,n0⟩ ds nx (.ops all (o::rest)::k) l H:=.mk fun E h hA S K=>by
 rw [bR] at hr
 have:=hr.run E h hA S K
 rw [iB] at this
 exact aX.recoverP this hop hcal (cD hgd) hdn
theorem aA.recoverN {all:Array Oper} {rest:List Oper} {o:Oper} {cl:Call}
  (hr:jR l o.dst (.v .nilIface) fun l=>aA ⟨dM P f n w0 c0 cs .returning R,F,h0,E0,n0⟩ ds nx (.ops all rest::k) l H)
  (hop:o.op=.call cl:=by rfl) (hcal:cl.callee=.builtin .recover:=by rfl) (hgd:cJ l all o=some true:=by rfl) (hdn:dD n o.dst=true:=by rfl):
  aA ⟨dM P f n w0 c0 cs .returning R,F,h0,E0,n0⟩ ds nx (.ops all (o::rest)::k) l H:=.mk fun E h hA S K=>by
 rw [bR] at hr
 have:=hr.run E h hA S K
 rw [iB] at this
 exact aX.recoverN this hop hcal (cD hgd) hdn
end
/-! a loop, round by round -/
section
variable {s:SCx P} {ds:List dS} {nx:Nat} {k:List SI} {l:SFr} {H:SH} {x:Code}
theorem aA.loopU (hr:aA s ds nx (.code x::.inLoop x::k) l H):aA s ds nx (.code (.loop x)::k) l H:=aA.lift1 (fun _ _=>aX.loop1) hr
theorem aA.againU (hr:aA s ds nx (.code x::.inLoop x::k) l H):aA s ds nx (.inLoop x::k) l H:=aA.lift1 (fun _ _=>aX.inLoop) hr
end
/-! an array's value at an index -/
theorem aQS {t e n:Nat} {k k':IntKind} {m:Int} {cs:Array Value} {v:Value} (h1:P.underlying t=some (.array n e)) (h2:(P.info? e).map (·.size)=some 1) (h3:P.underlying e=some (.int k')) (hm:0≤m∧m<n) (hv:cs[m.toNat]? = some v) (w:World):
  (Instr.index t (.agg cs) (.int k m)).run P w=.ok v w:=by
 simp [Instr.index,asIntOf,run_underlying h1,hm,iE h2,part,isAgg,run_underlying h3,hv]
section
variable {s:SCx P} {ds:List dS} {nx:Nat} {st:List SI} {l:SFr} {H:SH} {all:Array Oper} {rest:List Oper} {o:Oper} {x i:Operand}
theorem aA.indexV (T:Tab P) {t e n:Nat} {k k':IntKind} {m:Int} {cs:List SV} {z:SV} (hr:jR l o.dst z fun l=>aA s ds nx (.ops all rest::st) l H) (hm:0≤m∧m<n)
  (ho:o.op=.index t x i:=by rfl) (hx:evS l x=some (.agg cs):=by rfl) (hi:evS l i=some (.v (.int k m)):=by rfl) (hu:bU T.und t=some (.array n e 1):=by rfl) (he:bU T.und e=some (.int k'):=by rfl) (hz:nth cs m.toNat=some z:=by rfl)
  (hgd:cJ l all o=some true:=by rfl) (hdn:dD s.c.n o.dst=true:=by rfl):aA s ds nx (.ops all (o::rest)::st) l H:=by
 rw [bR] at hr
 refine aA.effK (cV.of_plain fun E h S K a w ha=>?_) (fun E=>cD hgd) hdn (by unfold jL;rw [ho]) hr
 obtain ⟨h1,h2⟩:=T.okU.look hu
 have h3:=T.okU.look he
 have e1:=ha.ev (bT (E:=E) hx)
 have e2:=ha.ev (bT (E:=E) hi)
 simp only [SV.g] at e1 e2
 rw [iF] at hz
 simp [execOp,ho,e1,e2,aQS h1 h2 h3 hm (show (SV.gs E cs).toArray[m.toNat]? = some (z.g E) by simp [vJ,hz]) w]
end
/-! any effect whose value names nothing and that keeps the heap -/
section
variable {s:SCx P} {ds:List dS} {nx:Nat} {st:List SI} {l:SFr} {H:SH} {all:Array Oper} {rest:List Oper} {o:Oper}
theorem aA.effV {X:Value} (H1:∀E h,Eff P s.c.n (gF E l) h o (fun v h'=>v=X∧h'=h)) (hr:jR l o.dst (.v X) fun l=>aA s ds nx (.ops all rest::st) l H)
  (hgd:cJ l all o=some true:=by rfl) (hdn:dD s.c.n o.dst=true:=by rfl) (hnd:jL o=true:=by rfl):aA s ds nx (.ops all (o::rest)::st) l H:=by
 rw [bR] at hr
 exact aA.effL (x:=.v X) (H':=H) (fun E h S K=>Eff.toS S K (H1 E h)) (fun E=>cD hgd) hdn hnd hr
theorem aEA {n:Nat} {l:Fr} {h:Array Obj} {o:Oper} {t yt:TypeId} {x:Operand} {ms:Array (String×TypeId)} (ht:P.underlying t=some (.interface ms))
  (hop:o.op=.binOp .neq t x (.const .nilIface) yt:=by rfl) (hx:ev l x=some .nilIface:=by rfl):Eff P n l h o (fun v' h'=>v'=.bool false∧h'=h):=by
 refine Eff.of_val1 fun a w ha hh=>⟨w,?_,fL.refl w,hh⟩
 have e1:(Op.equalIn 10000 t .nilIface .nilIface).run P w=.ok true w:=by
  obtain ⟨m,hm⟩:∃m,10000=m+1:=⟨9999,rfl⟩
  rw [hm]
  simp [Op.equalIn,run_underlying ht]
 have hc:a.eval (.const .nilIface)=.nilIface:=rfl
 simp [execOp,hop,ha.ev hx,hc,eqGuard,binOp,Op.equal,Op.maxDepth,e1]
end
end Go.Fw

namespace Go.Fw
open Go
variable {P:Program}
set_option maxHeartbeats 8000000
mutual
/-- the name n is the value v -/
def SV.inst (n:Nat) (v:Value):SV→SV
 | .v x=>.v x
 | .ptr b off=>match Nat.beq b n with
  |true=>.v (.pointer (some ⟨jH v,off,none⟩))
  |false=>.ptr b off
 | .buf b=>match Nat.beq b n with
  |true=>.v v
  |false=>.buf b
 | .row b i off sz=>match Nat.beq b n with
  |true=>.v (.pointer (some ⟨jH v,aGN v+i.toNat*sz+off,none⟩))
  |false=>.row b i off sz
 | .agg cs=>.agg (SV.insts n v cs)
 | .tup vs=>.tup (SV.insts n v vs)
 | .ifc t x=>.ifc t (SV.inst n v x)
 | .fn g a b=>.fn g (SV.insts n v a) (SV.insts n v b)
def SV.insts (n:Nat) (v:Value):List SV→List SV
 | []=>[]
 |x::xs=>SV.inst n v x::SV.insts n v xs
end
theorem aAO (E:Env) (n:Nat) (v:Value) (b:Nat):push E n v b=match Nat.beq b n with
 |true=>v
 |false=>E b:=rfl
mutual
theorem SV.g_inst (n:Nat) (v:Value) (E:Env):∀x:SV,(x.inst n v).g E=x.g (push E n v)
 | .v _=>rfl
 | .ptr b off=>by
  simp only [SV.inst,SV.g,aAO]
  cases Nat.beq b n<;>rfl
 | .buf b=>by
  simp only [SV.inst,SV.g,aAO]
  cases Nat.beq b n<;>rfl
 | .row b i off sz=>by
  simp only [SV.inst,SV.g,aAO]
  cases Nat.beq b n<;>rfl
 | .agg cs=>by simp only [SV.inst,SV.g,SV.gs_inst n v E cs]
 | .tup vs=>by simp only [SV.inst,SV.g,SV.gs_inst n v E vs]
 | .ifc t x=>by simp only [SV.inst,SV.g,SV.g_inst n v E x]
 | .fn g a b=>by simp only [SV.inst,SV.g,SV.gs_inst n v E a,SV.gs_inst n v E b]
theorem SV.gs_inst (n:Nat) (v:Value) (E:Env):∀xs:List SV,SV.gs E (SV.insts n v xs)=SV.gs (push E n v) xs
 | []=>rfl
 |x::xs=>by simp only [SV.insts,SV.gs,SV.g_inst n v E x,SV.gs_inst n v E xs]
end
def aJD (n:Nat) (v:Value):SFr→SFr
 | []=>[]
 |(s,x)::l=>(s,x.inst n v)::aJD n v l
theorem aDT (n:Nat) (v:Value) (E:Env):∀l:SFr,gF E (aJD n v l)=gF (push E n v) l
 | []=>rfl
 |(s,x)::l=>by simp only [aJD,gF,SV.g_inst,aDT n v E l]
def aCN (n:Nat) (v:Value):Blk→Blk
 | .cells t cs=>.cells t (SV.insts n v cs)
 | .own e sz rows=>.own e sz rows
 | .ro sz rows=>.ro sz rows
 | .map d es=>.map d es
def aCP (n:Nat) (v:Value):SH→SH
 | []=>[]
 |(b,x)::H=>(b,aCN n v x)::aCP n v H
theorem mT (n:Nat) (v:Value):∀H:SH,aCP n v H=H.map fun p=>(p.1,aCN n v p.2)
 | []=>rfl
 |(b,x)::H=>by simp only [aCP,List.map_cons,mT n v H]
theorem aXA {n:Nat} {v:Value} {E:Env} {F:Nat→Prop} {h:Array Obj} {x:Value} {b:Blk} (H:(aCN n v b).ok E F h x):b.ok (push E n v) F h x:=by
 cases b with
 |cells t cs=>
  obtain ⟨g,h1,h2,h3⟩:=H
  exact ⟨g,h1,by rw [←SV.gs_inst];exact h2,h3⟩
 |own=>exact H
 |ro=>exact H
 |map=>exact H
theorem xR (n:Nat) (v:Value) (b:Blk):wr (aCN n v b)=wr b:=by cases b<;>rfl
theorem aA.nilOwn {s:SCx P} {ds:List dS} {nx:Nat} {st:List SI} {l l':SFr} {H H':SH} (e:TypeId) (sz:Nat) (hr:aA s ds (nx+1) st l' ((nx,.own e sz [])::H'))
  (hl:aJD nx (.slice none 0 0) l'=l) (hH:aCP nx (.slice none 0 0) H'=H) (hfr:iX s.n0 nx l H ds=true):aA s ds nx st l H:=.mk fun E h hA S K=>by
 obtain ⟨f1,f2,f3,f4⟩:=eY hfr
 have A:=jW E nx (.slice none 0 0)
 have hk:∀p∈H',p.1<nx:=fun p hp=>(lV (p:=(p.1,aCN nx (.slice none 0 0) p.2)) f3 (by rw [←hH,mT];exact List.mem_map_of_mem hp)).1
 have hlt:∀p∈H',push E nx (.slice none 0 0) p.1=E p.1:=fun p hp=>A _ (hk p hp)
 have S':Sat (push E nx (.slice none 0 0)) s.F ((nx,.own e sz [])::H') h:=by
  refine ⟨fun p hp=>?_,List.pairwise_cons.2 ⟨fun q hq _ _ g e1=>?_,?_⟩⟩
  ·rcases List.mem_cons.1 hp with rfl|hp
   ·show (Blk.own e sz []).ok _ _ _ (push E nx _ nx)
    rw [jS]
    exact ⟨fun r hr=>(by cases hr),⟨by simp,.inl ⟨rfl,rfl⟩⟩,fun g hg=>(by cases hg)⟩
   rw [hlt p hp]
   have:=S.ok (p.1,aCN nx (.slice none 0 0) p.2) (by rw [←hH,mT];exact List.mem_map_of_mem hp)
   exact aXA this
  ·have:ownB (push E nx (.slice none 0 0) nx)=some g:=e1
   rw [jS] at this
   cases this
  have:=S.apart
  rw [←hH,mT,List.pairwise_map] at this
  refine List.Pairwise.imp_of_mem (fun {a b} ha hb hA hw1 hw2 g e1 e2=>?_) this
  rw [hlt a ha] at e1
  rw [hlt b hb] at e2
  exact hA (by rw [xR];exact hw1) (by rw [xR];exact hw2) g e1 e2
 have:=hr.run _ h (hA.trans (A.mono f1)) S' K
 rw [mH A ds f4,←aDT,hl] at this
 exact this
theorem ldR_at {T:Tab P} {l:SFr} {H:SH} {t t':TypeId} {x:Operand} {b off:Nat} {cs:List SV} {v:SV} (hn:nth cs off=some v) (hx:evS l x=some (.ptr b off)) (hb:dE H b=some (.cells t' cs)) (hs:fY T t=true):
  ldR T l H (.load t x)=.got v (.cell b off v):=by
 simp only [ldR,hx,hb,hs,hn]
theorem aIV:∀ {H:SH} {b:Nat} {x:Blk},dE H b=some x→rD H b x=H
 | [],_,_,h=>by cases h
 |(s,v)::l,d,x,h=>by
  simp only [dE] at h
  simp only [rD]
  cases hb:Nat.beq s d with
  |true=>simp only [hb,Option.some.injEq] at h;simp [h]
  |false=>simp only [hb] at h;simp [aIV h]
theorem aA.rowsEq {s:SCx P} {ds:List dS} {nx:Nat} {st:List SI} {l:SFr} {H:SH} {e:TypeId} {sz:Nat} {rows rows':List (List Value)} (b:Nat) (he:rows=rows') (hr:aHL H b (.own e sz rows') fun H=>aA s ds nx st l H)
  (hl:dE H b=some (.own e sz rows):=by rfl):aA s ds nx st l H:=by
 subst he
 rw [rP,aIV hl] at hr
 exact hr
theorem gG {n k b b2:Nat} (hn:n≤1000000) (hk:k≤1000:=by decide) (hb:b≠b2:=by decide):0<1∧n+1≤9223372036854775807∧(n+1)*k≤140737488355328∧b≠b2:=
 ⟨Nat.one_pos,by omega,Nat.le_trans (Nat.mul_le_mul (show n+1≤1000001 by omega) hk) (by decide),hb⟩
end Go.Fw

namespace Go.Fw
open Go
variable {P:Program}
set_option maxHeartbeats 8000000
end Go.Fw

namespace Go.Fw
open Go
variable {P:Program}
set_option maxHeartbeats 8000000
section
variable {s:SCx P} {ds:List dS} {nx:Nat} {st:List SI} {l:SFr} {H:SH} {all:Array Oper} {rest:List Oper} {o:Oper} {x y:Operand}
/-! a slice of the walk's own is only read from now on -/
theorem aCU {f:Nat→Nat}:∀ {H:SH} {seen:List Nat},dY f H seen=true → ∀p∈H,f p.1∉seen
 | [],_,_,p,hp=>by cases hp
 |(b,x)::H,seen,h,p,hp=>by
  simp only [dY] at h
  cases hm:aHD (f b) seen with
  |true=>simp [hm] at h
  |false=>
   simp only [hm] at h
   rcases List.mem_cons.1 hp with rfl|hp
   ·exact aAP hm
   exact fun hc=>aCU h p hp (List.mem_cons_of_mem _ hc)
theorem aNA {x:Blk}:∀ {H:SH} {b:Nat} {p:Nat×Blk},p∈rD H b x→p=(b,x)∨p∈H
 | [],_,_,h=>by cases h
 |(s,v)::l,d,p,h=>by
  simp only [rD] at h
  cases hb:Nat.beq s d with
  |true=>
   simp only [hb] at h
   have:=Nat.eq_of_beq_eq_true hb
   rcases List.mem_cons.1 h with rfl|h
   ·exact .inl (by rw [this])
   exact .inr (List.mem_cons_of_mem _ h)
  |false=>
   simp only [hb] at h
   rcases List.mem_cons.1 h with rfl|h
   ·exact .inr (List.mem_cons_self ..)
   exact (aNA h).imp id fun h=>List.mem_cons_of_mem _ h
end
end Go.Fw

namespace Go.Fw
open Go
variable {P:Program}
set_option maxHeartbeats 8000000
structure TOk (T:(Nat→Prop)→Array Obj→Prop):Prop where
 mono:∀F F' h,(∀i,F i→F' i)→T F h→T F' h
 keep:∀F h h',T F h→Kp F h h'→T F h'
theorem TOk.at {T:(Nat→Prop)→Array Obj→Prop} (ok:TOk T) {F:Nat→Prop} {h0 h:Array Obj} (hT:T F h0) (K:Kp F h0 h):T F h:=ok.keep F h0 h hT K
structure FnT (P:Program) (T:(Nat→Prop)→Array Obj→Prop) (g:FuncId) (k:Nat) (args:List SV) (W:SH) {X:Type} (J:X→Prop) (out:X→gK):Prop where
 call:∀(E:Env) (F:Nat→Prop) (h:Array Obj),(∀i,F i→i<h.size)→T F h→Sat E F W h→Fn P g (SV.gs E args).toArray h (aL k E F h J out)
theorem FnT.of {T:(Nat→Prop)→Array Obj→Prop} {f:FuncId} {fn:Func} {code:Code} {k:Nat} {args:List SV} {W:SH} {X:Type} {J:X→Prop} {out:X→gK} (hf:P.funcs[f]? = some fn) (hname:(fn.name == "runtime.NumGoroutine")=false) (hb:fn.body=some code) {n:Nat} (hnt:fn.ntmps=n)
  (hargs:Nat.ble args.length n=true)
  (H:∀E0 F h,T F h → ∀w0 cs,aCW 0 args fun l=>aA ⟨gT P f n w0 cs (aL k E0 F h J out),F,h,E0,k⟩ [] k [.code code] l W):FnT P T f k args W J out:=
 ⟨fun E F h hF hT S=>Fn.ofG E k args W F hf hname hb hnt hargs hF S fun w0 cs=>H E F h hT w0 cs⟩
section
variable {s:SCx P} {ds:List dS} {nx:Nat} {kk:List SI} {l:SFr} {H:SH}
variable {all:Array Oper} {rest:List Oper} {o:Oper} {cl:Call} {x:Operand} {g:FuncId} {first captured vs:List SV}
theorem aA.callT {T:(Nat→Prop)→Array Obj→Prop} (ok:TOk T) (hT:T s.F s.h0) {k:Nat} {args:List SV} {W:SH} {X:Type} {J:X→Prop} {out:X→gK} (C:FnT P T g k args W J out) (ren:List Nat)
  (hH:nQ (bS ren) H W) (ha:SV.rens (bS ren) args=first++(vs++captured))
  (hr:∀y,J y→yV s ds k nx ren (dW (iH (bS ren) W) H) o.dst l (.ops all rest::kk) (out y))
  (hlen:ren.length=k:=by rfl) (hren:bdN nx ren=true:=by rfl) (hfr:iX s.n0 nx l H ds=true:=by rfl) (hn:dY (bS ren) W []=true:=by rfl)
  (hop:o.op=.call cl:=by rfl) (hcal:cl.callee=.value x:=by rfl) (hx:iM l x=some (g,first,captured):=by rfl) (hargs:kH l cl.args.toList=some vs:=by rfl)
  (hgd:cJ l all o=some true:=by rfl) (hdn:dD s.c.n o.dst=true:=by rfl):aA s ds nx (.ops all (o::rest)::kk) l H:=by
 obtain ⟨f1,f2,f3,f4⟩:=eY hfr
 refine aA.callE (R:=fun E h=>aL k (fun b=>E (bS ren b)) (jX s.F E (dW (iH (bS ren) W) H)) h J out) ?_ ?_ ?_ ?_ hop hcal hx hargs hgd hdn
 ·intro E h hA S K
  have:=C.call (fun b=>E (bS ren b)) (jX s.F E (dW (iH (bS ren) W) H)) h (fun i hi=>?_) (ok.mono _ _ _ (fun i hi=>.inl hi) (ok.at hT K)) (S.hand (bS ren) hH hn)
  ·rw [←ha,SV.gs_ren];exact this
  rcases hi with hi|⟨q,hq,hw,hg⟩
  ·have:=K.lt i hi;have:=K.size;omega
  exact (Blk.lt (S.ok q ((eJ _ _).subset hq)) hw hg).1
 ·rintro E h h' ⟨y,E',_,_,_,_,he⟩
  cases ho:out y<;>rw [ho] at he<;>cases he
 ·rintro E h hA S K ch h' ⟨y,E',hJ,hA',S',K',he⟩
  have hr:=hr y hJ
  cases ho:out y with
  |ret v n H'=>rw [ho] at he;cases he
  |pan ch' n H'=>
   rw [ho] at he hr S'
   cases he
   obtain ⟨E'',a1,_,a3,a4⟩:=S.takeBack K hlen hren f3 hA' S' K'
   have:=hr.run E'' h' (hA.trans (a1.mono f1)) a3 a4
   rw [mH a1 ds f4,nC a1 l f2] at this
   exact this
 rintro E h hA S K v h' ⟨y,E',hJ,hA',S',K',he⟩
 have hr:=hr y hJ
 cases ho:out y with
 |pan ch n H'=>rw [ho] at he;cases he
 |ret v' n H'=>
  rw [ho] at he hr S'
  cases he
  obtain ⟨E'',a1,a2,a3,a4⟩:=S.takeBack K hlen hren f3 hA' S' K'
  simp only [yV,bR] at hr
  have:=hr.run E'' h' (hA.trans (a1.mono f1)) a3 a4
  rw [mH a1 ds f4,iB,nC a1 l f2,a2] at this
  exact this
end
end Go.Fw

namespace Go.Fw
open Go
variable {P:Program}
set_option maxHeartbeats 8000000
section
variable {s:SCx P} {ds:List dS} {all:List Oper} {st:List SI} {t:Tr} {taken:List Nat} {ps:List (Nat×cW)} {nx kk:Nat} {keep:List Nat} {l:SFr} {H:SH} {o:Oper} {cl:Call} {x:Operand} {g:FuncId} {first captured vs:List SV}
theorem aV.callT {T:(Nat→Prop)→Array Obj→Prop} (ok:TOk T) (hT:T s.F s.h0) {k:Nat} {args:List SV} {W:SH} {X:Type} {J:X→Prop} {out:X→gK} (C:FnT P T g k args W J out) (ren:List Nat)
  (hr:∀y,J y→tM s ds all st t taken ps keep k nx ren (dW (iH (bS ren) W) H) o.dst l (out y))
  (hH:nQ (bS ren) H W) (ha:SV.rens (bS ren) args=first++(vs++captured))
  (hlen:ren.length=k:=by rfl) (hren:bdN nx ren=true:=by rfl) (hfr:iX s.n0 nx l H ds=true:=by rfl) (hn:dY (bS ren) W []=true:=by rfl) (hps:yU nx ps=true:=by rfl)
  (ho:all[kk]? = some o:=by rfl) (hop:o.op=.call cl:=by rfl) (hcal:cl.callee=.value x:=by rfl) (hx:iM l x=some (g,first,captured):=by rfl) (hargs:kH l cl.args.toList=some vs:=by rfl)
  (hgd:cJ l all.toArray o=some true:=by rfl) (hdn:dD s.c.n o.dst=true:=by rfl):aV s ds all st kk keep t taken ps nx l H:=by
 obtain ⟨f1,f2,f3,f4⟩:=eY hfr
 refine aV.of ho (rE hop hcal) hdn hgd (V:=fun E h v h'=>aL k (fun b=>E (bS ren b)) (jX s.F E (dW (iH (bS ren) W) H)) h J out (.returned v) h')
  (PN:=fun E h ch h'=>aL k (fun b=>E (bS ren b)) (jX s.F E (dW (iH (bS ren) W) H)) h J out (.panicked ch) h') ?_ ?_ ?_
 ·intro E h hA S K
  have:=C.call (fun b=>E (bS ren b)) (jX s.F E (dW (iH (bS ren) W) H)) h (fun i hi=>by
   rcases hi with hi|⟨q,hq,hw,hg⟩
   ·have:=K.lt i hi;have:=K.size;omega
   exact (Blk.lt (S.ok q ((eJ _ _).subset hq)) hw hg).1) (ok.mono _ _ _ (fun i hi=>.inl hi) (ok.at hT K)) (S.hand (bS ren) hH hn)
  rw [←SV.gs_ren,ha] at this
  refine yB.callE (first:=(SV.gs E first).toArray) (captured:=(SV.gs E captured).toArray) (vs:=SV.gs E vs) (by rw [xW];exact this) ?_ hop hcal (mC hx) (lE hargs)
  rintro h' ⟨y,E',_,_,_,_,he⟩
  cases ho:out y<;>rw [ho] at he<;>cases he
 ·rintro E h hA S K ch h' ⟨y,E',hJ,hA',S',K',he⟩
  have hr:=hr y hJ
  cases ho:out y with
  |ret v n H'=>rw [ho] at he;cases he
  |pan ch' n H'=>
   rw [ho] at he hr S'
   cases he
   obtain ⟨E'',a1,_,a3,a4⟩:=S.takeBack K hlen hren f3 hA' S' K'
   have:=hr.run E'' h' (hA.trans (a1.mono f1)) a3 a4
   rw [mH a1 ds f4,uA,nC a1 l f2] at this
   exact this
 rintro E h hA S K v h' ⟨y,E',hJ,hA',S',K',he⟩
 have hr:=hr y hJ
 cases ho:out y with
 |pan ch n H'=>rw [ho] at he;cases he
 |ret v' n H'=>
  rw [ho] at he hr S'
  cases he
  obtain ⟨E'',a1,a2,a3,a4⟩:=S.takeBack K hlen hren f3 hA' S' K'
  simp only [tM,bR] at hr
  exact ⟨E'',_,_,_,a1,f1,hps,mH a1 ds f4,by rw [iB,nC a1 l f2,a2],a3,a4,hr.1,hr.2⟩
end
theorem Blk.ok_wr {E:Env} {F F':Nat→Prop} {h:Array Obj} {x:Value} {b:Blk} (hw:wr b=true) (hF:∀i,F i→F' i) (H:b.ok E F' h x):b.ok E F h x:=by
 cases b with
 |cells t cs=>
  obtain ⟨g,h1,h2,h3⟩:=H
  exact ⟨g,h1,h2,fun hf=>h3 (hF g hf)⟩
 |own e sz rows=>
  obtain ⟨h1,h2,h3⟩:=H
  exact ⟨h1,h2,fun g hg hf=>h3 g hg (hF g hf)⟩
 |ro sz rows=>cases hw
 |map d es=>
  obtain ⟨g,h1,h2,h3⟩:=H
  exact ⟨g,h1,h2,fun hf=>h3 (hF g hf)⟩
theorem fK {n m k b b2:Nat} (hn:n+m≤1000000) (hk:k≤1000:=by decide) (hb:b≠b2:=by decide):0<1∧n+m≤9223372036854775807∧(n+m)*k≤140737488355328∧b≠b2:=
 ⟨Nat.one_pos,by omega,Nat.le_trans (Nat.mul_le_mul hn hk) (by decide),hb⟩
end Go.Fw

namespace Go.Fw
open Go
variable {P:Program}
set_option maxHeartbeats 8000000
def RoF (G:Nat→Prop) (h:Array Obj) (v:Value) (sz:Nat) (rows:List (List Value)):Prop:=
 oU sz rows∧(rows.length≤9223372036854775807∧aRL v) ∧ ∃a cap,v=.slice a rows.length cap∧jV G h a rows
structure Up (G:Nat→Prop) (h:Array Obj) (G':Nat→Prop) (h':Array Obj):Prop where
 sub:∀i,G i→G' i
 same:∀i,G i→h'[i]? = h[i]?
theorem Up.refl (G:Nat→Prop) (h:Array Obj):Up G h G h:=⟨fun _ x=>x,fun _ _=>rfl⟩
theorem Up.trans {G G' G'':Nat→Prop} {h h' h'':Array Obj} (U:Up G h G' h') (V:Up G' h' G'' h''):Up G h G'' h'':=⟨fun i hi=>V.sub i (U.sub i hi),fun i hi=>(V.same i (U.sub i hi)).trans (U.same i hi)⟩
theorem RoF.up {G G':Nat→Prop} {h h':Array Obj} {v:Value} {sz:Nat} {rows:List (List Value)} (U:Up G h G' h') (H:RoF G h v sz rows):RoF G' h' v sz rows:=by
 obtain ⟨h1,h0,a,cap,h2,h3⟩:=H
 refine ⟨h1,h0,a,cap,h2,h3.imp id fun ⟨g,o,e1,e2,e3⟩=>⟨g,o,e1,U.sub g e2,fun j v hj=>?_⟩⟩
 have:=e3 j v hj
 unfold eK at this ⊢
 rw [U.same g e2];exact this
theorem Ro.rof {h:Array Obj} {v:Value} {sz:Nat} {rows:List (List Value)} (H:Ro h v sz rows):RoF (fun k=>k<h.size) h v sz rows:=H
theorem RoF.len {G:Nat→Prop} {h:Array Obj} {v:Value} {sz:Nat} {rows:List (List Value)} (H:RoF G h v sz rows):rows.length≤9223372036854775807:=H.2.1.1
theorem RoF.nil {G:Nat→Prop} {h:Array Obj} {sz:Nat}:RoF G h (.slice none 0 0) sz []:=⟨fun _ h=>(by cases h),⟨by simp,Nat.le_refl 0⟩,none,0,rfl,.inl rfl⟩
theorem RoF.blk {E:Env} {F:Nat→Prop} {h:Array Obj} {v:Value} {sz:Nat} {rows:List (List Value)} (H:RoF F h v sz rows):(Blk.ro sz rows).ok E F h v:=H
theorem RoF.ownB {G:Nat→Prop} {h:Array Obj} {v:Value} {sz:Nat} {rows:List (List Value)} (H:RoF G h v sz rows):∃a cap,v=.slice a rows.length cap:=by
 obtain ⟨_,_,a,cap,h2,_⟩:=H;exact ⟨a,cap,h2⟩
structure Now (F0 G0:Nat→Prop) (hh:Array Obj) (F G:Nat→Prop) (h:Array Obj):Prop where
 conv:∀hf,Kp F h hf→Kp F0 hh hf
 sub:∀i,F0 i→F i
 gsub:∀i,G i→F i
 lt:∀i,F i→i<h.size
 ginc:∀i,G0 i→G i
 gnew:∀i,G i→G0 i ∨ ¬F0 i
section
variable {F0 G0 F G F' G':Nat→Prop} {hh h h':Array Obj}
theorem Now.start (hG:∀i,G i→F i) (hF:∀i,F i→i<h.size):Now F G h F G h:=⟨fun _ K=>K,fun _ x=>x,hG,hF,fun _ x=>x,fun _ x=>.inl x⟩
theorem Now.kp (N:Now F0 G0 hh F G h):Kp F0 hh h:=N.conv h ⟨Nat.le_refl _,fun _ _=>rfl,N.lt⟩
theorem Now.trans (N:Now F0 G0 hh F G h) (M:Now F G h F' G' h'):Now F0 G0 hh F' G' h':=
 ⟨fun hf K=>N.conv hf (M.conv hf K),fun i hi=>M.sub i (N.sub i hi),M.gsub,M.lt,fun i hi=>M.ginc i (N.ginc i hi),fun i hi=>(M.gnew i hi).elim (N.gnew i) fun h=>.inr fun hf=>h (N.sub i hf)⟩
theorem Now.later (N:Now F0 G0 hh F G h) (K:Kp F h h'):Now F0 G0 hh F G h':=
 ⟨fun hf K'=>N.conv hf (K.trans K'),N.sub,N.gsub,fun i hi=>Nat.lt_of_lt_of_le (N.lt i hi) K.size,N.ginc,N.gnew⟩
theorem Now.up (N:Now F0 G0 hh F G h) (K:Kp F h h'):Up G h G h':=⟨fun _ x=>x,fun i hi=>K.same i (N.gsub i hi)⟩
theorem Now.step (hG:∀i,G i→F i) (M:Now F G h F' G' h'):Up G h G' h':=⟨M.ginc,fun i hi=>M.kp.same i (hG i hi)⟩
end
theorem aX.looks {c:Ctx P} {ds:List Deferred} {st:List SI} {l l':Fr} {h:Array Obj} (hs:∀d v,look l' d=some v→look l d=some v) (hr:aX c ds st l' h):aX c ds st l h:=
 by
 unfold aX at hr ⊢
 exact fun hwf a w ha hd hh hw=>hr hwf a w ⟨ha.size,fun d v hv=>ha.get d v (hs d v hv)⟩ hd hh hw
section
variable {s:SCx P} {ds:List dS} {nx:Nat} {st:List SI} {l:SFr} {H:SH}
theorem aA.nameAt {G:Nat→Prop} (hG:∀i,G i→s.F i) (k:Nat) {v:Value} {sz:Nat} {rows:List (List Value)} (hv:RoF G s.h0 v sz rows) (hr:aA s ds (nx+1) st ((k,.buf nx)::l) ((nx,.ro sz rows)::H))
  (hl:wV l k=some (.v v):=by rfl) (hfr:iX s.n0 nx l H ds=true:=by rfl):aA s ds nx st l H:=.mk fun E h hA S K=>by
 obtain ⟨f1,f2,f3,f4⟩:=eY hfr
 have hv':RoF s.F h v sz rows:=hv.up ⟨hG,fun i hi=>K.same i (hG i hi)⟩
 have S':=S.add (n:=nx) (x:=v) (b:=.ro sz rows) f3 hv'.blk (fun hw=>by cases hw)
 have A:=jW E nx v
 have:=hr.run _ h (hA.trans (A.mono f1)) S' K
 rw [mH A ds f4] at this
 refine aX.looks (l':=gF (push E nx v) ((k,.buf nx)::l)) (fun d u hd=>?_) this
 simp only [gF,look,SV.g] at hd
 cases hb:Nat.beq k d with
 |true=>
  simp only [hb,Option.some.injEq] at hd
  have:=Nat.eq_of_beq_eq_true hb
  subst this
  rw [jC hl,←hd,jS];rfl
 |false=>
  simp only [hb] at hd
  rw [nC A l f2] at hd
  exact hd
theorem aYJ (E:Env):∀(cs:List SV) (k:Nat) (x:SV),SV.gs E (cs.set k x)=(SV.gs E cs).set k (x.g E)
 | [],_,_=>rfl
 |c::cs,0,x=>rfl
 |c::cs,k+1,x=>by simp only [List.set_cons_succ,SV.gs,aYJ E cs k x]
def aFM:List SV→Nat→SV→List SV
 | [],_,_=>[]
 |c::cs,k,x=>match k with
  |0=>x::cs
  |k+1=>c::aFM cs k x
theorem aLV:∀(cs:List SV) (k:Nat) (x:SV),aFM cs k x=cs.set k x
 | [],_,_=>rfl
 |c::cs,0,x=>rfl
 |c::cs,k+1,x=>by simp only [aFM,List.set_cons_succ,aLV cs k x]
def aRG:List SV→Nat→SV→(List SV→Prop)→Prop
 | [],_,_,K=>K []
 |c::cs,k,x,K=>match k with
  |0=>K (x::cs)
  |k+1=>aRG cs k x fun l=>K (c::l)
theorem aNS:∀(cs:List SV) (k:Nat) (x:SV) (K:List SV→Prop),aRG cs k x K=K (aFM cs k x)
 | [],_,_,_=>rfl
 |c::cs,0,x,_=>rfl
 |c::cs,k+1,x,K=>by simp only [aRG,aFM,aNS cs k x]
theorem mem_setH_ne' {x:Blk}:∀ {H:SH} {b:Nat} {seen:List Nat} {p:Nat×Blk},dY (rn []) H seen=true→p∈rD H b x→p=(b,x)∨(p∈H∧p.1≠b)
 | [],_,_,_,_,h=>by cases h
 |(s,v)::l,d,seen,p,hn,h=>by
  simp only [dY] at hn
  cases hm:aHD (rn [] s) seen with
  |true=>simp [hm] at hn
  |false=>
   simp only [hm] at hn
   simp only [rD] at h
   cases hb:Nat.beq s d with
   |true=>
    simp only [hb] at h
    have:=Nat.eq_of_beq_eq_true hb
    subst this
    rcases List.mem_cons.1 h with rfl|h
    ·exact .inl rfl
    refine .inr ⟨List.mem_cons_of_mem _ h,fun e=>?_⟩
    have h1:=aCU hn p h
    rw [e] at h1
    exact h1 (List.mem_cons_self ..)
   |false=>
    simp only [hb] at h
    rcases List.mem_cons.1 h with rfl|h
    ·exact .inr ⟨List.mem_cons_self ..,fun e=>by simp only at e;subst e;simp at hb⟩
    exact (mem_setH_ne' hn h).imp id fun ⟨h1,h2⟩=>⟨List.mem_cons_of_mem _ h1,h2⟩
theorem setH_apart' {E:Env} {t:TypeId} {cs cs':List SV}:∀ {H:SH} {b:Nat},dE H b=some (.cells t cs)→H.Pairwise (qC E)→(rD H b (.cells t cs')).Pairwise (qC E)
 | [],_,h,_=>by cases h
 |(s,v)::l,d,h,hp=>by
  obtain ⟨h1,h2⟩:=List.pairwise_cons.1 hp
  simp only [dE] at h
  simp only [rD]
  cases hb:Nat.beq s d with
  |true=>
   simp only [hb,Option.some.injEq] at h
   subst h
   exact List.pairwise_cons.2 ⟨fun q hq _ hw g e1 e2=>h1 q hq rfl hw g e1 e2,h2⟩
  |false=>
   simp only [hb] at h
   refine List.pairwise_cons.2 ⟨fun q hq=>?_,setH_apart' h h2⟩
   rcases aNA hq with rfl|hq
   ·intro hw _ g e1 e2
    exact h1 _ (cG h) hw rfl g e1 e2
   exact h1 q hq
theorem aA.nameCell {G:Nat→Prop} (hG:∀i,G i→s.F i) (b k:Nat) {v:Value} {sz:Nat} {rows:List (List Value)} {t:TypeId} {cs:List SV} (hv:RoF G s.h0 v sz rows)
  (hr:aRG cs k (.buf nx) fun cs=>aHL H b (.cells t cs) fun H=>aA s ds (nx+1) st l ((nx,.ro sz rows)::H))
  (hb:dE H b=some (.cells t cs):=by rfl) (hk:nth cs k=some (.v v):=by rfl) (hn:dY (rn []) H []=true:=by rfl) (hfr:iX s.n0 nx l H ds=true:=by rfl):aA s ds nx st l H:=.mk fun E h hA S K=>by
 obtain ⟨f1,f2,f3,f4⟩:=eY hfr
 rw [aNS,rP] at hr
 have hv':RoF s.F h v sz rows:=hv.up ⟨hG,fun i hi=>K.same i (hG i hi)⟩
 have S1:=S.add (n:=nx) (x:=v) (b:=.ro sz rows) f3 hv'.blk (fun hw=>by cases hw)
 have A:=jW E nx v
 have hlt:=lV f3 (cG hb)
 have hne:b≠nx:=by have:=hlt.1;simp only at this;omega
 have hgs:SV.gs (push E nx v) (aFM cs k (.buf nx))=SV.gs E cs:=by
  rw [aLV,aYJ]
  show (SV.gs (push E nx v) cs).set k (push E nx v nx)=_
  rw [jS,SV.gs_ag A cs hlt.2]
  refine List.ext_getElem? fun j=>?_
  rw [List.getElem?_set]
  split
  ·rename_i e
   subst e
   rw [iF] at hk
   rw [vJ,hk]
   split
   ·rfl
   rename_i h1
   have:=(List.getElem?_eq_some_iff.1 hk).1
   rw [kL] at h1
   exact absurd this h1
  rfl
 have S':Sat (push E nx v) s.F ((nx,.ro sz rows)::rD H b (.cells t (aFM cs k (.buf nx)))) h:=by
  have Sr:Sat (push E nx v) s.F H h:=⟨fun p hp=>S1.ok p (List.mem_cons_of_mem _ hp),(List.pairwise_cons.1 S1.apart).2⟩
  refine ⟨fun p hp=>?_,List.pairwise_cons.2 ⟨fun q hq hw=>(by cases hw),setH_apart' hb Sr.apart⟩⟩
  rcases List.mem_cons.1 hp with rfl|hp
  ·exact S1.ok _ (List.mem_cons_self ..)
  rcases mem_setH_ne' hn hp with rfl|⟨hp,_⟩
  ·obtain ⟨g,h1,h2,h3⟩:=S.ok _ (cG hb)
   refine ⟨g,?_,?_,h3⟩
   ·show push E nx v b=_
    rw [A b hlt.1];exact h1
   rw [hgs];exact h2
  exact Sr.ok p hp
 have:=hr.run _ h (hA.trans (A.mono f1)) S' K
 rw [mH A ds f4,nC A l f2] at this
 exact this
end
end Go.Fw

namespace Go.Fw
open Go
variable {P:Program}
set_option maxHeartbeats 8000000
end Go.Fw

namespace Go.Fw
open Go
variable {P:Program}
set_option maxHeartbeats 8000000
def aBL (n:Nat) (v:Value):SFr→(SFr→Prop)→Prop
 | [],K=>K []
 |(s,x)::l,K=>aBL n v l fun l=>K ((s,x.inst n v)::l)
theorem aBC (n:Nat) (v:Value):∀(l:SFr) (K:SFr→Prop),aBL n v l K=K (aJD n v l)
 | [],_=>rfl
 |(s,x)::l,K=>by simp only [aBL,aJD,aBC n v l]
def aBW (n:Nat) (v:Value):SH→(SH→Prop)→Prop
 | [],K=>K []
 |(b,x)::H,K=>aBW n v H fun H=>K ((b,aCN n v x)::H)
theorem aBM (n:Nat) (v:Value):∀(H:SH) (K:SH→Prop),aBW n v H K=K (aCP n v H)
 | [],_=>rfl
 |(b,x)::H,K=>by simp only [aBW,aCP,aBM n v H]
def aQT (n:Nat) (v:Value):List dS→List dS
 | []=>[]
 |d::l=>⟨d.g,SV.insts n v d.captured,SV.insts n v d.args⟩::aQT n v l
theorem aBV (E:Env) (n:Nat):push E n (E n)=E:=by
 funext b
 rw [aAO]
 cases hb:Nat.beq b n with
 |true=>have:=Nat.eq_of_beq_eq_true hb;subst this;rfl
 |false=>rfl
theorem aMV {n:Nat} {v:Value} {E:Env} {F:Nat→Prop} {h:Array Obj} {x:Value} {b:Blk} (H:b.ok (push E n v) F h x):(aCN n v b).ok E F h x:=by
 cases b with
 |cells t cs=>
  obtain ⟨g,h1,h2,h3⟩:=H
  exact ⟨g,h1,by rw [SV.gs_inst];exact h2,h3⟩
 |own=>exact H
 |ro=>exact H
 |map=>exact H
theorem Blk.more {E:Env} {F F':Nat→Prop} {h:Array Obj} {x:Value} {b:Blk} (H:b.ok E F h x) (hF:∀i,F i→F' i) (hn:wr b=true → ∀g,ownB x=some g → ¬F' g):b.ok E F' h x:=by
 cases b with
 |cells t cs=>
  obtain ⟨g,h1,h2,h3⟩:=H
  exact ⟨g,h1,h2,hn rfl g (by rw [h1];rfl)⟩
 |own e sz rows=>
  obtain ⟨h1,h2,h3⟩:=H
  exact ⟨h1,h2,fun g hg=>hn rfl g hg⟩
 |ro sz rows=>
  obtain ⟨e1,e0,a,cap,e2,e3⟩:=H
  exact ⟨e1,e0,a,cap,e2,e3.mono hF⟩
 |map d es=>
  obtain ⟨g,h1,h2,h3⟩:=H
  exact ⟨g,h1,h2,hn rfl g (by rw [h1];rfl)⟩
section
variable {s:SCx P} {ds:List dS} {nx:Nat} {st:List SI} {l:SFr} {H:SH}
theorem aA.conc {G:Nat→Prop} (hG:∀i,G i→s.F i) (b:Nat) {e sz:Nat} {rows:List (List Value)} {n:Nat}
  (hr:∀(a:Option Addr) (c:Nat) (G':Nat→Prop) (h':Array Obj),Now s.F G s.h0 (fun i=>s.F i∨G' i) G' h'→RoF G' h' (.slice a n c) sz rows →
   aBL b (.slice a n c) l fun l=>aNU H b fun H=>aBW b (.slice a n c) H fun H=>aA ⟨s.c,fun i=>s.F i∨G' i,h',s.E0,s.n0⟩ ds nx st l H)
  (hb:dE H b=some (.own e sz rows):=by rfl) (hlen:rows.length=n:=by rfl) (hn:dY (rn []) H []=true:=by rfl) (hds:∀v,aQT b v ds=ds:=by exact fun _=>rfl):aA s ds nx st l H:=.mk fun E h hA S K=>by
 subst hlen
 have hmem:=cG hb
 have hrow:rowsAt H b=some (sz,rows):=by unfold rowsAt;rw [hb]
 have hbo:=S.ok _ hmem
 have hlt:∀k,ownB (E b)=some k→k<h.size ∧ ¬s.F k:=fun k hk=>Blk.lt hbo rfl hk
 obtain ⟨g1,a,c,g2,g3⟩:=S.rowsAt hrow
 have N:Now s.F G s.h0 (fun i=>s.F i∨(G i∨ownB (E b)=some i)) (fun i=>G i∨ownB (E b)=some i) h:=
  ⟨fun hf K'=>K.trans ⟨K'.size,fun i hi=>K'.same i (.inl hi),fun i hi=>K'.lt i (.inl hi)⟩,fun i hi=>.inl hi,fun i hi=>.inr hi,
   fun i hi=>hi.elim (fun hi=>Nat.lt_of_lt_of_le (K.lt i hi) K.size) (fun hi=>hi.elim (fun hi=>Nat.lt_of_lt_of_le (K.lt i (hG i hi)) K.size) (fun hi=>(hlt i hi).1)),
   fun i hi=>.inl hi,fun i hi=>hi.elim .inl (fun hi=>.inr (hlt i hi).2)⟩
 have R:RoF (fun i=>G i∨ownB (E b)=some i) h (.slice a rows.length c) sz rows:=by
  refine ⟨g1,⟨S.rowsLen hrow,?_⟩,a,c,rfl,g3.imp id fun ⟨g,o,e1,e2⟩=>⟨g,o,e1,.inr ?_,e2⟩⟩
  ·have:=S.rowsCap hrow
   rw [g2] at this
   exact this
  show ownB (E b)=some g
  rw [g2,e1];rfl
 have hr:=hr a c _ h N R
 rw [aBC,aAD,aBM] at hr
 have hv:E b=.slice a rows.length c:=g2
 have hpush:push E b (.slice a rows.length c)=E:=by rw [←hv];exact aBV E b
 have S':Sat E (fun i=>s.F i∨(G i∨ownB (E b)=some i)) (aCP b (.slice a rows.length c) (aDG H b)) h:=by
  refine ⟨fun p hp=>?_,?_⟩
  ·rw [mT] at hp
   obtain ⟨q,hq,rfl⟩:=List.mem_map.1 hp
   have hq1:=(pO H b).subset hq
   have hq2:=aAX hq
   refine aMV ?_
   rw [hpush]
   refine Blk.more (S.ok q hq1) (fun i hi=>.inl hi) fun hw g hg hF=>?_
   have h1:=(Blk.lt (S.ok q hq1) hw hg).2
   rcases hF with hF|hF|hF
   ·exact h1 hF
   ·exact h1 (hG _ hF)
   exact aAV S.apart hq1 hmem hq2 hw rfl g hg hF
  rw [mT,List.pairwise_map]
  refine List.Pairwise.imp (fun {p q} hA=>?_) (S.apart.sublist (pO H b))
  intro hw1 hw2 g e1 e2
  exact hA (by rw [←xR b (.slice a rows.length c)];exact hw1) (by rw [←xR b (.slice a rows.length c)];exact hw2) g e1 e2
 have:=hr.run E h hA S' ⟨Nat.le_refl _,fun _ _=>rfl,N.lt⟩
 rw [aDT,hpush] at this
 exact this
end
def iK {X:Type} (k:Nat) (E:Env) (F G:Nat→Prop) (h:Array Obj) (J:X→(Nat→Prop)→Array Obj→Prop) (out:X→gK) (e:Ending) (h':Array Obj):Prop:=
 ∃x E' F' G',Now F G h F' G' h'∧J x G' h'∧Ag k E E'∧Sat E' F' (out x).heap h'∧(out x).ok E' e
structure FnX (P:Program) (g:FuncId) (k:Nat) (args:List SV) (W:SH) (Pre:(Nat→Prop)→Array Obj→Prop) {X:Type} (J:X→(Nat→Prop)→Array Obj→Prop) (out:X→gK):Prop where
 call:∀(E:Env) (F G:Nat→Prop) (h:Array Obj),(∀i,G i→F i)→(∀i,F i→i<h.size)→Pre G h→Sat E F W h→Fn P g (SV.gs E args).toArray h (iK k E F G h J out)
theorem FnX.of {f:FuncId} {fn:Func} {code:Code} {k:Nat} {args:List SV} {W:SH} {Pre:(Nat→Prop)→Array Obj→Prop} {X:Type} {J:X→(Nat→Prop)→Array Obj→Prop} {out:X→gK} (hf:P.funcs[f]? = some fn) (hname:(fn.name == "runtime.NumGoroutine")=false) (hb:fn.body=some code) {n:Nat} (hnt:fn.ntmps=n)
  (hargs:Nat.ble args.length n=true)
  (H:∀E0 F G h,Now F G h F G h→Pre G h → ∀w0 cs,aCW 0 args fun l=>aA ⟨gT P f n w0 cs (iK k E0 F G h J out),F,h,E0,k⟩ [] k [.code code] l W):FnX P f k args W Pre J out:=
 ⟨fun E F G h hG hF hP S=>Fn.ofG E k args W F hf hname hb hnt hargs hF S fun w0 cs=>H E F G h (Now.start hG hF) hP w0 cs⟩
theorem iK.mk {X:Type} {k:Nat} {E0:Env} {F G F' G':Nat→Prop} {h0 hb:Array Obj} {J:X→(Nat→Prop)→Array Obj→Prop} {out:X→gK} (N:Now F G h0 F' G' hb) (x:X) (hJ:∀h',Up G' hb G' h'→J x G' h') (m:List (Nat×Nat)) {H:SH}
  (hH:nQ (rn m) H (out x).heap) (hm:aLW k m=true) (hn:dY (rn m) (out x).heap []=true) {e:Env→Ending} (he:∀E,(out x).ok (fun b=>E (rn m b)) (e E)):
  ∀E h,Ag k E0 E→Sat E F' H h→Kp F' hb h→iK k E0 F G h0 J out (e E) h:=fun E h hA S K=>
 ⟨x,fun b=>E (rn m b),F',G',N.later K,hJ h (N.up K),fun b hb=>by show E (rn m b)=_;rw [xM hm b hb];exact hA b hb,S.ren hH hn,he E⟩
theorem tW (f:Nat→Nat) (R:SH):∀H:SH,nW f R (H.filter fun p=>wr p.2)=nW f R H
 | []=>rfl
 |(b,x)::H=>by
  simp only [nW,List.filter_cons]
  cases hw:wr x with
  |true=>simp only [if_true,nW,hw,tW f R H]
  |false=>simp [tW f R H]
theorem Sat.takeBackX {k nx:Nat} {E E':Env} {F F' G G':Nat→Prop} {H W H':SH} {h h' h0:Array Obj} {ren:List Nat} (S:Sat E F H h) (K:Kp F h0 h) (hG:∀i,G i→F i) (hlen:ren.length=k) (hren:bdN nx ren=true) (hbd:bdH nx H=true)
  (A:Ag k (fun b=>E (bS ren b)) E') (N:Now (jX F E (dW (iH (bS ren) W) H)) G h F' G' h') (S':Sat E' F' H' h'):
  ∃E'':Env,Ag nx E E''∧(∀x:SV,(x.ren (nmC ren k nx)).g E''=x.g E')∧Sat E'' (fun i=>F i∨G' i) (nW (nmC ren k nx) (dW (iH (bS ren) W) H) H') h'∧Kp (fun i=>F i∨G' i) h' h'∧Now F G h0 (fun i=>F i∨G' i) G' h':=by
 have K':Kp (jX F E (dW (iH (bS ren) W) H)) h h':=N.kp
 have Sf:Sat E' (jX F E (dW (iH (bS ren) W) H)) (H'.filter fun p=>wr p.2) h':=
  ⟨fun p hp=>Blk.ok_wr (List.mem_filter.1 hp).2 N.sub (S'.ok p (List.mem_filter.1 hp).1),S'.apart.sublist List.filter_sublist⟩
 obtain ⟨E'',a1,a2,a3,a4⟩:=S.takeBack K hlen hren hbd A Sf K'
 rw [tW] at a3
 have lt:∀i,F i∨G' i→i<h'.size:=fun i hi=>hi.elim (fun hi=>N.lt i (N.sub i (.inl hi))) (fun hi=>N.lt i (N.gsub i hi))
 refine ⟨E'',a1,a2,⟨fun p hp=>Blk.more (a3.ok p hp) (fun i hi=>.inl hi) fun hw g hg hF=>?_,a3.apart⟩,⟨Nat.le_refl _,fun _ _=>rfl,lt⟩,?_⟩
 ·rcases hF with hF|hF
  ·exact (Blk.lt (a3.ok p hp) hw hg).2 hF
  rcases sN hp with hp|⟨q,hq,hwq,rfl⟩
  ·have hpH:=(eJ _ _).subset hp
   rw [a1 p.1 (lV hbd hpH).1] at hg
   rcases N.gnew g hF with h1|h1
   ·exact (Blk.lt (S.ok p hpH) hw hg).2 (hG g h1)
   exact h1 (.inr ⟨p,hp,hw,hg⟩)
  have e:E'' (nmC ren k nx q.1)=E' q.1:=a2 (.buf q.1)
  have hg:ownB (E'' (nmC ren k nx q.1))=some g:=hg
  rw [e] at hg
  exact (Blk.lt (S'.ok q hq) hwq hg).2 (N.gsub g hF)
 exact ⟨fun hf K2=>K.trans (Kp.trans ⟨K'.size,fun i hi=>K'.same i (.inl hi),fun i hi=>K'.lt i (.inl hi)⟩ ⟨K2.size,fun i hi=>K2.same i (.inl hi),fun i hi=>lt i (.inl hi)⟩),fun i hi=>.inl hi,fun i hi=>.inr hi,lt,N.ginc,
  fun i hi=>(N.gnew i hi).imp id (fun hn hf=>hn (.inl hf))⟩
section
variable {s:SCx P} {ds:List dS} {nx:Nat} {kk:List SI} {l:SFr} {H:SH}
variable {all:Array Oper} {rest:List Oper} {o:Oper} {cl:Call} {x:Operand} {g:FuncId} {first captured vs:List SV}
theorem aA.callX {G:Nat→Prop} (hG:∀i,G i→s.F i) {k:Nat} {args:List SV} {W:SH} {Pre:(Nat→Prop)→Array Obj→Prop} {X:Type} {J:X→(Nat→Prop)→Array Obj→Prop} {out:X→gK} (C:FnX P g k args W Pre J out) (hpre:∀h,Up G s.h0 G h→Pre G h) (ren:List Nat)
  (hH:nQ (bS ren) H W) (ha:SV.rens (bS ren) args=first++(vs++captured))
  (hr:∀y G' h',Now s.F G s.h0 (fun i=>s.F i∨G' i) G' h'→J y G' h'→yV ⟨s.c,fun i=>s.F i∨G' i,h',s.E0,s.n0⟩ ds k nx ren (dW (iH (bS ren) W) H) o.dst l (.ops all rest::kk) (out y))
  (hlen:ren.length=k:=by rfl) (hren:bdN nx ren=true:=by rfl) (hfr:iX s.n0 nx l H ds=true:=by rfl) (hn:dY (bS ren) W []=true:=by rfl)
  (hop:o.op=.call cl:=by rfl) (hcal:cl.callee=.value x:=by rfl) (hx:iM l x=some (g,first,captured):=by rfl) (hargs:kH l cl.args.toList=some vs:=by rfl)
  (hgd:cJ l all o=some true:=by rfl) (hdn:dD s.c.n o.dst=true:=by rfl):aA s ds nx (.ops all (o::rest)::kk) l H:=by
 obtain ⟨f1,f2,f3,f4⟩:=eY hfr
 refine aA.callE (R:=fun E h=>iK k (fun b=>E (bS ren b)) (jX s.F E (dW (iH (bS ren) W) H)) G h J out) ?_ ?_ ?_ ?_ hop hcal hx hargs hgd hdn
 ·intro E h hA S K
  have:=C.call (fun b=>E (bS ren b)) (jX s.F E (dW (iH (bS ren) W) H)) G h (fun i hi=>.inl (hG i hi)) (fun i hi=>?_) (hpre h ⟨fun _ x=>x,fun i hi=>K.same i (hG i hi)⟩) (S.hand (bS ren) hH hn)
  ·rw [←ha,SV.gs_ren];exact this
  rcases hi with hi|⟨q,hq,hw,hg⟩
  ·have:=K.lt i hi;have:=K.size;omega
  exact (Blk.lt (S.ok q ((eJ _ _).subset hq)) hw hg).1
 ·rintro E h h' ⟨y,E',_,_,_,_,_,_,he⟩
  cases ho:out y<;>rw [ho] at he<;>cases he
 ·rintro E h hA S K ch h' ⟨y,E',F',G',N,hJ,hA',S',he⟩
  obtain ⟨E'',a1,a2,a3,a4,a5⟩:=S.takeBackX K hG hlen hren f3 hA' N S'
  have hr:=hr y G' h' a5 hJ
  cases ho:out y with
  |ret v n H'=>rw [ho] at he;cases he
  |pan ch' n H'=>
   rw [ho] at he hr a3
   cases he
   have:=hr.run E'' h' (hA.trans (a1.mono f1)) a3 a4
   rw [mH a1 ds f4,nC a1 l f2] at this
   exact this
 rintro E h hA S K v h' ⟨y,E',F',G',N,hJ,hA',S',he⟩
 obtain ⟨E'',a1,a2,a3,a4,a5⟩:=S.takeBackX K hG hlen hren f3 hA' N S'
 have hr:=hr y G' h' a5 hJ
 cases ho:out y with
 |pan ch n H'=>rw [ho] at he;cases he
 |ret v' n H'=>
  rw [ho] at he hr a3
  cases he
  simp only [yV,bR] at hr
  have:=hr.run E'' h' (hA.trans (a1.mono f1)) a3 a4
  rw [mH a1 ds f4,iB,nC a1 l f2,a2] at this
  exact this
end
end Go.Fw

namespace Go.Fw
open Go
variable {P:Program}
set_option maxHeartbeats 8000000
def iN (es:List (Value×Value)) (key:Value):Option Value→Prop
 |some v=>(∃p∈es,p.1=key) ∧ ∀p∈es,p.1=key→p.2=v
 |none=>∀p∈es,p.1≠key
theorem aOK {w:World} {t kt et g clock:Nat} {d:TypeDesc} {en:Array MapEntry} {es:List (Value×Value)} {key z:Value} {r:Option Value} (ht:P.underlying t=some (.map kt et)) (hk:P.underlying kt=some d)
  (hb:w.heap[g]? = some (.map en clock)) (hes:en.toList.map (fun e=>(e.key,e.val))=es) (hks:∀p∈es,MapKept.IsKey d p.1) (hkey:MapKept.IsKey d key) (hg:iN es key r) (hz:(zeroValue et).run P w=.ok z w) (ok:Bool):
  (Instr.lookup t (.map (some g)) key ok).run P w=.ok (if ok then .tuple #[r.getD z,.bool r.isSome] else r.getD z) w:=by
 have hks':∀x∈en.toList,MapKept.IsKey d x.key:=fun x hx=>hks (x.key,x.val) (by rw [←hes];exact List.mem_map.2 ⟨x,hx,rfl⟩)
 have hck:=MapKept.run_checkKey (P:=P) (w:=w) hk hkey en.isEmpty 9999
 rcases MapKept.findNow_spec hkey en.toList 0 hks' with ⟨h1,h2⟩|⟨j,e,h1,h2,h3⟩
 ·have hr:r=none:=by
   cases r with
   |none=>rfl
   |some v=>
    obtain ⟨⟨p,hp,hp1⟩,_⟩:=hg
    rw [←hes] at hp
    obtain ⟨x,hx,rfl⟩:=List.mem_map.1 hp
    exact absurd hp1 (h2 x hx)
  subst hr
  have hf:=MapKept.run_findKey (P:=P) (w:=w) hk h1
  simp only [Instr.lookup,Sem.run_bind,run_underlying ht,Result.andThen_ok,MapKept.run_getObj_map hb,Sem.run_pure,hck,hf,hz,Option.getD_none,Option.isSome_none]
 have hm:(e.key,e.val)∈es:=by rw [←hes];exact List.mem_map.2 ⟨e,List.mem_of_getElem? h2,rfl⟩
 have hr:r=some e.val:=by
  cases r with
  |none=>exact absurd h3 (hg _ hm)
  |some v=>exact congrArg some (hg.2 _ hm h3).symm
 subst hr
 have hf:=MapKept.run_findKey (P:=P) (w:=w) hk h1
 simp only [Instr.lookup,Sem.run_bind,run_underlying ht,Result.andThen_ok,MapKept.run_getObj_map hb,Sem.run_pure,hck,hf,Option.getD_some,Option.isSome_some]
theorem aLS {w:World} {t kt et g clock:Nat} {d:TypeDesc} {en:Array MapEntry} {es:List (Value×Value)} {key val:Value} (ht:P.underlying t=some (.map kt et)) (hk:P.underlying kt=some d)
  (hb:w.heap[g]? = some (.map en clock)) (hes:en.toList.map (fun e=>(e.key,e.val))=es) (hks:∀p∈es,MapKept.IsKey d p.1) (hkey:MapKept.IsKey d key) (hg:iN es key none):
  (Instr.mapUpdate t (.map (some g)) key val).run P w=.ok () (w.putObj g (.map (en.push {key,val,born:=clock}) (clock+1))):=by
 have hks':∀x∈en.toList,MapKept.IsKey d x.key:=fun x hx=>hks (x.key,x.val) (by rw [←hes];exact List.mem_map.2 ⟨x,hx,rfl⟩)
 have hck:=MapKept.run_checkKey (P:=P) (w:=w) hk hkey false 9999
 have e2:∀o',(setObj g o').run P w=.ok () (w.putObj g o'):=fun o'=>by simp [setObj,Sem.run,hb,World.putObj]
 rcases MapKept.findNow_spec hkey en.toList 0 hks' with ⟨h1,h2⟩|⟨j,e,h1,h2,h3⟩
 ·have hf:=MapKept.run_findKey (P:=P) (w:=w) hk h1
  simp only [Instr.mapUpdate,Sem.run_bind,run_underlying ht,Result.andThen_ok,MapKept.run_getObj_map hb,hck,hf,e2]
 have hm:(e.key,e.val)∈es:=by rw [←hes];exact List.mem_map.2 ⟨e,List.mem_of_getElem? h2,rfl⟩
 exact absurd h3 (hg _ hm)
theorem Sat.mapAt {F:Nat→Prop} {H:SH} {E:Env} {h:Array Obj} (S:Sat E F H h) {b:Nat} {d:TypeDesc} {es:List (Value×Value)} (hl:dE H b=some (.map d es)):∃g,E b=.map (some g)∧aFW h g d es ∧ ¬F g:=S.ok _ (cG hl)
section
variable {n:Nat} {F:Nat→Prop} {h0:Array Obj} {nx:Nat} {l:SFr} {H:SH} {o:Oper} {t kt et:Nat} {d:TypeDesc} {es:List (Value×Value)} {key z:Value} {r:Option Value} {x y:Operand} {ok:Bool}
theorem aLY {b:Nat} (ht:P.underlying t=some (.map kt et)) (hk:P.underlying kt=some d) (hz:∀w,(zeroValue et).run P w=.ok z w) (hb:dE H b=some (.map d es)) (hg:iN es key r) (hkey:MapKept.IsKey d key)
  (hop:o.op=.lookup t x y ok) (hx:evS l x=some (.buf b)) (hy:evS l y=some (.v key)):cV P n F h0 l H o (.v (if ok then .tuple #[r.getD z,.bool r.isSome] else r.getD z)) H:=
 cV.of_eff (by simp [kX,cN,dQ,hop]) fun E h S K=>by
  obtain ⟨g,g1,⟨⟨en,clock,g2,g3⟩,g4⟩,_⟩:=S.mapAt hb
  refine Eff.of_value fun a w ha hh=>⟨_,w,?_,fL.refl w,rfl,hh▸S,hh▸K⟩
  have e1:=ha.ev (bT (E:=E) hx)
  have e2:=ha.ev (bT (E:=E) hy)
  simp only [SV.g] at e1 e2
  rw [g1] at e1
  simp [execOp,hop,e1,e2,SV.g,aOK ht hk (by rw [hh];exact g2) g3 g4 hkey hg (hz w) ok]
theorem aMU {b:Nat} {val:Value} {u:SV} (ht:P.underlying t=some (.map kt et)) (hk:P.underlying kt=some d) {m:Operand} (hb:dE H b=some (.map d es)) (hg:iN es key none) (hkey:MapKept.IsKey d key)
  (hop:o.op=.insert t m x y∨o.op=.mapUpdate t m x y) (hm:evS l m=some (.buf b)) (hx:evS l x=some (.v key)) (hy:evS l y=some u) (hu:∀E,u.g E=val):cV P n F h0 l H o (.v undef) (rD H b (.map d (es++[(key,val)]))):=
 cV.of_eff (by rcases hop with hop|hop<;>simp [kX,cN,dQ,hop]) fun E h S K=>by
  obtain ⟨g,g1,⟨⟨en,clock,g2,g3⟩,g4⟩,g5⟩:=S.mapAt hb
  refine Eff.of_skip fun a w ha hh=>?_
  have e1:=ha.ev (bT (E:=E) hm)
  have e2:=ha.ev (bT (E:=E) hx)
  have e3:=ha.ev (bT (E:=E) hy)
  simp only [SV.g,hu] at e1 e2 e3
  rw [g1] at e1
  have hb':w.heap[g]? = some (.map en clock):=by rw [hh];exact g2
  have hrun:=aLS (val:=val) ht hk hb' g3 g4 hkey hg
  refine ⟨w.putObj g (.map (en.push {key,val,born:=clock}) (clock+1)),by rcases hop with hop|hop<;>simp [execOp,hop,e1,e2,e3,hrun],⟨rfl,rfl,rfl⟩,rfl,?_⟩
  have hlt:g<h.size:=(Array.getElem?_eq_some_iff.1 g2).1
  have hh':(w.putObj g (.map (en.push {key,val,born:=clock}) (clock+1))).heap=h.setIfInBounds g (.map (en.push {key,val,born:=clock}) (clock+1)):=by simp [World.putObj,hh]
  rw [hh']
  have hsame:∀k,k≠g→(h.setIfInBounds g (.map (en.push {key,val,born:=clock}) (clock+1)))[k]? = h[k]? :=fun k hk=>by simp [Ne.symm hk]
  have hF:∀k,F k→(h.setIfInBounds g (.map (en.push {key,val,born:=clock}) (clock+1)))[k]? = h[k]? :=fun k hk=>hsame k (fun e=>g5 (e▸hk))
  have hy:(Blk.map d (es++[(key,val)])).ok E F (h.setIfInBounds g (.map (en.push {key,val,born:=clock}) (clock+1))) (E b):=by
   refine ⟨g,g1,⟨⟨_,_,by simp [hlt];exact ⟨rfl,rfl⟩,by simp [g3]⟩,fun p hp=>?_⟩,g5⟩
   rcases List.mem_append.1 hp with hp|hp
   ·exact g4 p hp
   rw [List.mem_singleton.1 hp];exact hkey
  exact ⟨Sat.set (x:=.map d es) rfl rfl hy hF (fun k hk=>.inl (hsame k (fun e=>hk (by rw [g1,e];rfl)))) S hb,⟨by simpa using K.size,fun k hk=>(hF k hk).trans (K.same k hk),K.lt⟩⟩
theorem aLD (d:TypeDesc) (hop:o.op=.makeMap t none) (hb:bdH nx H=true):aEY P n F h0 nx l H o (.buf nx) ((nx,.map d [])::H):=fun E h S K=>by
 refine Eff.of_value fun a w ha hh=>?_
 refine ⟨.map (some h.size),w.alloc (.map #[] 0),by simp [execOp,hop,Instr.makeMap,hh],⟨rfl,rfl,rfl⟩,push E nx (.map (some h.size)),jW E nx _,by simp [SV.g,jS],?_⟩
 have hh':(w.alloc (.map #[] 0)).heap=h.push (.map #[] 0):=by simp [World.alloc,hh]
 rw [hh']
 obtain ⟨S',K'⟩:=S.pushB K (.map #[] 0)
 refine ⟨S'.add hb ⟨h.size,rfl,⟨⟨#[],0,by simp,rfl⟩,fun p hp=>by cases hp⟩,K.ge (Nat.le_refl _)⟩ (fun _ p hp hw g hg e=>?_),K'⟩
 have:=(Blk.lt (S.ok p hp) hw hg).1
 simp only [ownB,Option.some.injEq] at e
 omega
end
section
variable {s:SCx P} {ds:List dS} {nx:Nat} {st:List SI} {l:SFr} {H:SH} {all:Array Oper} {rest:List Oper} {o:Oper} {t kt et:Nat} {d:TypeDesc} {es:List (Value×Value)} {key z:Value} {x y:Operand} {ok:Bool}
theorem aA.makeMap (d:TypeDesc) (hr:jR l o.dst (.buf nx) fun l=>aA s ds (nx+1) (.ops all rest::st) l ((nx,.map d [])::H)) (hop:o.op=.makeMap t none:=by rfl) (hfr:iX s.n0 nx l H ds=true:=by rfl)
  (hgd:cJ l all o=some true:=by rfl) (hdn:dD s.c.n o.dst=true:=by rfl) (hnd:jL o=true:=by rfl):aA s ds nx (.ops all (o::rest)::st) l H:=by
 rw [bR] at hr
 obtain ⟨f1,f2,f3,f4⟩:=eY hfr
 exact aA.eff (aLD d hop f3) (fun E=>cD hgd) hdn hnd f1 f2 f4 hr
theorem aA.insert {b:Nat} {val:Value} {u:SV} {m:Operand} (ht:P.underlying t=some (.map kt et)) (hk:P.underlying kt=some d) (hg:iN es key none) {es':List (Value×Value)} (he:es++[(key,val)]=es')
  (hr:aHL H b (.map d es') fun H=>jR l o.dst (.v undef) fun l=>aA s ds nx (.ops all rest::st) l H)
  (hop:o.op=.insert t m x y∨o.op=.mapUpdate t m x y:=by first|exact .inl rfl|exact .inr rfl)
  (hm:evS l m=some (.buf b):=by rfl) (hx:evS l x=some (.v key):=by rfl) (hy:evS l y=some u:=by rfl) (hb:dE H b=some (.map d es):=by rfl) (hkey:MapKept.IsKey d key:=by first|exact rfl|exact trivial) (hu:∀E,u.g E=val:=by exact fun _=>rfl)
  (hgd:cJ l all o=some true:=by rfl) (hdn:dD s.c.n o.dst=true:=by rfl) (hnd:jL o=true:=by rfl):aA s ds nx (.ops all (o::rest)::st) l H:=by
 subst he
 rw [rP,bR] at hr
 exact aA.effK (aMU ht hk hb hg hkey hop hm hx hy hu) (fun E=>cD hgd) hdn hnd hr
end
section
variable {s:SCx P} {ds:List dS} {nx:Nat} {st:List SI} {l:SFr} {H:SH} {all:List Oper} {o:Oper} {t kt et:Nat} {d:TypeDesc} {es:List (Value×Value)} {key z:Value} {x y:Operand} {ok:Bool}
variable {k:Nat} {keep:List Nat} {tr:Tr} {taken:List Nat} {ps:List (Nat×cW)}
theorem aV.lookup {b:Nat} (r:Option Value) (ht:P.underlying t=some (.map kt et)) (hk:P.underlying kt=some d) (hz:∀w,(zeroValue et).run P w=.ok z w) (hg:iN es key r) (hpi:kN H keep ps)
  (hr:jR l o.dst (.v (if ok then .tuple #[r.getD z,.bool r.isSome] else r.getD z)) fun l=>bK s ds all st tr taken ps nx l H)
  (ho:all[k]? = some o:=by rfl) (hop:o.op=.lookup t x y ok:=by rfl) (hx:evS l x=some (.buf b):=by rfl) (hy:evS l y=some (.v key):=by rfl) (hb:dE H b=some (.map d es):=by rfl) (hkey:MapKept.IsKey d key:=by first|exact rfl|exact trivial)
  (hgd:cJ l all.toArray o=some true:=by rfl) (hdn:dD s.c.n o.dst=true:=by rfl) (hf:cN o=false:=by rfl):aV s ds all st k keep tr taken ps nx l H:=by
 rw [bR] at hr
 exact aV.ofK ho hf hdn hgd (aLY ht hk hz hb hg hkey hop hx hy) hpi hr
end
end Go.Fw

namespace Go.Fw
open Go
variable {P:Program}
set_option maxHeartbeats 8000000
end Go.Fw

namespace Go.Fw
open Go
variable {P:Program}
set_option maxHeartbeats 8000000
theorem cW.at_conv {F F':Nat→Prop} {h0 h0':Array Obj} (conv:∀hf,Kp F' h0' hf→Kp F h0 hf) {E:Env} {h:Array Obj} {p:cW} (H:p.at F' h0' E h):p.at F h0 E h:=by
 cases p with
 |cell=>exact H
 |cells=>exact H
 |rws=>exact H
 |none=>exact conv _ H
theorem aMM.conv {F F':Nat→Prop} {h0 h0':Array Obj} (conv:∀hf,Kp F' h0' hf→Kp F h0 hf) {E:Env} {taken:List Nat} {ps:List (Nat×cW)} {G:uP} (R:aMM F h0 E taken ps G):aMM F' h0' E taken ps G:=
 ⟨fun q hq=>(R.full q hq).imp id fun ⟨h1,p,h2,h3⟩=>⟨h1,p,h2,fun w hw=>h3 w (cW.at_conv conv hw)⟩,R.tk⟩
section
variable {s:SCx P} {ds:List dS} {all:List Oper} {st:List SI} {t:Tr} {taken:List Nat} {ps:List (Nat×cW)} {nx kk:Nat} {keep:List Nat} {l:SFr} {H:SH} {o:Oper} {cl:Call} {x:Operand} {g:FuncId} {first captured vs:List SV}
theorem aV.ofB {k:Nat} (ho:all[k]? = some o) (hf:cN o=false) (hdst:dD s.c.n o.dst=true)
  {V:Env→Array Obj→Value→Array Obj→Prop} {PN:Env→Array Obj→List PanicEntry→Array Obj→Prop} (hgd:cJ l all.toArray o=some true)
  (hE:∀E h,Ag s.n0 s.E0 E→Sat E s.F H h→Kp s.F s.h0 h→yB P s.c.n (gF E l) h o (V E h) (PN E h))
  (hpan:∀E h,Ag s.n0 s.E0 E→Sat E s.F H h→Kp s.F s.h0 h → ∀ch h',PN E h ch h'→Unw s.c (gD E ds) (.panicking ch) (aGE (aAY all) (gF E l)) h')
  (hr:∀E h,Ag s.n0 s.E0 E→Sat E s.F H h→Kp s.F s.h0 h → ∀v h',V E h v h' → ∃(F':Nat→Prop) (hb:Array Obj) (E':Env) (nx':Nat) (l':SFr) (H':SH),(∀hf,Kp F' hb hf→Kp s.F s.h0 hf)∧Ag nx E E'∧s.n0≤nx∧yU nx ps=true∧gD E' ds=gD E ds∧gF E' l'=upd (gF E l) o.dst v∧Sat E' F' H' h'∧Kp F' hb h'∧kN H' keep ps∧bK ⟨s.c,F',hb,s.E0,s.n0⟩ ds all st t taken ps nx' l' H'):
  aV s ds all st k keep t taken ps nx l H:=by
 refine ⟨fun E h hA S K Q D hD hN hP G hG hk f listed hc a w ha hd hh hw=>?_⟩
 have hfa:cT all.toArray k=false:=by
  have ho':all.toArray[k]? = some o:=by simpa using ho
  unfold cT;rw [ho'];exact hf
 refine ⟨hfa,?_⟩
 have hwn:=bQ ha (cD hgd)
 have ho':all.toArray[k]? = some o:=by simpa using ho
 unfold wpOp
 simp only [ho',hwn,if_true]
 refine .inl (hE E h hA S K a w ha hh _ _ (fun v w' hlk hV=>?_) fun ch w' hlk hPN=>hP (gF E l) ch w'.heap a w' (hD▸hpan E h hA S K ch _ hPN) ha hd rfl (hw.trans hlk))
 obtain ⟨F',hb,E',nx',l',H',conv,hag,hn,hbp,hgD,hgF,S',K',hpi,hrr⟩:=hr E h hA S K v _ hV
 have hG':=(hG.ag hag hbp).conv conv
 refine ⟨fun q hq=>?_,hrr.run E' w'.heap (hA.trans (hag.mono hn)) S' K' Q D (hgD.trans hD) hN hP G hG' f _ hc (a.put o.dst v) w' (by rw [hgF];exact fE ha (gJ hdst) v) (by cases o.dst<;>simpa [Act.put] using hd) rfl (hw.trans hlk)⟩
 rcases hG'.full q hq with h1|⟨h1,p,h2,h3⟩
 ·exact .inr (h1 w')
 have:=List.all_eq_true.1 hk q.1 h1
 simp only [Bool.or_eq_true,iA] at this
 rcases this with h4|h4
 ·exact .inr (h3 w' (cW.at_of S' K' (lZ hpi q.1 p h2 h4)))
 exact .inl (by simpa using h4)
theorem aV.callX {G:Nat→Prop} (hG:∀i,G i→s.F i) {k:Nat} {args:List SV} {W:SH} {Pre:(Nat→Prop)→Array Obj→Prop} {X:Type} {J:X→(Nat→Prop)→Array Obj→Prop} {out:X→gK} (C:FnX P g k args W Pre J out) (hpre:∀h,Up G s.h0 G h→Pre G h) (ren:List Nat)
  (hH:nQ (bS ren) H W) (ha:SV.rens (bS ren) args=first++(vs++captured))
  (hr:∀y G' h',Now s.F G s.h0 (fun i=>s.F i∨G' i) G' h'→J y G' h'→tM ⟨s.c,fun i=>s.F i∨G' i,h',s.E0,s.n0⟩ ds all st t taken ps keep k nx ren (dW (iH (bS ren) W) H) o.dst l (out y))
  (hlen:ren.length=k:=by rfl) (hren:bdN nx ren=true:=by rfl) (hfr:iX s.n0 nx l H ds=true:=by rfl) (hn:dY (bS ren) W []=true:=by rfl) (hps:yU nx ps=true:=by rfl)
  (ho:all[kk]? = some o:=by rfl) (hop:o.op=.call cl:=by rfl) (hcal:cl.callee=.value x:=by rfl) (hx:iM l x=some (g,first,captured):=by rfl) (hargs:kH l cl.args.toList=some vs:=by rfl)
  (hgd:cJ l all.toArray o=some true:=by rfl) (hdn:dD s.c.n o.dst=true:=by rfl):aV s ds all st kk keep t taken ps nx l H:=by
 obtain ⟨f1,f2,f3,f4⟩:=eY hfr
 refine aV.ofB ho (rE hop hcal) hdn hgd (V:=fun E h v h'=>iK k (fun b=>E (bS ren b)) (jX s.F E (dW (iH (bS ren) W) H)) G h J out (.returned v) h')
  (PN:=fun E h ch h'=>iK k (fun b=>E (bS ren b)) (jX s.F E (dW (iH (bS ren) W) H)) G h J out (.panicked ch) h') ?_ ?_ ?_
 ·intro E h hA S K
  have:=C.call (fun b=>E (bS ren b)) (jX s.F E (dW (iH (bS ren) W) H)) G h (fun i hi=>.inl (hG i hi)) (fun i hi=>by
   rcases hi with hi|⟨q,hq,hw,hg⟩
   ·have:=K.lt i hi;have:=K.size;omega
   exact (Blk.lt (S.ok q ((eJ _ _).subset hq)) hw hg).1) (hpre h ⟨fun _ x=>x,fun i hi=>K.same i (hG i hi)⟩) (S.hand (bS ren) hH hn)
  rw [←SV.gs_ren,ha] at this
  refine yB.callE (first:=(SV.gs E first).toArray) (captured:=(SV.gs E captured).toArray) (vs:=SV.gs E vs) (by rw [xW];exact this) ?_ hop hcal (mC hx) (lE hargs)
  rintro h' ⟨y,E',_,_,_,_,_,_,he⟩
  cases ho:out y<;>rw [ho] at he<;>cases he
 ·rintro E h hA S K ch h' ⟨y,E',F',G',N,hJ,hA',S',he⟩
  obtain ⟨E'',a1,a2,a3,a4,a5⟩:=S.takeBackX K hG hlen hren f3 hA' N S'
  have hr:=hr y G' h' a5 hJ
  cases ho:out y with
  |ret v n H'=>rw [ho] at he;cases he
  |pan ch' n H'=>
   rw [ho] at he hr a3
   cases he
   have:=hr.run E'' h' (hA.trans (a1.mono f1)) a3 a4
   rw [mH a1 ds f4,uA,nC a1 l f2] at this
   exact this
 rintro E h hA S K v h' ⟨y,E',F',G',N,hJ,hA',S',he⟩
 obtain ⟨E'',a1,a2,a3,a4,a5⟩:=S.takeBackX K hG hlen hren f3 hA' N S'
 have hr:=hr y G' h' a5 hJ
 cases ho:out y with
 |pan ch n H'=>rw [ho] at he;cases he
 |ret v' n H'=>
  rw [ho] at he hr a3
  cases he
  simp only [tM,bR] at hr
  exact ⟨_,_,E'',_,_,_,a5.conv,a1,f1,hps,mH a1 ds f4,by rw [iB,nC a1 l f2,a2],a3,a4,hr.1,hr.2⟩
end
end Go.Fw

namespace Go.Fw
open Go
variable {P:Program}
set_option maxHeartbeats 8000000
end Go.Fw

namespace Go.Fw
open Go
variable {P:Program}
set_option maxHeartbeats 8000000
section
variable {s:SCx P} {ds:List dS} {nx:Nat} {l:SFr} {H:SH} {k:List SI}
theorem aA.joinO {all:Array Oper} {os:List Oper} {Y:Type} (L:Y→SFr) (HH:Y→SH) (nxe:Nat) (J:Y→Prop) (after:∀y,J y→aA s ds nxe k (L y) (HH y))
  (body:(∀y,J y→aA s ds nxe (.mark::k) (L y) (HH y))→aA s ds nx (.ops all os::.mark::k) l H):aA s ds nx (.ops all os::k) l H:=.mk fun E h hA S K=>by
 have:=(body (fun y hy=>aA.mark (after y hy))).run E h hA S K
 unfold aX at this ⊢
 exact fun hwf a w ha hd hh hw=>this (cY (hwf _ (List.mem_cons_self ..)) (cY trivial (cH hwf))) a w ha hd hh hw
end
end Go.Fw

namespace Go.Fw
open Go
variable {P:Program}
set_option maxHeartbeats 8000000
section
variable {cc:Ctx P} {F:Nat→Prop} {h0:Array Obj} {E0:Env} {n0:Nat} {ds:List dS} {nx:Nat} {st:List SI} {l:SFr} {H:SH}
theorem aA.concY {G:Nat→Prop} (hG:∀i,G i→F i) (b:Nat) {e sz:Nat} {rows:List (List Value)} {n:Nat}
  (hr:∀(F':Nat→Prop) (a:Option Addr) (c:Nat) (G':Nat→Prop) (h':Array Obj),Now F G h0 F' G' h'→RoF G' h' (.slice a n c) sz rows →
   aBL b (.slice a n c) l fun l=>aNU H b fun H=>aBW b (.slice a n c) H fun H=>aA ⟨cc,F',h',E0,n0⟩ ds nx st l H)
  (hb:dE H b=some (.own e sz rows):=by rfl) (hlen:rows.length=n:=by rfl) (hn:dY (rn []) H []=true:=by rfl) (hds:∀v,aQT b v ds=ds:=by exact fun _=>rfl):aA ⟨cc,F,h0,E0,n0⟩ ds nx st l H:=
 aA.conc hG b (fun a c G' h' N R=>hr _ a c G' h' N R) hb hlen hn hds
variable {all:Array Oper} {rest:List Oper} {o:Oper} {cl:Call} {x:Operand} {g:FuncId} {first captured vs:List SV}
theorem aA.callY {G:Nat→Prop} (hG:∀i,G i→F i) {k:Nat} {args:List SV} {W:SH} {Pre:(Nat→Prop)→Array Obj→Prop} {X:Type} {J:X→(Nat→Prop)→Array Obj→Prop} {out:X→gK} (C:FnX P g k args W Pre J out) (hpre:∀h,Up G h0 G h→Pre G h) (ren:List Nat)
  (hH:nQ (bS ren) H W) (ha:SV.rens (bS ren) args=first++(vs++captured))
  (hr:∀F' y G' h',Now F G h0 F' G' h'→J y G' h'→yV ⟨cc,F',h',E0,n0⟩ ds k nx ren (dW (iH (bS ren) W) H) o.dst l (.ops all rest::st) (out y))
  (hlen:ren.length=k:=by rfl) (hren:bdN nx ren=true:=by rfl) (hfr:iX n0 nx l H ds=true:=by rfl) (hn:dY (bS ren) W []=true:=by rfl)
  (hop:o.op=.call cl:=by rfl) (hcal:cl.callee=.value x:=by rfl) (hx:iM l x=some (g,first,captured):=by rfl) (hargs:kH l cl.args.toList=some vs:=by rfl)
  (hgd:cJ l all o=some true:=by rfl) (hdn:dD cc.n o.dst=true:=by rfl):aA ⟨cc,F,h0,E0,n0⟩ ds nx (.ops all (o::rest)::st) l H:=
 aA.callX hG C hpre ren hH ha (fun y G' h' N J=>hr _ y G' h' N J) hlen hren hfr hn hop hcal hx hargs hgd hdn
end
section
variable {cc:Ctx P} {F:Nat→Prop} {h0:Array Obj} {E0:Env} {n0:Nat} {ds:List dS} {all:List Oper} {st:List SI} {t:Tr} {taken:List Nat} {ps:List (Nat×cW)} {nx kk:Nat} {keep:List Nat} {l:SFr} {H:SH} {o:Oper} {cl:Call} {x:Operand} {g:FuncId} {first captured vs:List SV}
theorem aV.callY {G:Nat→Prop} (hG:∀i,G i→F i) {k:Nat} {args:List SV} {W:SH} {Pre:(Nat→Prop)→Array Obj→Prop} {X:Type} {J:X→(Nat→Prop)→Array Obj→Prop} {out:X→gK} (C:FnX P g k args W Pre J out) (hpre:∀h,Up G h0 G h→Pre G h) (ren:List Nat)
  (hH:nQ (bS ren) H W) (ha:SV.rens (bS ren) args=first++(vs++captured))
  (hr:∀F' y G' h',Now F G h0 F' G' h'→J y G' h'→tM ⟨cc,F',h',E0,n0⟩ ds all st t taken ps keep k nx ren (dW (iH (bS ren) W) H) o.dst l (out y))
  (hlen:ren.length=k:=by rfl) (hren:bdN nx ren=true:=by rfl) (hfr:iX n0 nx l H ds=true:=by rfl) (hn:dY (bS ren) W []=true:=by rfl) (hps:yU nx ps=true:=by rfl)
  (ho:all[kk]? = some o:=by rfl) (hop:o.op=.call cl:=by rfl) (hcal:cl.callee=.value x:=by rfl) (hx:iM l x=some (g,first,captured):=by rfl) (hargs:kH l cl.args.toList=some vs:=by rfl)
  (hgd:cJ l all.toArray o=some true:=by rfl) (hdn:dD cc.n o.dst=true:=by rfl):aV ⟨cc,F,h0,E0,n0⟩ ds all st kk keep t taken ps nx l H:=
 aV.callX hG C hpre ren hH ha (fun y G' h' N J=>hr _ y G' h' N J) hlen hren hfr hn hps ho hop hcal hx hargs hgd hdn
end
end Go.Fw

namespace Go.Fw
open Go
variable {P:Program}
set_option maxHeartbeats 8000000
section
variable {cc:Ctx P} {F:Nat→Prop} {h0:Array Obj} {E0:Env} {n0:Nat} {ds:List dS} {nx:Nat} {l:SFr} {H:SH} {k:List SI}
theorem aA.joinB {x:Code} {Y:Type} (S:Y→(Nat→Prop)×Array Obj) (L:Y→SFr) (HH:Y→SH) (nxe:Nat) (J:Y→Prop) (after:∀y,J y→aA ⟨cc,(S y).1,(S y).2,E0,n0⟩ ds nxe k (L y) (HH y))
  (body:(∀y,J y→aA ⟨cc,(S y).1,(S y).2,E0,n0⟩ ds nxe (.mark::k) (L y) (HH y))→aA ⟨cc,F,h0,E0,n0⟩ ds nx (.code x::.mark::k) l H):aA ⟨cc,F,h0,E0,n0⟩ ds nx (.code x::k) l H:=.mk fun E h hA S' K=>by
 have:=(body (fun y hy=>aA.mark (after y hy))).run E h hA S' K
 unfold aX at this ⊢
 exact fun hwf a w ha hd hh hw=>this (cY trivial (cY trivial (cH hwf))) a w ha hd hh hw
end
section
variable {cc:Ctx P} {F:Nat→Prop} {h0:Array Obj} {E0:Env} {n0:Nat}
theorem aTB {G:Nat→Prop} (hG:∀i,G i→F i) {b e sz n:Nat} {rows:List (List Value)} {E:Env} {H:SH} {h:Array Obj} (S:Sat E F H h) (K:Kp F h0 h) (hb:dE H b=some (.own e sz rows)) (hlen:rows.length=n):
  ∃(a:Option Addr) (c:Nat) (G':Nat→Prop),E b=.slice a n c∧Now F G h0 (fun i=>F i∨G' i) G' h∧RoF G' h (.slice a n c) sz rows∧Sat E (fun i=>F i∨G' i) (aCP b (.slice a n c) (aDG H b)) h:=by
 subst hlen
 have hmem:=cG hb
 have hrow:rowsAt H b=some (sz,rows):=by unfold rowsAt;rw [hb]
 have hbo:=S.ok _ hmem
 have hlt:∀k,ownB (E b)=some k→k<h.size ∧ ¬F k:=fun k hk=>Blk.lt hbo rfl hk
 obtain ⟨g1,a,c,g2,g3⟩:=S.rowsAt hrow
 have N:Now F G h0 (fun i=>F i∨(G i∨ownB (E b)=some i)) (fun i=>G i∨ownB (E b)=some i) h:=
  ⟨fun hf K'=>K.trans ⟨K'.size,fun i hi=>K'.same i (.inl hi),fun i hi=>K'.lt i (.inl hi)⟩,fun i hi=>.inl hi,fun i hi=>.inr hi,
   fun i hi=>hi.elim (fun hi=>Nat.lt_of_lt_of_le (K.lt i hi) K.size) (fun hi=>hi.elim (fun hi=>Nat.lt_of_lt_of_le (K.lt i (hG i hi)) K.size) (fun hi=>(hlt i hi).1)),
   fun i hi=>.inl hi,fun i hi=>hi.elim .inl (fun hi=>.inr (hlt i hi).2)⟩
 refine ⟨a,c,_,g2,N,?_,?_⟩
 ·refine ⟨g1,⟨S.rowsLen hrow,?_⟩,a,c,rfl,g3.imp id fun ⟨g,o,e1,e2⟩=>⟨g,o,e1,.inr ?_,e2⟩⟩
  ·have:=S.rowsCap hrow
   rw [g2] at this
   exact this
  show ownB (E b)=some g
  rw [g2,e1];rfl
 have hpush:push E b (.slice a rows.length c)=E:=by rw [←g2];exact aBV E b
 refine ⟨fun p hp=>?_,?_⟩
 ·rw [mT] at hp
  obtain ⟨q,hq,rfl⟩:=List.mem_map.1 hp
  have hq1:=(pO H b).subset hq
  have hq2:=aAX hq
  refine aMV ?_
  rw [hpush]
  refine Blk.more (S.ok q hq1) (fun i hi=>.inl hi) fun hw g hg hF=>?_
  have h1:=(Blk.lt (S.ok q hq1) hw hg).2
  rcases hF with hF|hF|hF
  ·exact h1 hF
  ·exact h1 (hG _ hF)
  exact aAV S.apart hq1 hmem hq2 hw rfl g hg hF
 rw [mT,List.pairwise_map]
 refine List.Pairwise.imp (fun {p q} hA=>?_) (S.apart.sublist (pO H b))
 intro hw1 hw2 g e1 e2
 exact hA (by rw [←xR b (.slice a rows.length c)];exact hw1) (by rw [←xR b (.slice a rows.length c)];exact hw2) g e1 e2
variable {ds:List dS} {all:List Oper} {st:List SI} {t:Tr} {taken:List Nat} {ps:List (Nat×cW)} {nx k:Nat} {keep:List Nat} {l:SFr} {H:SH}
end
end Go.Fw

namespace Go.Fw
open Go
variable {P:Program}
set_option maxHeartbeats 8000000
theorem yB.panic {n:Nat} {l:Fr} {h:Array Obj} {o:Oper} {x:Operand} {t:TypeId} {v:Value} (hop:o.op=.panic x) (hx:ev l x=some (.iface t v)):
  yB P n l h o (fun _ _=>False) (fun ch h'=>ch=[{v:=.iface t v,recovered:=false}]∧h'=h):=by
 intro a w ha hh next Q hn hp
 have hrun:(execOp a.eval o).run P w=.halt (.panic (.iface t v)) w:=by
  have e:(Instr.panic (.iface t v)).run P w=.halt (.panic (.iface t v)) w:=rfl
  simp [execOp,hop,ha.ev hx,e]
 unfold Oper.wp
 rw [hrun]
 exact hp _ w (fL.refl w) ⟨rfl,hh⟩
section
variable {s:SCx P} {ds:List dS} {all:List Oper} {st:List SI} {t:Tr} {taken:List Nat} {ps:List (Nat×cW)} {nx kk:Nat} {keep:List Nat} {l:SFr} {H:SH} {o:Oper} {x:Operand}
theorem aV.panicX {ti:TypeId} {y:SV} {v:Value} (hr:aE s ds (.panicking [{v:=.iface ti v,recovered:=false}]) nx (cutS (aAY all) l) H) (hy:∀E,y.g E=v)
  (ho:all[kk]? = some o:=by rfl) (hf:cN o=false:=by rfl) (hop:o.op=.panic x:=by rfl) (hx:evS l x=some (.ifc ti y):=by rfl) (hgd:cJ l all.toArray o=some true:=by rfl) (hdn:dD s.c.n o.dst=true:=by rfl):aV s ds all st kk keep t taken ps nx l H:=
 aV.of ho hf hdn (V:=fun _ _ _ _=>False) (PN:=fun _ h ch h'=>ch=[{v:=.iface ti v,recovered:=false}]∧h'=h) hgd
  (fun E h _ _ _=>yB.panic hop (by rw [bT hx,SV.g,hy]))
  (fun E h hA S K ch h' ⟨e1,e2⟩=>by
   subst e1;subst e2
   have:=hr.run E h' hA S K
   rwa [uA] at this)
  (fun _ _ _ _ _ _ _ hv=>hv.elim)
end
end Go.Fw

namespace Go.Fw
open Go
variable {P:Program}
set_option maxHeartbeats 8000000
section
variable {cc:Ctx P} {F:Nat→Prop} {h0:Array Obj} {E0:Env} {n0:Nat}
variable {ds:List dS} {all:List Oper} {st:List SI} {t:Tr} {taken:List Nat} {ps:List (Nat×cW)} {nx:Nat} {l:SFr} {H:SH}
theorem bK.concY {G:Nat→Prop} (hG:∀i,G i→F i) (b:Nat) {e sz:Nat} {rows:List (List Value)} {n:Nat}
  (hr:∀(F':Nat→Prop) (a:Option Addr) (c:Nat) (G':Nat→Prop) (h':Array Obj),Now F G h0 F' G' h'→RoF G' h' (.slice a n c) sz rows →
   aBL b (.slice a n c) l fun l=>aNU H b fun H=>aBW b (.slice a n c) H fun H=>bK ⟨cc,F',h',E0,n0⟩ ds all st t taken ps nx l H)
  (hb:dE H b=some (.own e sz rows):=by rfl) (hlen:rows.length=n:=by rfl):bK ⟨cc,F,h0,E0,n0⟩ ds all st t taken ps nx l H:=by
 refine ⟨fun E h hA S K Q D hD hN hP Gp hGp f listed hc a w ha hd hh hw=>?_⟩
 obtain ⟨a1,c,G',e1,N,R,S'⟩:=aTB hG S K hb hlen
 have hr:=hr _ a1 c G' h N R
 rw [aBC,aAD,aBM] at hr
 have hpush:push E b (.slice a1 n c)=E:=by rw [←e1];exact aBV E b
 exact hr.run E h hA S' ⟨Nat.le_refl _,fun _ _=>rfl,N.lt⟩ Q D hD hN hP Gp (hGp.conv N.conv) f listed hc a w (by rw [aDT,hpush];exact ha) hd hh hw
end
end Go.Fw

namespace Go.Fw
open Go
variable {P:Program}
set_option maxHeartbeats 8000000
section
variable {n:Nat} {l:Fr} {h:Array Obj} {o:Oper}
theorem tR {t t' xt:TypeId} {d:TypeDesc} {x:Operand} {v z:Value} (ht:P.underlying t=some d) (hd:∀ms,d ≠ .interface ms) (hz:∀w,(zeroValue t).run P w=.ok z w) (hne:t'≠t)
  (hop:o.op=.typeAssert x xt t true:=by rfl) (hx:ev l x=some (.iface t' v):=by rfl):Eff P n l h o (fun v' h'=>v'=.tuple #[z,.bool false]∧h'=h):=by
 refine Eff.of_val1 fun a w ha hh=>⟨w,?_,fL.refl w,hh⟩
 have e:(Instr.typeAssert (.iface t' v) xt t true).run P w=.ok (.tuple #[z,.bool false]) w:=by
  unfold Instr.typeAssert
  simp only [Sem.run_bind,run_underlying ht,Result.andThen_ok]
  cases d<;>first|exact absurd rfl (hd _)|simp [hne,hz]
 simp [execOp,hop,ha.ev hx,e]
end
end Go.Fw

namespace Go.Fw
open Go
variable {P:Program}
set_option maxHeartbeats 8000000
def yE (l:List Int):Array Value:=(l.map fun z=>Value.int .i64 z).toArray
theorem aAB {e:TypeId} (he:P.underlying e=some (.int .i64)):P.plainKey e=true:=by
 simp [Program.plainKey,he]
theorem uG {w:World} {e:TypeId} (he:P.underlying e=some (.int .i64)) (d:Nat) (us ws:List Int):∀is:List Nat,(∀i∈is,i<us.length∧i<ws.length) →
  (Op.eqItems (d+1) e 1 (yE us) (yE ws) is).run P w=.ok (is.all fun i=>decide (us[i]? = ws[i]?)) w
 | [],_=>by simp [Op.eqItems]
 |i::is,h=>by
  obtain ⟨h1,h2⟩:=h i (List.mem_cons_self ..)
  have ih:=uG (w:=w) he d us ws is fun j hj=>h j (List.mem_cons_of_mem _ hj)
  have p1:(part e (yE us) (i*1)).run P w=.ok (.int .i64 us[i]) w:=run_part_plain w (aAB he) (by simp [yE,h1])
  have p2:(part e (yE ws) (i*1)).run P w=.ok (.int .i64 ws[i]) w:=run_part_plain w (aAB he) (by simp [yE,h2])
  have p3:(Op.equalIn (d+1) e (.int .i64 us[i]) (.int .i64 ws[i])).run P w=.ok (decide (us[i]=ws[i])) w:=by
   rw [run_equalIn_int w d e .i64 .i64 _ _ he]
   congr 1
  simp only [Op.eqItems,Sem.run_bind,p1,p2,p3,Result.andThen_ok]
  by_cases hab:us[i]=ws[i]
  ·simp [hab,ih,h1,h2]
  simp [hab,h1,h2]
theorem aUM {w:World} {t e:TypeId} {n:Nat} {i:TypeInfo} (ht:P.underlying t=some (.array n e)) (he:P.underlying e=some (.int .i64)) (hi:P.info? e=some i) (hc:P.cellsOf e=1) (us ws:List Int) (ha:us.length=n) (hb:ws.length=n):
  (Op.equalIn 10000 t (.agg (yE us)) (.agg (yE ws))).run P w=.ok (decide (us=ws)) w:=by
 rw [show (10000:Nat)=9999+1 from rfl,run_equalIn_array w 9999 _ _ ht hi,hc,show (9999:Nat)=9998+1 from rfl,uG he 9998 us ws _ (fun j hj=>by have:=List.mem_range.1 hj;omega)]
 congr 1
 rw [Bool.eq_iff_iff]
 simp only [List.all_eq_true,List.mem_range,decide_eq_true_eq]
 refine ⟨fun h=>List.ext_getElem? fun j=>?_,fun h=>by subst h;simp⟩
 by_cases hj:j<n
 ·exact h j hj
 rw [List.getElem?_eq_none (by omega),List.getElem?_eq_none (by omega)]
section
variable {s:SCx P} {ds:List dS} {all:List Oper} {st:List SI} {t:Tr} {taken:List Nat} {ps:List (Nat×cW)} {nx:Nat} {l:SFr} {H:SH}
theorem bK.flO {k:Nat} {o:Oper} {x:SV} (he:∀(E:Env) (w:World) (a:Act),bO s.c.n (gF E l) a→(execOp a.eval o).run P w=.ok (.value (x.g E)) w)
  (hr:jR l o.dst x fun l=>bK s ds all st t taken ps nx l H) (ho:all[k]? = some o:=by rfl) (hf:cN o=true:=by rfl) (hpu:fU all.toArray k=true:=by rfl) (hdst:dD s.c.n o.dst=true:=by rfl)
  (hgd:cJ l all.toArray o=some true:=by rfl):bK s ds all st (.fl k t) taken ps nx l H:=by
 rw [bR] at hr
 exact bK.fl (p:=.none) ho hf hdst (taken':=taken) (by rw [hpu];rfl) ps (by rw [hpu];rfl) (fun h=>by rw [hpu] at h;cases h)
  (fun E h S K a ha=>.inl ⟨bQ ha (cD (E:=E) hgd),fun w _=>he E w a ha⟩) hr
theorem bK.eqArr {k:Nat} {o:Oper} {ta e yt:TypeId} {x y:Operand} {n:Nat} {i:TypeInfo} {us ws:List Int} (ht:P.underlying ta=some (.array n e)) (he:P.underlying e=some (.int .i64)) (hi:P.info? e=some i) (hc:P.cellsOf e=1) (hg:P.eqGuardType P.depth ta=false)
  (ha:us.length=n) (hb:ws.length=n)
  (hr:jR l o.dst (.v (.bool (decide (us=ws)))) fun l=>bK s ds all st t taken ps nx l H) (ho:all[k]? = some o:=by rfl) (hop:o.op=.binOp .eql ta x y yt:=by rfl) (hx:∀E,ev (gF E l) x=some (.agg (yE us)):=by exact fun _=>rfl) (hy:∀E,ev (gF E l) y=some (.agg (yE ws)):=by exact fun _=>rfl)
  (hf:cN o=true:=by rfl) (hpu:fU all.toArray k=true:=by rfl) (hdst:dD s.c.n o.dst=true:=by rfl)
  (hgd:cJ l all.toArray o=some true:=by rfl):bK s ds all st (.fl k t) taken ps nx l H:=
 bK.flO (x:=.v (.bool (decide (us=ws)))) (fun E w a hh=>by
  simp [execOp,hop,hh.ev (hx E),hh.ev (hy E),run_eqGuard_agg w .eql ta x y _ _ hg,run_eql_struct,aUM ht he hi hc us ws ha hb,SV.g]) hr ho hf hpu hdst hgd
end
end Go.Fw
