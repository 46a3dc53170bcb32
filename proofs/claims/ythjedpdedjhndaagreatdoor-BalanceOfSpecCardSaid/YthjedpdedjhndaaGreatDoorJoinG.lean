/- Texts of this seat, joined: Package names: gather. Package names: Resolve. Package names: Item, Plant, Choice. Package names: Item, Plant, Choice of a -/
import Derived.Test.YthjedpdedjhndaaGreatDoorJoinF
set_option linter.unusedVariables false
set_option linter.unusedSimpArgs false
set_option maxRecDepth 100000
set_option maxHeartbeats 99999999
namespace Go.Proofs.YthjedpdedjhndaaGreatDoor
open Go Go.Fw Go.NatM Go.RatM Go.SrcM
section
variable {s:aG}
def oV (s:aG) (k:Nat):Prop:=(¬(s.units.map Un.name).Nodup \/ ¬(s.items.map It.name).Nodup \/ ¬s.plants.Nodup \/ ¬(s.machines.map Mc.name).Nodup \/ ¬(s.options.map OpV.name).Nodup) \/ ∃o∈s.options.take k,¬o.ch.Nodup
instance (s:aG) (k:Nat):Decidable (oV s k):=by unfold oV;infer_instance
theorem twice0 (s:aG):decide (true ∈ [eI (s.units.map Un.name),eI (s.items.map It.name),eI s.plants,eI (s.machines.map Mc.name),eI (s.options.map OpV.name)])=decide (oV s 0):=by
 unfold oV eI;refine decide_eq_decide.2 ?_;simp only [List.mem_cons,List.not_mem_nil,or_false,List.take_zero,false_and,exists_false,eq_comm (a:=true),decide_eq_true_eq]
theorem aXA (s:aG):decide (oV s s.options.length)=decide (nH s):=by
 unfold oV nH;refine decide_eq_decide.2 ?_;rw [List.take_length];simp only [Classical.not_forall,or_assoc,exists_prop]
theorem aRE (s:aG) {k:Nat} (hk:k<s.options.length):(decide (oV s k)||eI s.options[k].ch)=decide (oV s (k+1)):=by
 unfold eI;rw [Bool.eq_iff_iff];simp only [Bool.or_eq_true,decide_eq_true_eq];unfold oV;rw [rP hk];simp only [List.mem_append,List.mem_singleton,or_assoc,or_and_right,exists_or,exists_eq_left]
theorem aVX {s:aG} {G:Nat->Prop} {h:Array Obj} {rs:List Nat} {r k:Nat} (em:rs.length=k) (ho:∀i (h1:i<rs.length) (h2:i<s.options.length),nB G h (.map (some rs[i])) .string (eZ s.options[i].ch)) {hk:k<s.options.length} (hr:nB G h (.map (some r)) .string (eZ s.options[k].ch)):
  ∀i (h1:i<(rs++[r]).length) (h2:i<s.options.length),nB G h (.map (some (rs++[r])[i])) .string (eZ s.options[i].ch):=by
 intro i h1 h2;by_cases h:i<rs.length
 ·rw [List.getElem_append_left h];exact ho i h h2
 have e:i=k:=by simp at h1;omega
 subst e;rw [List.getElem_append_right (by omega)]
 simpa [em] using hr
theorem arrU:Tryz.prog.underlying 239=some (.array 5 4):=by kernel_rfl
theorem boolS:(Tryz.prog.info? 4).map (·.size)=some 1:=by kernel_rfl
abbrev aHZ (bs:List Bool):List (List Value):=(bs.map Value.bool).map fun m=>[m]
theorem aXF (bs:List Bool):(aHZ bs).length=bs.length:=by simp
theorem aWS {bs:List Bool} {k:Nat} (hk:k<bs.length):(aHZ bs)[k]? = some [.bool bs[k]]:=by simp [hk]
theorem no_true {bs:List Bool} (h:∀j (hj:j<bs.length),bs[j]=false):¬true∈bs:=fun hm=>by
 obtain ⟨j,hj,e⟩:=List.getElem_of_mem hm;rw [h j hj] at e;cases e
theorem aXM (bs:List Bool) (hb:bs.length<=1000000):FnS Tryz.prog 259 1 [.buf 0,.v (.bool true)] [(0,.ro 1 (aHZ bs))] (fun n:Int=> -1<=n/\n<=1000000/\(0<=n↔true∈bs)) (fun n=>.ret (nV n) 1 []):=by
 have hl:=aXF bs;refine zS Tryz.func259 Tryz.ntmps259 fun E0 F h w0 cs=>?_;refine aA.lenB 0 (fun m0=>?_);refine sqv ?_;refine zL (fun (k:Nat)=>[(8,nV k),(7,nV ((aHZ bs).length)),(0,.buf 0),(1,.v (.bool true))]) (fun k=>[(0,.ro 1 (aHZ bs))]) 1 (fun k=>k<=bs.length /\ ∀j (hj:j<bs.length),j<k->bs[j]=false) (fun k=>bs.length - k) (0) (⟨Nat.zero_le _,fun _ _ h=>absurd h (Nat.not_lt_zero _)⟩) ?_;rintro k hJ back;conv=>whnf
 refine gS ?_;conv=>whnf
 refine ⟨fun hk=>?_,fun hk=>?_⟩<;>conv=>whnf
 ·have hk:k<bs.length:=by omega
  refine sI ?_;refine ⟨_,aWS hk,?_⟩;conv=>whnf
  cases hv:bs[k] with
  |true=>
   conv=>whnf
   exact zI Tryz.func259 ((k:Int)) (⟨by omega,by omega,⟨fun _=>hv▸List.getElem_mem hk,fun _=>by omega⟩⟩)
  |false=>
   refine sI ?_;refine sqs ?_;exact zb (back (k+1) ((⟨hk,fun j hj h1=>(Nat.lt_or_eq_of_le (Nat.le_of_lt_succ h1)).elim (hJ.2 j hj) (fun e=>by subst e;exact hv)⟩)) (by (try dsimp only);omega))
 conv=>whnf
 exact zI Tryz.func259 ((-1:Int)) (⟨by omega,by omega,⟨fun h=>by omega,fun h=>(no_true (fun j hj=>hJ.2 j hj (by omega)) h).elim⟩⟩)
theorem aKG (bs:List Bool) (hb:bs.length<=1000000):FnS Tryz.prog 184 1 [.buf 0,.v (.bool true)] [(0,.ro 1 (aHZ bs))] (fun b:Bool=>b=decide (true∈bs)) (fun b=>.ret (.v (.bool b)) 1 []):=by
 refine zS Tryz.func184 Tryz.ntmps184 fun E0 F h w0 cs=>?_;refine aA.callN (aXM bs hb) [0] ?_ sH ?CNa3;case CNa3=>rfl
 intro _ _;refine sqv ?_
 rename_i y hy
 exact zI Tryz.func184 ((decide (0<=y))) ((show decide (0<=y)=decide (true∈bs) from decide_eq_decide.2 hy.2.2))
theorem aXV (vU vI vP vM vO vF vR vS:Value) (hL:Lens s):FnX Tryz.prog 92 0 [.agg [.v vU,.v vI,.v vP,.v vM,.v vO,.v vF,.v vR,.v vS]] [] (fun G h=>pW G h vU vI vP vM vO vF vR vS s)
  (fun (y:Nat×Nat×Nat×Nat×Nat×Option Addr×Nat) G h=>vW G h s (.map (some y.1)) (.map (some y.2.1)) (.map (some y.2.2.1)) (.map (some y.2.2.2.1)) (.map (some y.2.2.2.2.1)) (.slice y.2.2.2.2.2.1 s.options.length y.2.2.2.2.2.2))
  (fun y=>.ret (.tup [.agg [.v (.map (some y.1)),.v (.map (some y.2.1)),.v (.map (some y.2.2.1)),.v (.map (some y.2.2.2.1)),.v (.map (some y.2.2.2.2.1)),.v (.slice y.2.2.2.2.2.1 s.options.length y.2.2.2.2.2.2)],.v (.bool (decide (nH s)))]) 0 []):=by
 refine zX Tryz.func92 Tryz.ntmps92 fun E0 F G h N hP w0 cs=>?_;obtain ⟨aO,cO,rfl⟩:=RoF.sli hP.O (aE OpV.row s.options);have T0:=N;have V0:=Now.step N.gsub N;refine aA.nameAt (fun _ x=>x) 11 (by exact RoF.up (V0.trans ⟨T0.gsub,fun _ _=>rfl⟩) hP.U) ?_;refine sqv ?_;refine aA.callX (T0.gsub) (aFV s.units) (fun _ _=>trivial) [3] sH ?CNa4 ?_;case CNa4=>rfl
 rintro r1 G1 h1 N1 J1;refine bFU ?_;have T1:=T0.trans N1;have V1:=Now.step N.gsub T1;have W1:=Now.step T0.gsub N1;refine zQ 3 [(1,.ptr 0 0),(2,.ptr 1 0),(4,.ptr 2 0),(19,.v vI)] [(0,.cells 31 [.v vU,.v vI,.v vP,.v vM,.v (.slice aO s.options.length cO),.v vF,.v vR,.v vS]),(1,.cells 163 [.v (.map (some r1)),.v (.map none),.v (.map none),.v (.map none),.v (.map none),.v (.slice none 0 0)]),(2,.cells 239 [.v (.bool (eI (s.units.map Un.name))),.v (.bool false),.v (.bool false),.v (.bool false),.v (.bool false)])] ?_;refine aA.nameAt (fun _ x=>x) 19 (by exact RoF.up (V1.trans ⟨T1.gsub,fun _ _=>rfl⟩) hP.I) ?_;refine sqv ?_;refine aA.callX (T1.gsub) (aGS s.items) (fun _ _=>trivial) [3] sH ?CNa5 ?_;case CNa5=>rfl
 rintro r2 G2 h2 N2 J2;refine bFU ?_;have T2:=T1.trans N2;have V2:=Now.step N.gsub T2;have W2:=Now.step T1.gsub N2;refine zQ 3 [(1,.ptr 0 0),(2,.ptr 1 0),(4,.ptr 2 0),(27,.v vP)] [(0,.cells 31 [.v vU,.v vI,.v vP,.v vM,.v (.slice aO s.options.length cO),.v vF,.v vR,.v vS]),(1,.cells 163 [.v (.map (some r1)),.v (.map (some r2)),.v (.map none),.v (.map none),.v (.map none),.v (.slice none 0 0)]),(2,.cells 239 [.v (.bool (eI (s.units.map Un.name))),.v (.bool (eI (s.items.map It.name))),.v (.bool false),.v (.bool false),.v (.bool false)])] ?_;refine aA.nameAt (fun _ x=>x) 27 (by exact RoF.up (V2.trans ⟨T2.gsub,fun _ _=>rfl⟩) hP.P) ?_;refine sqv ?_;refine aA.callX (T2.gsub) (rI s.plants) (fun _ _=>trivial) [3] sH ?CNa6 ?_;case CNa6=>rfl
 rintro r3 G3 h3 N3 J3;refine bFU ?_;have T3:=T2.trans N3;have V3:=Now.step N.gsub T3;have W3:=Now.step T2.gsub N3;refine zQ 3 [(1,.ptr 0 0),(2,.ptr 1 0),(4,.ptr 2 0),(35,.v vM)] [(0,.cells 31 [.v vU,.v vI,.v vP,.v vM,.v (.slice aO s.options.length cO),.v vF,.v vR,.v vS]),(1,.cells 163 [.v (.map (some r1)),.v (.map (some r2)),.v (.map (some r3)),.v (.map none),.v (.map none),.v (.slice none 0 0)]),(2,.cells 239 [.v (.bool (eI (s.units.map Un.name))),.v (.bool (eI (s.items.map It.name))),.v (.bool (eI (s.plants))),.v (.bool false),.v (.bool false)])] ?_;refine aA.nameAt (fun _ x=>x) 35 (by exact RoF.up (V3.trans ⟨T3.gsub,fun _ _=>rfl⟩) hP.M) ?_;refine sqv ?_;refine aA.callX (T3.gsub) (aAD s.machines) (fun _ _=>trivial) [3] sH ?CNa7 ?_;case CNa7=>rfl
 rintro r4 G4 h4 N4 J4;refine bFU ?_;have T4:=T3.trans N4;have V4:=Now.step N.gsub T4;have W4:=Now.step T3.gsub N4;refine zQ 3 [(1,.ptr 0 0),(2,.ptr 1 0),(4,.ptr 2 0),(43,.v (.slice aO s.options.length cO))] [(0,.cells 31 [.v vU,.v vI,.v vP,.v vM,.v (.slice aO s.options.length cO),.v vF,.v vR,.v vS]),(1,.cells 163 [.v (.map (some r1)),.v (.map (some r2)),.v (.map (some r3)),.v (.map (some r4)),.v (.map none),.v (.slice none 0 0)]),(2,.cells 239 [.v (.bool (eI (s.units.map Un.name))),.v (.bool (eI (s.items.map It.name))),.v (.bool (eI (s.plants))),.v (.bool (eI (s.machines.map Mc.name))),.v (.bool false)])] ?_;refine aA.nameAt (fun _ x=>x) 43 (by exact RoF.up (V4.trans ⟨T4.gsub,fun _ _=>rfl⟩) hP.O) ?_;refine sqv ?_;refine aA.callX (T4.gsub) (aBR s.options) (fun _ _=>trivial) [3] sH ?CNa8 ?_;case CNa8=>rfl
 rintro r5 G5 h5 N5 J5;refine bFU ?_;have T5:=T4.trans N5;have V5:=Now.step N.gsub T5;have W5:=Now.step T4.gsub N5;refine zQ 3 [(1,.ptr 0 0),(2,.ptr 1 0),(4,.ptr 2 0)] [(0,.cells 31 [.v vU,.v vI,.v vP,.v vM,.v (.slice aO s.options.length cO),.v vF,.v vR,.v vS]),(1,.cells 163 [.v (.map (some r1)),.v (.map (some r2)),.v (.map (some r3)),.v (.map (some r4)),.v (.map (some r5)),.v (.slice none 0 0)]),(2,.cells 239 [.v (.bool (eI (s.units.map Un.name))),.v (.bool (eI (s.items.map It.name))),.v (.bool (eI (s.plants))),.v (.bool (eI (s.machines.map Mc.name))),.v (.bool (eI (s.options.map OpV.name)))])] ?_;obtain ⟨bs,hbs⟩:∃bs,bs=[eI (s.units.map Un.name),eI (s.items.map It.name),eI (s.plants),eI (s.machines.map Mc.name),eI (s.options.map OpV.name)]:=⟨_,rfl⟩;refine aA.concA (n:=5) (hsm:=by decide) (vs:=[.bool (eI (s.units.map Un.name)),.bool (eI (s.items.map It.name)),.bool (eI (s.plants)),.bool (eI (s.machines.map Mc.name)),.bool (eI (s.options.map OpV.name))]) T5.gsub 2 (fun v hv=>by simp only [List.mem_cons,List.not_mem_nil,or_false] at hv;rcases hv with rfl|rfl|rfl|rfl|rfl<;>rfl) (fun g G6 h6 N6 R6=>?_);conv=>whnf
 refine aA.sliceArr (n:=5) ?_ arrU boolS (by decide);refine sqv ?_;refine aA.nameAt (fun _ x=>x) 49 (by exact RoF.up ⟨N6.gsub,fun _ _=>rfl⟩ R6) ?_;refine sqv ?_;refine aA.callN (aKG [eI (s.units.map Un.name),eI (s.items.map It.name),eI (s.plants),eI (s.machines.map Mc.name),eI (s.options.map OpV.name)] (Nat.le_of_ble_eq_true rfl)) [3] ?_ sH ?CNa9;case CNa9=>rfl
 intro _ _;refine sqv ?_
 rename_i b hb
 have T6:=T5.trans N6;have V6:=Now.step N.gsub T6;have W6:=Now.step T5.gsub N6;refine aA.nameAt (fun _ x=>x) 52 (by exact RoF.up (V6.trans ⟨T6.gsub,fun _ _=>rfl⟩) hP.O) ?_;refine sqv ?_;have hm:=aE OpV.row s.options;refine zQ 5 [(2,.ptr 1 0),(3,.v (.bool b)),(52,.buf 4),(53,nV s.options.length),(54,nV 0)] [(1,.cells 163 [.v (.map (some r1)),.v (.map (some r2)),.v (.map (some r3)),.v (.map (some r4)),.v (.map (some r5)),.v (.slice none 0 0)]),(4,.ro 2 (rws OpV.row s.options))] ?_;refine aA.nilOwn (l':=[(2,.ptr 1 0),(3,.v (.bool b)),(52,.buf 4),(53,nV s.options.length),(54,nV 0)]) (H':=[(1,.cells 163 [.v (.map (some r1)),.v (.map (some r2)),.v (.map (some r3)),.v (.map (some r4)),.v (.map (some r5)),.buf 5]),(4,.ro 2 (rws OpV.row s.options))]) 160 1 ?_ (by rfl) (by rfl) (by rfl);have hb0:b=decide (oV s 0):=hb.trans (twice0 s);refine aA.subR [] (aA.loopB (fun (⟨k,b,rs,F',G',h'⟩:Nat×Bool×List Nat×(Nat->Prop)×(Nat->Prop)×Array Obj)=>(F',h')) (fun (⟨k,b,rs,F',G',h'⟩:Nat×Bool×List Nat×(Nat->Prop)×(Nat->Prop)×Array Obj)=>[(2,.ptr 1 0),(3,.v (.bool b)),(52,.buf 4),(53,nV s.options.length),(54,nV k)]) (fun (⟨k,b,rs,F',G',h'⟩:Nat×Bool×List Nat×(Nat->Prop)×(Nat->Prop)×Array Obj)=>[(1,.cells 163 [.v (.map (some r1)),.v (.map (some r2)),.v (.map (some r3)),.v (.map (some r4)),.v (.map (some r5)),.buf 5]),(4,.ro 2 (rws OpV.row s.options)),(5,.own 160 1 (rs.map fun r=>[Value.map (some r)]))]) 6 (fun (⟨k,b,rs,F',G',h'⟩:Nat×Bool×List Nat×(Nat->Prop)×(Nat->Prop)×Array Obj)=>Now F G h F' G' h'/\Up G6 h6 G' h'/\k<=s.options.length/\rs.length=k/\b=decide (oV s k) /\ ∀i (h1:i<rs.length) (h2:i<s.options.length),nB G' h' (.map (some rs[i])) .string (eZ s.options[i].ch)) (fun (⟨k,b,rs,F',G',h'⟩:Nat×Bool×List Nat×(Nat->Prop)×(Nat->Prop)×Array Obj)=>s.options.length - k) ?round10 (⟨0,b,[],_,G6,h6⟩) ?J010) sH sH;case J010=>exact (⟨T6,Up.refl _ _,Nat.zero_le _,rfl,hb0,fun i h1=>absurd h1 (Nat.not_lt_zero _)⟩)
 rintro ⟨k,b,rs,F',G',h'⟩ hJ back;try dsimp only at hJ back
 conv=>whnf
 try dsimp only
 refine gS ?_;conv=>whnf
 refine ⟨fun hk=>?_,fun hk=>?_⟩<;>conv=>whnf
 ·obtain ⟨N7,U7,_,em,eb,ho⟩:=hJ;have hk:k<s.options.length:=by omega
  refine sI ?_;refine ⟨_,bA hk,?_⟩;conv=>whnf
  try (refine oN ?_;conv=>whnf)
  refine aA.nameAt (fun _ x=>x) 60 (by exact OpV.ok.up (hP.below.o _ (List.getElem_mem hk)) ((V6.trans U7).trans ⟨N7.gsub,fun _ _=>rfl⟩)) ?_;refine sqv ?_;refine aA.callX (N7.gsub) (rI s.options[k].ch) (fun _ _=>trivial) [7] sH ?CNa11 ?_;case CNa11=>rfl
  rintro r G8 h8 N8 J8;refine sqv ?_;have hrl:(rs.map fun r=>[Value.map (some r)]).length=rs.length:=List.length_map _;have hL:=hL.O;refine And.intro (aOS (show (rs.map fun r=>[Value.map (some r)]).length<=1000000 by omega)) ?_;conv=>whnf
  have U8:=Now.step N7.gsub N8;have em':(rs++[r]).length=k+1:=by rw [List.length_append,em];rfl
  have ho':=aVX em (fun i h1 h2=>(ho i h1 h2).up U8) J8;have er:(rs.map fun r=>[Value.map (some r)])++[[Value.map (some r)]]=(rs++[r]).map fun r=>[Value.map (some r)]:=by rw [List.map_append];rfl
  have es:=aRE s hk;rw [<-eb] at es
  cases b with
  |true=>
   refine sI ?_;refine sqs ?_;refine aA.rowsEq 9 er ?_;conv=>whnf
   exact zb (back (⟨k+1,true,rs++[r],_,G8,h8⟩) ((⟨N7.trans N8,U7.trans U8,hk,em',es,ho'⟩)) (by (try dsimp only);omega)) [(5,9)]
  |false=>
   refine sI ?_;refine sqs ?_;refine aA.rowsEq 9 er ?_;conv=>whnf
   exact zb (back (⟨k+1,eI s.options[k].ch,rs++[r],_,G8,h8⟩) ((⟨N7.trans N8,U7.trans U8,hk,em',es,ho'⟩)) (by (try dsimp only);omega)) [(5,9)]
 obtain ⟨N7,U7,_,em,eb,ho⟩:=hJ;have hk:k=s.options.length:=by omega
 clear back;rw [hk,aXA] at eb;subst eb;conv=>whnf
 refine aA.conc (n:=s.options.length) (N7.gsub) 5 ?_ (hlen:=(by rw [List.length_map,em,hk]));intro aC cC G9 h9 N9 R9;refine sqv ?_;have U9:=U7.trans (Now.step N7.gsub N9);have W6':=W6.trans U9;exact zU (aB.ret tab Tryz.func92 rfl (eX (N7.trans N9) ((r1,r2,r3,r4,r5,aC,cC)) (fun h U=>⟨J1.up (W2.trans (W3.trans (W4.trans (W5.trans (W6'.trans U))))),J2.up (W3.trans (W4.trans (W5.trans (W6'.trans U)))),J3.up (W4.trans (W5.trans (W6'.trans U))),J4.up (W5.trans (W6'.trans U)),J5.up (W6'.trans U),rs.map fun r=>Value.map (some r),by rw [List.map_map];exact RoF.up U R9,by rw [List.length_map,em,hk],fun i h1 h2=>by rw [List.getElem_map];exact (ho i (by simpa using h1) h2).up ((Now.step N7.gsub N9).trans U)⟩)))
end

theorem bCD:mW Tryz.prog 93 2 [.ptr 0 0,.ptr 1 0] [] .returning (fun _:Unit=>True) (fun _=>⟨.returning,2,[]⟩):=by
 refine mW.of Tryz.func93 (by kernel_rfl) rfl Tryz.ntmps93 rfl fun E0 F h w0 c0 cs=>?_;refine sqs ?_;refine aA.recoverN ?_;refine sqs ?_;refine aA.effV (fun E h=>pG Tryz.underlying20) ?_;refine sqs ?_;refine aA.finU (aB.retD tab Tryz.func93 rfl (zJ.mk () trivial [] trivial rfl rfl rfl))
theorem bBD (y:Value):mW Tryz.prog 93 2 [.ptr 0 0,.ptr 1 0] [(0,.cells 31 [.v (.slice none 0 0),.v (.slice none 0 0),.v (.slice none 0 0),.v (.slice none 0 0),.v (.slice none 0 0),.v (.slice none 0 0),.v (.slice none 0 0),.v (.slice none 0 0)]),(1,.cells 36 [.v y])] (.panicking nD) (fun _:Unit=>True)
  (fun _=>⟨.panicking [{v:=.iface 329 (.agg #[]),recovered:=true}],2,[(0,.cells 31 [.v (.slice none 0 0),.v (.slice none 0 0),.v (.slice none 0 0),.v (.slice none 0 0),.v (.slice none 0 0),.v (.slice none 0 0),.v (.slice none 0 0),.v (.slice none 0 0)]),(1,.cells 36 [nV 110])]⟩):=by
 refine mW.of Tryz.func93 (by kernel_rfl) rfl Tryz.ntmps93 rfl fun E0 F h w0 c0 cs=>?_;refine sqs ?_;refine aA.recoverP ?_;refine sqs ?_;refine aA.finU (aB.retD tab Tryz.func93 rfl (zJ.mk () trivial [] ⟨by rfl,by rfl,trivial⟩ rfl rfl rfl))
theorem rW.up {F F' G':Nat->Prop} {h h':Array Obj} {G:Nat->Prop} (H:rW F h) (N:Now F G h F' G' h'):rW F' h':=dE.mono _ _ _ N.sub (dE.keep _ _ _ H N.kp)
theorem RoF.nil (G:Nat->Prop) (h:Array Obj) (sz:Nat):RoF G h (.slice none 0 0) sz []:=⟨fun _ h=>absurd h List.not_mem_nil,⟨Nat.zero_le _,Nat.le_refl _⟩,none,0,rfl,.inl rfl⟩
theorem pW.none (G:Nat->Prop) (h:Array Obj):pW G h (.slice none 0 0) (.slice none 0 0) (.slice none 0 0) (.slice none 0 0) (.slice none 0 0) (.slice none 0 0) (.slice none 0 0) (.slice none 0 0) lL:=
 ⟨RoF.nil _ _ _,RoF.nil _ _ _,RoF.nil _ _ _,RoF.nil _ _ _,RoF.nil _ _ _,RoF.nil _ _ _,RoF.nil _ _ _,RoF.nil _ _ _,fun _ h=>absurd h List.not_mem_nil,fun _ h=>absurd h List.not_mem_nil,fun _ h=>absurd h List.not_mem_nil⟩
structure RsV where
 t:aG
 e:Int
 U:Value
 I:Value
 P:Value
 M:Value
 O:Value
 F:Value
 R:Value
 S:Value
abbrev rsvOut (x:RsV):eR:=.ret (.tup [.agg [.v x.U,.v x.I,.v x.P,.v x.M,.v x.O,.v x.F,.v x.R,.v x.S],nV x.e]) 0 []
structure RsJ (s:aG) (x:RsV) (G:Nat->Prop) (h:Array Obj):Prop where
 t:(eL s).1.bare=x.t.bare
 e:(eL s).2=x.e
 top:pW G h x.U x.I x.P x.M x.O x.F x.R x.S x.t
abbrev cD:Value:=.slice none 0 0
theorem aSG {s:aG} {e:Int} (h:eL s=(lL,e)) (G:Nat->Prop) (hh:Array Obj):RsJ s ⟨lL,e,cD,cD,cD,cD,cD,cD,cD,cD⟩ G hh:=⟨by rw [h],by rw [h],pW.none _ _⟩
theorem aMQ (s:aG) (vU vI vP vM vO vF vR vS:Value) (hL:Lens s) (hw:∀u∈s.units,i64 u.n/\i64 u.d):FnX Tryz.prog 55 0 [.agg [.v vU,.v vI,.v vP,.v vM,.v vO,.v vF,.v vR,.v vS]] [] (fun G h=>pW G h vU vI vP vM vO vF vR vS s/\rW G h) (RsJ s) rsvOut:=by
 have hlU:=hL.U;refine zX Tryz.func55 Tryz.ntmps55 fun E0 F G h N hP w0 cs=>?_;obtain ⟨aU,cU,rfl⟩:=RoF.sli hP.1.U (aZ s.units);refine aA.callX (N.gsub) (aXV (s:=s) _ vI vP vM vO vF vR vS hL) (fun h U=>hP.1.up U) [] sH ?CNa1 ?_;case CNa1=>rfl
 rintro ⟨r1,r2,r3,r4,r5,aC,cC⟩ G1 h1 N1 J1;refine sqv ?_;have hTF:=rW.up (dE.mono _ _ _ N.gsub hP.2) N1;have V1:=Now.step N.gsub N1;dsimp only at J1;by_cases ht:nH s
 ·have hr:eL s=(lL,111):=by unfold eL;rw [if_pos ht]
  rw [decide_eq_true ht];conv=>whnf
  exact zU (aB.ret tab Tryz.func55 rfl (eX (N1) (⟨lL,111,cD,cD,cD,cD,cD,cD,cD,cD⟩) (fun h U=>aSG hr _ _)))
 rw [decide_eq_false ht];conv=>whnf
 refine aA.nameAt (fun _ x=>x) 16 (by exact RoF.up (V1.trans ⟨N1.gsub,fun _ _=>rfl⟩) hP.1.U) ?_;refine sqv ?_;refine zQ 5 [(1,.ptr 0 0),(2,.ptr 1 0),(3,.ptr 2 0),(4,.ptr 3 0),(16,.buf 4)] [(0,.cells 31 [.v (.slice aU s.units.length cU),.v vI,.v vP,.v vM,.v vO,.v vF,.v vR,.v vS]),(1,.cells 31 [.v (.slice none 0 0),.v (.slice none 0 0),.v (.slice none 0 0),.v (.slice none 0 0),.v (.slice none 0 0),.v (.slice none 0 0),.v (.slice none 0 0),.v (.slice none 0 0)]),(2,.cells 36 [nV 0]),(3,.cells 163 [.v (.map (some r1)),.v (.map (some r2)),.v (.map (some r3)),.v (.map (some r4)),.v (.map (some r5)),.v (.slice aC s.options.length cC)]),(4,.ro 8 (aL s.units))] ?_;refine aA.callT (dE) (hTF) (xX s.units (by omega) hw) [4] sH ?CNa2 ?_;case CNa2=>rfl
 rintro _ _
 cases hu:dA s.units with
 |inr e=>
  have hr:eL s=(lL,e):=by unfold eL;rw [if_neg ht,hu]
  have he:=resolveU_nz' hu;refine bFU ?_;refine zH (fls 0 2 (.e1 2 [1] (.e1 3 [] .done))) ?_;refine squF ?_;refine sqs ?_;refine sqs ?_;exact zU (aB.ret tab Tryz.func55 rfl (eX (N1) (⟨lL,e,cD,cD,cD,cD,cD,cD,cD,cD⟩) (fun h U=>aSG hr _ _)))
 |inl u=>
  refine bFU ?_;refine aA.deferU ?_;refine sqs ?_;refine aA.callX (N1.gsub) (aWF _ vI vP vM vO vF vR vS hL) (fun h U=>⟨hP.1.up (V1.trans U),J1.up U⟩) [] sH ?CNa3 ?_;case CNa3=>rfl
  rintro (_|⟨t,wU,wI,wP,wM,wO,wF,wR,wS⟩) G2 h2 N2 J2
  ·have hr:eL s=(lL,110):=by unfold eL;rw [if_neg ht,hu];simp only [show SrcM.resS s=none from J2]
   conv=>whnf
   refine aB.deferN (bBD _) [1,2] ?_ ⟨by rfl,by rfl,trivial⟩ rfl (fun e=>by cases e);intro _ _
   (conv=>whnf)
   exact aB.ret tab Tryz.func55 rfl (eX (N1.trans N2) (⟨lL,110,cD,cD,cD,cD,cD,cD,cD,cD⟩) (fun h U=>aSG hr _ _))
  obtain ⟨j1,j2,j3⟩:=J2;obtain ⟨t0,e0,e1⟩:=aKR j1;have hr:eL s=({t0 with units:=u},0):=by unfold eL;rw [if_neg ht,hu];simp only [e0]
  obtain ⟨b1,c1,rfl⟩:=RoF.sli j3.U rfl;obtain ⟨b2,c2,rfl⟩:=RoF.sli j3.I rfl;obtain ⟨b3,c3,rfl⟩:=RoF.sli j3.P rfl;obtain ⟨b4,c4,rfl⟩:=RoF.sli j3.M rfl;obtain ⟨b5,c5,rfl⟩:=RoF.sli j3.O rfl;obtain ⟨b6,c6,rfl⟩:=RoF.sli j3.F rfl;obtain ⟨b7,c7,rfl⟩:=RoF.sli j3.R rfl;obtain ⟨b8,c8,rfl⟩:=RoF.sli j3.S rfl;conv=>whnf
  refine aA.conc (n:=u.length) (N2.gsub) 5 ?_ (hlen:=aZ u);intro b9 c9 G3 h3 N3 R3;refine sqv ?_;have U3:=Now.step N2.gsub N3;refine aA.retU ?_;refine aB.deferN bCD [1,2] ?_ trivial rfl (fun e=>by cases e);intro _ _;conv=>whnf
  exact aB.ret tab Tryz.func55 rfl (eX ((N1.trans N2).trans N3) (⟨{t with units:=u},0,_,_,_,_,_,_,_,_⟩) (fun h U=>⟨by rw [hr];exact congrArg (fun z:aG=>{z with units:=u}) e1,by rw [hr],RoF.up U R3,RoF.up (U3.trans U) j3.I,RoF.up (U3.trans U) j3.P,RoF.up (U3.trans U) j3.M,RoF.up (U3.trans U) j3.O,RoF.up (U3.trans U) j3.F,RoF.up (U3.trans U) j3.R,RoF.up (U3.trans U) j3.S,(j3.below.up (U3.trans U)).o,(j3.below.up (U3.trans U)).f,(j3.below.up (U3.trans U)).r⟩))

end Go.Proofs.YthjedpdedjhndaaGreatDoor

namespace Go.SrcM
open Go Go.Fw Go.RatM
end Go.SrcM
namespace Go.Proofs.YthjedpdedjhndaaGreatDoor
open Go Go.Fw Go.NatM Go.RatM Go.SrcM
section
variable {vU vI vP vM vO vF vR vS:Value}
abbrev zQC:Fw.Blk:=.cells 31 [.v (.slice none 0 0),.v (.slice none 0 0),.v (.slice none 0 0),.v (.slice none 0 0),.v (.slice none 0 0),.v (.slice none 0 0),.v (.slice none 0 0),.v (.slice none 0 0)]
abbrev vQC (vU vI vP vM vO vF vR vS:Value):Fw.Blk:=.cells 31 [.v vU,.v vI,.v vP,.v vM,.v vO,.v vF,.v vR,.v vS]
abbrev sQC (aU:Option Addr) (cU:Nat) (aI:Option Addr) (cI:Nat) (aP:Option Addr) (cP:Nat) (aM:Option Addr) (cM:Nat) (aO:Option Addr) (cO:Nat) (aF:Option Addr) (cF:Nat) (aR:Option Addr) (cR:Nat) (aS:Option Addr) (cS:Nat) (s:aG):Fw.Blk:=.cells 31 [.v (.slice aU s.units.length cU),.v (.slice aI s.items.length cI),.v (.slice aP s.plants.length cP),.v (.slice aM s.machines.length cM),.v (.slice aO s.options.length cO),.v (.slice aF s.forbids.length cF),.v (.slice aR s.recipes.length cR),.v (.slice aS s.swaps.length cS)]
abbrev srcA (vU vI vP vM vO vF vR vS:Value):SV:=.agg [.v vU,.v vI,.v vP,.v vM,.v vO,.v vF,.v vR,.v vS]
end
end Go.Proofs.YthjedpdedjhndaaGreatDoor

namespace Go.SynM
open Go Go.Fw Go.RatM Go.SrcM
open Go.Proofs.YthjedpdedjhndaaGreatDoor (Tok)
inductive Rs (α:Type) where
 |ok (a:α) (r:List Tok)
 |bad (r:List Tok) (e:Nat)
abbrev P (α:Type):=List Tok->Rs α
def bnd {α β:Type} (p:P α) (f:α->P β):P β:=fun r=>match p r with
 | .ok a r'=>f a r'
 | .bad r' e=>.bad r' e
def pur {α:Type} (a:α):P α:=fun r=>.ok a r
def failP {α:Type} (e:Nat):P α:=fun r=>.bad r e
theorem aJ {α β:Type} {p:P α} {f:α->P β} {r r':List Tok} {a:α} (h:p r=.ok a r'):bnd p f r=f a r':=by unfold bnd;rw [h]
theorem aV {α β:Type} {p:P α} {f:α->P β} {r r':List Tok} {e:Nat} (h:p r=.bad r' e):bnd p f r=.bad r' e:=by unfold bnd;rw [h]
def isT (k:Int) (t:ByteArray):List Tok->Bool
 | []=>false
 |x::_=>decide (x.kind=k/\x.text=t)
def skip (k:Int) (t:ByteArray):P Unit:=fun r=>if isT k t r then .ok () r.tail else .bad r 100
def fK:P ByteArray
 | []=>.bad [] 100
 |x::r=>if x.kind=1 then .ok x.text r else .bad (x::r) 100
def rC:P Int
 | []=>.bad [] 100
 |x::r=>if x.kind=2/\x.n<=1048576 then .ok x.n r else .bad (x::r) 100
abbrev B (l:List UInt8):ByteArray:=⟨l.toArray⟩
abbrev wd (t:List UInt8):P Unit:=skip 1 (B t)
abbrev sg (c:UInt8):P Unit:=skip 3 (B [c])
def nQ:P (Int×Int):=bnd rC fun n=>bnd (sg 47) fun _=>bnd rC fun d=>pur (n,d)
def jC {α:Type} (k:Int) (t:ByteArray) (p:P α):Nat->P (List α)
 |0=>fun r=>if isT k t r then .bad r 2 else .ok [] r
 |m+1=>fun r=>if isT k t r then bnd p (fun x=>bnd (jC k t p m) fun l=>pur (x::l)) r.tail else .ok [] r
def sepP {α:Type} (p:P α) (most:Nat):P (List α):=bnd p fun x=>bnd (jC 3 (B [44]) p (most - 1)) fun l=>pur (x::l)
def qB {α:Type} (k:Int) (t:ByteArray) (a:α) (p:P α):P α:=fun r=>if isT k t r then p r.tail else .ok a r
abbrev tM:List UInt8:=[117,110,105,116]
abbrev tK:List UInt8:=[105,116,101,109]
abbrev nJ:List UInt8:=[112,108,97,110,116]
abbrev gJ:List UInt8:=[109,97,99,104,105,110,101]
abbrev jS:List UInt8:=[111,112,116,105,111,110]
abbrev jR:List UInt8:=[102,111,114,98,105,100]
abbrev tO:List UInt8:=[109,97,107,101]
abbrev rA:List UInt8:=[115,119,97,112]
abbrev wIn:List UInt8:=[105,110]
abbrev aUD:List UInt8:=[109,97,115,115]
abbrev pY:List UInt8:=[107,101,101,112,115]
abbrev wAt:List UInt8:=[97,116]
abbrev bBK:List UInt8:=[99,108,101,97,110]
abbrev wFor:List UInt8:=[102,111,114]
abbrev bGE:List UInt8:=[98,97,99,107]
abbrev aUJ:List UInt8:=[102,114,111,109]
abbrev wTo:List UInt8:=[116,111]
abbrev wIf:List UInt8:=[105,102]
abbrev wOut:List UInt8:=[111,117,116]
abbrev aDW:List UInt8:=[114,101,119,111,114,107]
abbrev aKZ:List UInt8:=[121,105,101,108,100]
abbrev aEB:List UInt8:=[119,105,116,104,105,110]
abbrev aTE:List UInt8:=[108,101,97,100]
abbrev wRun:List UInt8:=[114,117,110]
abbrev e0:ByteArray:=⟨#[]⟩
abbrev hd0:Hd:=⟨none,0⟩
def qS:P Un:=bnd fK fun nm=>bnd (qB 3 (B [61]) (0,0,e0) (bnd nQ fun q=>bnd fK fun o=>pur (q.1,q.2,o))) fun x=>bnd (sg 59) fun _=>pur ⟨nm,x.2.2,x.1,x.2.1,0,zr⟩
def nN:P It:=bnd fK fun nm=>bnd (wd wIn) fun _=>bnd fK fun u=>bnd (wd aUD) fun _=>bnd nQ fun q=>bnd (qB 1 (B pY) 0 rC) fun s=>bnd (sg 59) fun _=>pur ⟨nm,u,q.1,q.2,s,0⟩
def tF:P ByteArray:=bnd fK fun nm=>bnd (sg 59) fun _=>pur nm
def machP:P Mc:=bnd fK fun nm=>bnd (wd wAt) fun _=>bnd fK fun p=>bnd (wd bBK) fun _=>bnd rC fun c=>bnd (sg 59) fun _=>pur ⟨nm,p,c,0⟩
def optnP:P OpV:=bnd fK fun nm=>bnd (sg 123) fun _=>bnd (sepP fK 4) fun l=>bnd (sg 125) fun _=>bnd (sg 59) fun _=>pur ⟨nm,hd0,l⟩
def aUF:P Cd:=bnd fK fun o=>bnd (sg 61) fun _=>bnd fK fun c=>pur ⟨o,c,0,0⟩
def forbP:P FbV:=bnd (sepP aUF 6) fun l=>bnd (sg 59) fun _=>pur ⟨hd0,l⟩
def swapP:P Sw:=bnd fK fun a=>bnd (wd wFor) fun _=>bnd fK fun b=>bnd (sg 59) fun _=>pur ⟨a,b,0,0⟩
def outP:P Am:=bnd nQ fun q=>bnd fK fun u=>bnd fK fun i=>bnd (sg 59) fun _=>pur ⟨q.1,q.2,u,i,false,0,0⟩
def inP:P Am:=bnd (qB 1 (B bGE) false (pur true)) fun b=>bnd outP fun a=>pur {a with back:=b}
def aEZ:P Rn:=bnd fK fun m=>bnd rC fun n=>bnd (sg 59) fun _=>pur ⟨m,n,0⟩
def aDF:P RcV:=bnd fK fun it=>bnd (wd wAt) fun _=>bnd fK fun pl=>bnd (wd aUJ) fun _=>bnd rC fun fr=>bnd (wd wTo) fun _=>bnd rC fun to=>
 bnd (qB 1 (B wIf) [] (sepP aUF 6)) fun cs=>bnd (sg 123) fun _=>bnd (jC 1 (B wIn) inP 8) fun ins=>bnd (jC 1 (B wOut) outP 8) fun outs=>
 bnd (wd aDW) fun _=>bnd nQ fun rw=>bnd (sg 59) fun _=>bnd (wd aKZ) fun _=>bnd nQ fun y=>bnd (wd aEB) fun _=>bnd nQ fun t=>
 bnd (sg 59) fun _=>bnd (wd aTE) fun _=>bnd rC fun ld=>bnd (sg 59) fun _=>bnd (jC 1 (B wRun) aEZ 8) fun runs=>bnd (sg 125) fun _=>
 pur ⟨it,pl,fr,to,hd0,cs,hd0,ins,hd0,outs,rw.1,rw.2,y.1,y.2,t.1,t.2,ld,hd0,runs,0,0⟩
def brP {α:Type} (t:ByteArray) (n most:Nat) (p q:P α):P α:=fun r=>if isT 1 t r then (if most<=n then .bad r 2 else p r.tail) else q r
def mX (s:aG):P aG:=
 brP (B tM) s.units.length 32 (bnd qS fun x=>pur {s with units:=s.units++[x]}) <|
 brP (B tK) s.items.length 32 (bnd nN fun x=>pur {s with items:=s.items++[x]}) <|
 brP (B nJ) s.plants.length 8 (bnd tF fun x=>pur {s with plants:=s.plants++[x]}) <|
 brP (B gJ) s.machines.length 16 (bnd machP fun x=>pur {s with machines:=s.machines++[x]}) <|
 brP (B jS) s.options.length 6 (bnd optnP fun x=>pur {s with options:=s.options++[x]}) <|
 brP (B jR) s.forbids.length 16 (bnd forbP fun x=>pur {s with forbids:=s.forbids++[x]}) <|
 brP (B tO) s.recipes.length 64 (bnd aDF fun x=>pur {s with recipes:=s.recipes++[x]}) <|
 brP (B rA) s.swaps.length 32 (bnd swapP fun x=>pur {s with swaps:=s.swaps++[x]}) <|
 failP 100
def aFB:Nat->aG->P aG
 |0,s=>pur s
 |n+1,s=>fun r=>if r=[] then .ok s [] else bnd (mX s) (aFB n) r
def noS:aG:=⟨[],[],[],[],[],[],[],[]⟩
def pV (n:Nat) (e:Nat):List Tok->Int×Nat
 | []=>(n,100)
 |t::_=>(t.pos,e)

structure nZ {α:Type} (p:P α):Prop where
 suf:∀r a r',p r=.ok a r'->r' <:+ r
 sufB:∀r r' e,p r=.bad r' e->r' <:+ r
 loc:∀A R a,p (A++R)=.ok a R -> ∀C,(C.head? = R.head? \/ C=[])->p (A++C)=.ok a C
 bad:∀A R e,p (A++R)=.bad R e->(∃e',p A=.bad [] e') \/ ∃a,p A=.ok a []
def fG {α:Type} (p:P α):Prop:=∀A R a,p (A++R)=.ok a R -> ∀C,p (A++C)=.ok a C
def aHE {α:Type} (p:P α):Prop:=∀r a r',p r=.ok a r'->r'.length<r.length
theorem lH {k:Int} {t:ByteArray} {r:List Tok} (h:isT k t r=true):∃x r',r=x::r':=by
 cases r with
 |nil=>cases h
 |cons x r=>exact ⟨x,r,rfl⟩
theorem aZC {k:Int} {t:ByteArray} {r r':List Tok} (h:r.head? = r'.head?):isT k t r=isT k t r':=by
 cases r with
 |nil=>
  cases r' with
  |nil=>rfl
  |cons y s=>cases h
 |cons x s=>
  cases r' with
  |nil=>cases h
  |cons y t=>cases h;rfl
theorem bBO {k:Int} {t:ByteArray} {r c:List Tok} (h:isT k t r=false) (hc:c.head? = r.head? \/ c=[]):isT k t c=false:=by
 rcases hc with hc|rfl
 ·rw [aZC hc];exact h
 rfl
theorem pU {α:Type} {a b:List α} (h:a <:+ b):a.length<=b.length:=h.length_le
theorem aDO {r:List Tok} (h:r <:+ []):r=[]:=List.suffix_nil.1 h
theorem wL {A R r1:List Tok} (h1:r1 <:+ A++R) (h2:R <:+ r1):∃A1 A2,A=A1++A2/\r1=A2++R:=by
 obtain ⟨X,hX⟩:=h1;obtain ⟨Y,rfl⟩:=h2;rw [<-List.append_assoc] at hX;exact ⟨X,Y,(List.append_cancel_right hX).symm,rfl⟩
theorem oX {α:Type} (a:α):nZ (pur a) where
 suf:=fun r b r' h=>by cases h;exact List.suffix_refl _
 sufB:=fun r r' e h=>by cases h
 loc:=fun A R b h C hc=>by
  have h:(Rs.ok a (A++R):Rs α)=.ok b R:=h;injection h with h1 h2
  have:A=[]:=by
   have:=congrArg List.length h2;rw [List.length_append] at this;exact List.eq_nil_of_length_eq_zero (by omega)
  subst this;subst h1;rfl
 bad:=fun A R e h=>by cases h
theorem aQQ {α:Type} (a:α):fG (pur a):=fun A R b h C=>by
 have h:(Rs.ok a (A++R):Rs α)=.ok b R:=h;injection h with h1 h2
 have:A=[]:=by
  have:=congrArg List.length h2;rw [List.length_append] at this;exact List.eq_nil_of_length_eq_zero (by omega)
 subst this;subst h1;rfl
theorem aGO {α:Type} {p:P α} (f:Tok->Option α) (e:Nat) (h0:p []=.bad [] e) (h1:∀x r,p (x::r)=match f x with|some a=>.ok a r|none=>.bad (x::r) e):nZ p/\fG p/\aHE p:=by
 have hc:fG p:=fun A R a h C=>by
  cases A with
  |nil=>
   cases R with
   |nil=>rw [List.nil_append,h0] at h;cases h
   |cons x r=>
    rw [List.nil_append,h1] at h;split at h
    ·injection h with _ h2
     have:=congrArg List.length h2
     simp at this
    cases h
  |cons x A=>
   rw [List.cons_append,h1] at h ⊢;split at h
   ·rename_i b hb
    injection h with h2 h3
    have:A=[]:=by
     have:=congrArg List.length h3;rw [List.length_append] at this;exact List.eq_nil_of_length_eq_zero (by omega)
    subst this;subst h2;rfl
   cases h
 refine ⟨⟨fun r a r' h=>?_,fun r r' e h=>?_,fun A R a h C _=>hc A R a h C,fun A R e' h=>?_⟩,hc,fun r a r' h=>?_⟩
 ·cases r with
  |nil=>rw [h0] at h;cases h
  |cons x r=>
   rw [h1] at h;split at h
   ·cases h;exact List.suffix_cons _ _
   cases h
 ·cases r with
  |nil=>rw [h0] at h;cases h;exact List.suffix_refl _
  |cons x r=>
   rw [h1] at h;split at h
   ·cases h
   cases h;exact List.suffix_refl _
 ·cases A with
  |nil=>exact .inl ⟨e,h0⟩
  |cons x A=>
   rw [List.cons_append,h1] at h;split at h
   ·cases h
   injection h with h2 _
   have:=congrArg List.length h2
   simp at this
   omega
 cases r with
 |nil=>rw [h0] at h;cases h
 |cons x r=>
  rw [h1] at h;split at h
  ·cases h;simp
  cases h
theorem iZ:nZ fK/\fG fK/\aHE fK:=aGO (fun x=>if x.kind=1 then some x.text else none) 100 rfl fun x r=>by
 simp only [fK];split<;>rfl
theorem wT:nZ rC/\fG rC/\aHE rC:=aGO (fun x=>if x.kind=2/\x.n<=1048576 then some x.n else none) 100 rfl fun x r=>by
 simp only [rC];split<;>rfl
theorem cL (k:Int) (t:ByteArray):nZ (skip k t)/\fG (skip k t)/\aHE (skip k t):=aGO (fun x=>if x.kind=k/\x.text=t then some () else none) 100 rfl fun x r=>by
 simp only [skip,isT,decide_eq_true_eq];split<;>rfl
section
variable {α β:Type} {p:P α} {f:α->P β}
theorem jU {r:List Tok} {s:Rs β} (h:bnd p f r=s):(∃a r1,p r=.ok a r1/\f a r1=s) \/ ∃r1 e,p r=.bad r1 e/\s=.bad r1 e:=by
 unfold bnd at h;split at h
 ·rename_i a r1 h1
  exact .inl ⟨a,r1,h1,h⟩
 rename_i r1 e h1
 exact .inr ⟨r1,e,h1,h.symm⟩
theorem kA (hp:nZ p) (hf:∀a,nZ (f a)):nZ (bnd p f) where
 suf:=fun r b r' h=>by
  rcases jU h with ⟨a,r1,h1,h2⟩|⟨r1,e,_,h2⟩
  ·exact ((hf a).suf _ _ _ h2).trans (hp.suf _ _ _ h1)
  cases h2
 sufB:=fun r r' e h=>by
  rcases jU h with ⟨a,r1,h1,h2⟩|⟨r1,e,h1,h2⟩
  ·exact ((hf a).sufB _ _ _ h2).trans (hp.suf _ _ _ h1)
  cases h2;exact hp.sufB _ _ _ h1
 loc:=fun A R b h C hc=>by
  rcases jU h with ⟨a,r1,h1,h2⟩|⟨r1,e,_,h2⟩
  ·obtain ⟨A1,A2,rfl,rfl⟩:=wL (hp.suf _ _ _ h1) ((hf a).suf _ _ _ h2);rw [List.append_assoc] at h1 ⊢;have h3:p (A1++(A2++C))=.ok a (A2++C):=hp.loc A1 _ a h1 _ (by
    cases A2 with
    |nil=>exact hc
    |cons x A2=>exact .inl rfl)
   rw [aJ h3];exact (hf a).loc A2 R b h2 C hc
  cases h2
 bad:=fun A R e h=>by
  rcases jU h with ⟨a,r1,h1,h2⟩|⟨r1,e,h1,h2⟩
  ·obtain ⟨A1,A2,rfl,rfl⟩:=wL (hp.suf _ _ _ h1) ((hf a).sufB _ _ _ h2);rw [List.append_assoc] at h1;have h3:p (A1++A2)=.ok a A2:=hp.loc A1 _ a h1 _ (by
    cases A2 with
    |nil=>exact .inr rfl
    |cons x A2=>exact .inl rfl)
   rw [aJ h3];exact (hf a).bad A2 R e h2
  cases h2;rcases hp.bad A R e h1 with ⟨e',h3⟩|⟨a,h3⟩
  ·exact .inl ⟨e',aV h3⟩
  rw [aJ h3]
  cases h4:f a [] with
  |ok b r=>
   rw [aDO ((hf a).suf _ _ _ h4)];exact .inr ⟨b,rfl⟩
  |bad r e'=>
   rw [aDO ((hf a).sufB _ _ _ h4)];exact .inl ⟨e',rfl⟩
theorem aXQ (hp:aHE p) (hf:∀a,nZ (f a)):aHE (bnd p f):=fun r b r' h=>by
 rcases jU h with ⟨a,r1,h1,h2⟩|⟨r1,e,_,h2⟩
 ·have:=hp _ _ _ h1;have:=pU ((hf a).suf _ _ _ h2);omega
 cases h2
theorem aQJ (hp:nZ p) (hf:∀a,aHE (f a)):aHE (bnd p f):=fun r b r' h=>by
 rcases jU h with ⟨a,r1,h1,h2⟩|⟨r1,e,_,h2⟩
 ·have:=hf a _ _ _ h2;have:=pU (hp.suf _ _ _ h1);omega
 cases h2
theorem aNV (hp:nZ p) (hf:∀a,nZ (f a)) (hc:fG p) (hd:∀a,fG (f a)):fG (bnd p f):=fun A R b h C=>by
 rcases jU h with ⟨a,r1,h1,h2⟩|⟨r1,e,_,h2⟩
 ·obtain ⟨A1,A2,rfl,rfl⟩:=wL (hp.suf _ _ _ h1) ((hf a).suf _ _ _ h2);rw [List.append_assoc] at h1 ⊢;rw [aJ (hc A1 _ a h1 (A2++C))];exact hd a A2 R b h2 C
 cases h2
theorem aJJ (hp:nZ p) (hf:∀a,nZ (f a)) (he:∀a,aHE (f a)) (hd:∀a,fG (f a)):fG (bnd p f):=fun A R b h C=>by
 rcases jU h with ⟨a,r1,h1,h2⟩|⟨r1,e,_,h2⟩
 ·obtain ⟨A1,A2,rfl,rfl⟩:=wL (hp.suf _ _ _ h1) ((hf a).suf _ _ _ h2);rw [List.append_assoc] at h1 ⊢;have:=he a _ _ _ h2;rw [List.length_append] at this;have h3:p (A1++(A2++C))=.ok a (A2++C):=hp.loc A1 _ a h1 _ (by
   cases A2 with
   |nil=>simp at this
   |cons x A2=>exact .inl rfl)
  rw [aJ h3];exact hd a A2 R b h2 C
 cases h2
end
theorem tZ {α:Type} {k:Int} {t:ByteArray} {a:α} {p:P α} (hp:nZ p):nZ (qB k t a p) where
 suf:=fun r b r' h=>by
  unfold qB at h;split at h
  ·rename_i ht
   obtain ⟨x,r,rfl⟩:=lH ht;exact (hp.suf _ _ _ h).trans (List.suffix_cons x r)
  cases h;exact List.suffix_refl _
 sufB:=fun r r' e h=>by
  unfold qB at h;split at h
  ·rename_i ht
   obtain ⟨x,r,rfl⟩:=lH ht;exact (hp.sufB _ _ _ h).trans (List.suffix_cons x r)
  cases h
 loc:=fun A R b h C hc=>by
  unfold qB at h ⊢;split at h
  ·rename_i ht
   cases A with
   |nil=>
    obtain ⟨x,r,rfl⟩:=lH ht;have:=pU (hp.suf _ _ _ h)
    simp at this
    omega
   |cons x A=>
    rw [if_pos (show isT k t (x::A++C)=true from ht)];exact hp.loc A R b h C hc
  rename_i ht
  injection h with h1 h2
  have:A=[]:=by
   have:=congrArg List.length h2;rw [List.length_append] at this;exact List.eq_nil_of_length_eq_zero (by omega)
  subst this;subst h1;rw [if_neg (by rw [List.nil_append,bBO (Bool.eq_false_iff.2 ht) hc];exact Bool.false_ne_true)];rfl
 bad:=fun A R e h=>by
  unfold qB at h ⊢;split at h
  ·rename_i ht
   cases A with
   |nil=>
    obtain ⟨x,r,rfl⟩:=lH ht;have:=pU (hp.sufB _ _ _ h)
    simp at this
    omega
   |cons x A=>
    rw [if_pos (show isT k t (x::A)=true from ht)];exact hp.bad A R e h
  cases h
theorem kW {α:Type} {k:Int} {t:ByteArray} {p:P α} (hp:nZ p):∀m,nZ (jC k t p m)
 |0=>{
  suf:=fun r b r' h=>by
   simp only [jC] at h;split at h
   ·cases h
   cases h;exact List.suffix_refl _
  sufB:=fun r r' e h=>by
   simp only [jC] at h;split at h
   ·cases h;exact List.suffix_refl _
   cases h
  loc:=fun A R b h C hc=>by
   simp only [jC] at h ⊢;split at h
   ·cases h
   rename_i ht
   injection h with h1 h2
   have:A=[]:=by
    have:=congrArg List.length h2;rw [List.length_append] at this;exact List.eq_nil_of_length_eq_zero (by omega)
   subst this;subst h1;rw [if_neg (by rw [List.nil_append,bBO (Bool.eq_false_iff.2 ht) hc];exact Bool.false_ne_true)];rfl
  bad:=fun A R e h=>by
   simp only [jC] at h ⊢;split at h
   ·injection h with h1 _
    have:A=[]:=by
     have:=congrArg List.length h1;rw [List.length_append] at this;exact List.eq_nil_of_length_eq_zero (by omega)
    subst this;exact .inr ⟨[],rfl⟩
   cases h}
 |m+1=>tZ (kA hp fun x=>kA (kW hp m) fun l=>oX _)

structure Gce {α:Type} (p:P α):Prop where
 g:nZ p
 c:fG p
 e:aHE p
section
variable {α β:Type} {p:P α} {f:α->P β}
theorem gG:Gce fK:=⟨iZ.1,iZ.2.1,iZ.2.2⟩
theorem uE:Gce rC:=⟨wT.1,wT.2.1,wT.2.2⟩
theorem dL (k:Int) (t:ByteArray):Gce (skip k t):=⟨(cL k t).1,(cL k t).2.1,(cL k t).2.2⟩
theorem aW (hp:nZ p) (hf:∀a,Gce (f a)):Gce (bnd p f):=⟨kA hp fun a=>(hf a).g,aJJ hp (fun a=>(hf a).g) (fun a=>(hf a).e) fun a=>(hf a).c,aQJ hp fun a=>(hf a).e⟩
theorem eH {g:α->β} (hp:Gce p):Gce (bnd p fun a=>pur (g a)):=⟨kA hp.g fun _=>oX _,aNV hp.g (fun _=>oX _) hp.c fun _=>aQQ _,aXQ hp.e fun _=>oX _⟩
end
theorem nA:Gce nQ:=aW uE.g fun _=>aW (dL _ _).g fun _=>eH uE
theorem aFW {α:Type} {p:P α} (hp:nZ p) (m:Nat):nZ (sepP p m):=kA hp fun _=>kA (kW hp _) fun _=>oX _
theorem aYS:Gce qS:=aW gG.g fun _=>aW (tZ (kA nA.g fun _=>kA gG.g fun _=>oX _)) fun _=>eH (dL _ _)
theorem aZL:Gce nN:=aW gG.g fun _=>aW (dL _ _).g fun _=>aW gG.g fun _=>aW (dL _ _).g fun _=>aW nA.g fun _=>aW (tZ uE.g) fun _=>eH (dL _ _)
theorem aUZ:Gce tF:=aW gG.g fun _=>eH (dL _ _)
theorem mach_g:Gce machP:=aW gG.g fun _=>aW (dL _ _).g fun _=>aW gG.g fun _=>aW (dL _ _).g fun _=>aW uE.g fun _=>eH (dL _ _)
theorem optn_g:Gce optnP:=aW gG.g fun _=>aW (dL _ _).g fun _=>aW (aFW gG.g 4) fun _=>aW (dL _ _).g fun _=>eH (dL _ _)
theorem bBB:Gce aUF:=aW gG.g fun _=>aW (dL _ _).g fun _=>eH gG
theorem forb_g:Gce forbP:=aW (aFW bBB.g 6) fun _=>eH (dL _ _)
theorem swap_g:Gce swapP:=aW gG.g fun _=>aW (dL _ _).g fun _=>aW gG.g fun _=>eH (dL _ _)
theorem aTX:Gce outP:=aW nA.g fun _=>aW gG.g fun _=>aW gG.g fun _=>eH (dL _ _)
theorem in_g:Gce inP:=aW (tZ (oX _)) fun _=>eH aTX
theorem run_g:Gce aEZ:=aW gG.g fun _=>aW uE.g fun _=>eH (dL _ _)
theorem rec_g:Gce aDF:=aW gG.g fun _=>aW (dL _ _).g fun _=>aW gG.g fun _=>aW (dL _ _).g fun _=>aW uE.g fun _=>aW (dL _ _).g fun _=>aW uE.g fun _=>
 aW (tZ (aFW bBB.g 6)) fun _=>aW (dL _ _).g fun _=>aW (kW in_g.g 8) fun _=>aW (kW aTX.g 8) fun _=>
 aW (dL _ _).g fun _=>aW nA.g fun _=>aW (dL _ _).g fun _=>aW (dL _ _).g fun _=>aW nA.g fun _=>aW (dL _ _).g fun _=>aW nA.g fun _=>
 aW (dL _ _).g fun _=>aW (dL _ _).g fun _=>aW uE.g fun _=>aW (dL _ _).g fun _=>aW (kW run_g.g 8) fun _=>eH (dL _ _)
theorem uZ {α:Type} {t:ByteArray} {n most:Nat} {p q:P α} (hp:Gce p) (hq:Gce q):Gce (brP t n most p q) where
 g:={
  suf:=fun r b r' h=>by
   unfold brP at h;split at h
   ·rename_i ht
    obtain ⟨x,r,rfl⟩:=lH ht;split at h
    ·cases h
    exact (hp.g.suf _ _ _ h).trans (List.suffix_cons x r)
   exact hq.g.suf _ _ _ h
  sufB:=fun r r' e h=>by
   unfold brP at h;split at h
   ·rename_i ht
    obtain ⟨x,r,rfl⟩:=lH ht;split at h
    ·cases h;exact List.suffix_refl _
    exact (hp.g.sufB _ _ _ h).trans (List.suffix_cons x r)
   exact hq.g.sufB _ _ _ h
  loc:=fun A R b h C hc=>by
   unfold brP at h ⊢;split at h
   ·rename_i ht
    split at h
    ·cases h
    cases A with
    |nil=>
     obtain ⟨x,r,rfl⟩:=lH ht;have:=pU (hp.g.suf _ _ _ h)
     simp at this
     omega
    |cons x A=>
     rw [if_pos (show isT 1 t (x::A++C)=true from ht),if_neg (by assumption)];exact hp.g.loc A R b h C hc
   rename_i ht
   cases A with
   |nil=>
    have:=hq.e _ _ _ h
    simp at this
   |cons x A=>
    rw [if_neg (show ¬isT 1 t (x::A++C)=true from ht)];exact hq.g.loc (x::A) R b h C hc
  bad:=fun A R e h=>by
   unfold brP at h ⊢;split at h
   ·rename_i ht
    cases A with
    |nil=>
     rw [if_neg (show ¬isT 1 t []=true from Bool.false_ne_true)]
     cases h4:q [] with
     |ok b r=>rw [aDO (hq.g.suf _ _ _ h4)];exact .inr ⟨b,rfl⟩
     |bad r e'=>rw [aDO (hq.g.sufB _ _ _ h4)];exact .inl ⟨e',rfl⟩
    |cons x A=>
     rw [if_pos (show isT 1 t (x::A)=true from ht)];split at h
     ·injection h with h1 _
      have:=congrArg List.length h1
      simp at this
      omega
     rw [if_neg (by assumption)];exact hp.g.bad A R e h
   rename_i ht
   cases A with
   |nil=>
    rw [if_neg (show ¬isT 1 t []=true from Bool.false_ne_true)];exact hq.g.bad [] R e h
   |cons x A=>
    rw [if_neg (show ¬isT 1 t (x::A)=true from ht)];exact hq.g.bad (x::A) R e h}
 c:=fun A R b h C=>by
  unfold brP at h ⊢;split at h
  ·rename_i ht
   split at h
   ·cases h
   cases A with
   |nil=>
    obtain ⟨x,r,rfl⟩:=lH ht;have:=pU (hp.g.suf _ _ _ h)
    simp at this
    omega
   |cons x A=>
    rw [if_pos (show isT 1 t (x::A++C)=true from ht),if_neg (by assumption)];exact hp.c A R b h C
  rename_i ht
  cases A with
  |nil=>
   have:=hq.e _ _ _ h
   simp at this
  |cons x A=>
   rw [if_neg (show ¬isT 1 t (x::A++C)=true from ht)];exact hq.c (x::A) R b h C
 e:=fun r b r' h=>by
  unfold brP at h;split at h
  ·rename_i ht
   obtain ⟨x,r,rfl⟩:=lH ht;split at h
   ·cases h
   have:=hp.e _ _ _ h;simp only [List.tail_cons,List.length_cons] at this ⊢;omega
  exact hq.e _ _ _ h
theorem fail_g {α:Type} (e:Nat):Gce (failP (α:=α) e) where
 g:={
  suf:=fun _ _ _ h=>by cases h
  sufB:=fun r r' e h=>by cases h;exact List.suffix_refl _
  loc:=fun _ _ _ h=>by cases h
  bad:=fun A R e' h=>by
   have h:(Rs.bad (A++R) e:Rs α)=.bad R e':=h;injection h with h1 _
   have:A=[]:=by
    have:=congrArg List.length h1;rw [List.length_append] at this;exact List.eq_nil_of_length_eq_zero (by omega)
   subst this;exact .inl ⟨_,rfl⟩}
 c:=fun _ _ _ h=>by cases h
 e:=fun _ _ _ h=>by cases h
theorem def_g (s:aG):Gce (mX s):=uZ (eH aYS)<|uZ (eH aZL)<|uZ (eH aUZ)<|uZ (eH mach_g)<|uZ (eH optn_g)<|uZ (eH forb_g)<|uZ (eH rec_g)<|uZ (eH swap_g)<|fail_g 100
/-! all definitions -/
theorem aID:∀(n m:Nat) (s:aG) (r:List Tok),r.length<n->r.length<m->aFB n s r=aFB m s r
 |0,_,_,_,h,_=>absurd h (Nat.not_lt_zero _)
 |_+1,0,_,_,_,h=>absurd h (Nat.not_lt_zero _)
 |n+1,m+1,s,r,hn,hm=>by
  simp only [aFB];split
  ·rfl
  cases hd:mX s r with
  |ok t r1=>
   rw [aJ hd,aJ hd];have:=(def_g s).e _ _ _ hd;exact aID n m t r1 (by omega) (by omega)
  |bad r1 e=>rw [aV hd,aV hd]
end Go.SynM

namespace Go.SynM
open Go Go.Fw Go.RatM Go.SrcM
open Go.Proofs.YthjedpdedjhndaaGreatDoor (Tok)
def tw (l:List UInt8):Tok:=⟨1,0,B l,0⟩
def tm (x:ByteArray):Tok:=⟨1,0,x,0⟩
def ts (c:UInt8):Tok:=⟨3,0,B [c],0⟩
def tn (n:Int):Tok:=⟨2,0,e0,n⟩
/-! the parts as tokens -/
end Go.SynM
namespace Go.SrcM
open Go Go.Fw Go.RatM Go.SynM
/-! without numbers of names -/
def unU (u:Un):Un:=⟨u.name,u.of_,u.n,u.d,0,zr⟩
def It.un0 (i:It):It:={i with un:=0}
def Mc.un (m:Mc):Mc:={m with pn:=0}
def OpV.un (o:OpV):OpV:=⟨o.name,hd0,o.ch⟩
def Cd.un (c:Cd):Cd:=⟨c.opt,c.ch,0,0⟩
def FbV.un (f:FbV):FbV:=⟨hd0,f.cs.map Cd.un⟩
def Am.un0 (a:Am):Am:=⟨a.n,a.d,a.unit,a.item,a.back,0,0⟩
def Rn.un (x:Rn):Rn:=⟨x.mach,x.slots,0⟩
def Sw.un (x:Sw):Sw:=⟨x.a,x.b,0,0⟩
def RcV.un (r:RcV):RcV:=⟨r.item,r.plant,r.fr,r.to,hd0,r.cs.map Cd.un,hd0,r.inn.map Am.un0,hd0,r.out.map Am.un0,r.rwN,r.rwD,r.yN,r.yD,r.tN,r.tD,r.lead,hd0,r.runs.map Rn.un,0,0⟩
def aG.un (s:aG):aG:=⟨s.units.map unU,s.items.map It.un0,s.plants,s.machines.map Mc.un,s.options.map OpV.un,s.forbids.map FbV.un,s.recipes.map RcV.un,s.swaps.map Sw.un⟩
/-! what can be printed -/
abbrev okV (n:Int):Prop:=0<=n/\n<=1048576
end Go.SrcM
namespace Go.SynM
open Go Go.Fw Go.RatM Go.SrcM
open Go.Proofs.YthjedpdedjhndaaGreatDoor (Tok)
end Go.SynM

namespace Go.SynM
open Go Go.Fw Go.RatM Go.SrcM
open Go.Proofs.YthjedpdedjhndaaGreatDoor (Tok)
section
variable {N:ByteArray->Prop} {r:List Tok}
/-! the definitions -/
def gP (s:aG) (x:ByteArray):aG:={s with plants:=s.plants++[x]}
def gM (s:aG) (x:Mc):aG:={s with machines:=s.machines++[x.un]}
def gF (s:aG) (x:FbV):aG:={s with forbids:=s.forbids++[x.un]}
theorem tS:∀(l:List Mc) (s:aG),l.foldl gM s = {s with machines:=s.machines++l.map Mc.un}
 | [],s=>by simp
 |x::l,s=>by rw [List.foldl_cons,tS l];simp [gM]
end

section
variable {N:ByteArray->Prop}
/-! the parts -/
/-! the definitions -/
theorem bAR {α:Type} {Q:α->Prop} {l:List α} {x:α} (h:∀y∈l,Q y) (hx:Q x):∀y∈l++[x],Q y:=fun y hy=>(List.mem_append.1 hy).elim (h y) fun hy=>by rw [List.mem_singleton.1 hy];exact hx
end

def er (t:Tok):Tok:={t with pos:=0}
/-! errors -/
/-! sources behind sources -/
def bCC (s t:aG):aG:=⟨s.units++t.units,s.items++t.items,s.plants++t.plants,s.machines++t.machines,s.options++t.options,s.forbids++t.forbids,s.recipes++t.recipes,s.swaps++t.swaps⟩
structure Mor (s t:aG):Prop where
 U:s.units.length<=t.units.length
 I:s.items.length<=t.items.length
 P:s.plants.length<=t.plants.length
 M:s.machines.length<=t.machines.length
 O:s.options.length<=t.options.length
 F:s.forbids.length<=t.forbids.length
 R:s.recipes.length<=t.recipes.length
 S:s.swaps.length<=t.swaps.length
theorem Mor.trans {s t u:aG} (a:Mor s t) (b:Mor t u):Mor s u:=⟨Nat.le_trans a.U b.U,Nat.le_trans a.I b.I,Nat.le_trans a.P b.P,Nat.le_trans a.M b.M,Nat.le_trans a.O b.O,Nat.le_trans a.F b.F,Nat.le_trans a.R b.R,Nat.le_trans a.S b.S⟩

section
variable {N:ByteArray->Prop}
/-! the tokens do not show numbers of names, nor where lists lie -/
end
/-! the tokens are valid -/
section
variable {N:ByteArray->Prop}
structure VT (N:ByteArray->Prop) (S:UInt8->Prop) (t:Tok):Prop where
 or:(∃x,t=tm x/\N x)\/(∃c,t=ts c/\S c) \/ ∃n,t=tn n/\okV n
variable {S:UInt8->Prop}
theorem vs {c:UInt8} (h:S c):VT N S (ts c):=⟨.inr (.inl ⟨c,rfl,h⟩)⟩
end

inductive Pt where
 |w (l:List UInt8)
 |s (x:ByteArray)
 |n (i:Int)
section
variable (N:ByteArray->Prop) [DecidablePred N]
def Pt.ok:Pt->Bool
 | .w _=>true
 | .s x=>decide (N x)
 | .n i=>decide (okV i)
end
structure Pr where
 l:List Pt
 ok:Bool
def Pr.nil:Pr:=⟨[],true⟩
abbrev wS (c:UInt8):Pt:=.w [c]
section
variable {N:ByteArray->Prop} [DecidablePred N]
/-! the tokens are those of srcT -/
structure aDJ (N:ByteArray->Prop):Prop where
 w:∀l ∈ [tM,tK,nJ,gJ,jS,jR,tO,rA,wIn,aUD,pY,wAt,bBK,wFor,bGE,aUJ,wTo,wIf,wOut,aDW,aKZ,aEB,aTE,wRun],N (B l)
 s:∀c∈([61,47,59,123,125,44]:List UInt8),¬N (B [c])
end
end Go.SynM

namespace Go.SynM
open Go Go.Fw Go.RatM Go.SrcM
open Go.Proofs.YthjedpdedjhndaaGreatDoor (Tok)
abbrev ix (L r:List Tok):Int:=((L.length - r.length:Nat):Int)
section
variable {L r:List Tok} {x:Tok}
theorem eK (h:x::r <:+ L):r <:+ L:=(List.suffix_cons x r).trans h
theorem sU (h:x::r <:+ L):ix L (x::r)+1=ix L r:=by
 have:=pU h;simp only [List.length_cons] at this;show ((L.length - (r.length+1):Nat):Int)+1=((L.length - r.length:Nat):Int);omega
theorem vH (h:x::r <:+ L):0<=ix L (x::r)/\ix L (x::r)<L.length:=by
 have:=pU h;simp only [List.length_cons] at this;show (0:Int)<=((L.length - (r.length+1):Nat):Int)/\((L.length - (r.length+1):Nat):Int)<L.length;omega
theorem aFM:ix L []=L.length:=by
 show ((L.length - 0:Nat):Int)=_;rw [Nat.sub_zero]
theorem drop_ix (h:r <:+ L):L.drop (L.length - r.length)=r:=by
 obtain ⟨a,rfl⟩:=h;rw [List.length_append,Nat.add_sub_cancel,List.drop_left]
theorem tA (h:x::r <:+ L):(L.map Tok.row)[(ix L (x::r)).toNat]? = some x.row:=by
 have e:(ix L (x::r)).toNat=L.length - (x::r).length:=Int.toNat_natCast _;have:=drop_ix h;rw [e,List.getElem?_map,<-List.head?_drop,this];rfl
end
def isA (t:ByteArray):List Tok->Bool
 | []=>false
 |x::_=>decide (x.kind≠2/\x.text=t)
def xF (t:ByteArray):P Unit:=fun r=>if isA t r then .ok () r.tail else .bad r 100
theorem oT {t:ByteArray} {r:List Tok} (h:isA t r=true):∃x r',r=x::r':=by
 cases r with
 |nil=>cases h
 |cons x r=>exact ⟨x,r,rfl⟩
def mZ:List ByteArray->P Unit
 | []=>pur ()
 |t::l=>bnd (xF t) fun _=>mZ l
end Go.SynM
namespace Go.Proofs.YthjedpdedjhndaaGreatDoor
open Go Go.Fw Go.NatM Go.RatM Go.SrcM Go.SynM
abbrev psB (src:ByteArray) (i:Int):Nat×Fw.Blk:=(0,.cells 152 [.v (.string src),.buf 1,nV i,.buf 2,.buf 3,.buf 4,.buf 5,.buf 6,.buf 7,.buf 8,.buf 9])
abbrev tkB (L:List Tok):Nat×Fw.Blk:=(1,.own 158 4 (L.map Tok.row))
def aEY (q:Int×Nat):List PanicEntry:=[{v:=.iface 148 (.agg #[.int .i64 q.1,.int .i64 (q.2:Int)]),recovered:=false}]
def outP {α:Type} (src:ByteArray) (L:List Tok) (f:α->SV) (n:Nat:=10):Rs α->eR
 | .ok a r=>.ret (f a) n [psB src (ix L r),tkB L]
 | .bad r e=>.pan (aEY (pV src.size e r)) n [psB src (ix L r),tkB L]
section
variable (src:ByteArray) (L r:List Tok) (hr:r <:+ L)
include hr
theorem oJ (e:Nat):FnS Tryz.prog 91 10 [.ptr 0 0,nV (e:Int)] [psB src (ix L r),tkB L] (fun _:Unit=>True) (fun _=>.pan (aEY (pV src.size e r)) 10 [psB src (ix L r),tkB L]):=by
 have lm:(L.map Tok.row).length=L.length:=List.length_map _;refine zS Tryz.func91 Tryz.ntmps91 fun E0 F h w0 cs=>?_;refine zH (fls 0 10 .done) ?_;refine squ ?_
 cases r with
 |nil=>
  have e1:ix L []=L.length:=aFM;refine ⟨fun h1=>?_,fun h1=>?_⟩<;>conv=>whnf
  ·try refine gR ?_
   refine sqv ?_;refine aA.panicX (v:=.agg #[.int .i64 src.size,.int .i64 100]) ?_ (fun _=>rfl);exact zV Tryz.func91 (()) (trivial)
  exact absurd (by rw [e1,lm]) h1
 |cons x r=>
  have h2:=vH hr;refine ⟨fun h1=>?_,fun h1=>?_⟩<;>conv=>whnf
  ·omega
  refine sqr ?_;refine sqs ?_;refine zH (fls 0 14 (.e1 14 [] .done)) ?_;refine bFN ?_;conv=>whnf
  refine ⟨_,tA hr,?_⟩;conv=>whnf
  refine aK.panicX (v:=.agg #[.int .i64 x.pos,.int .i64 (e:Int)]) ?_ (fun _=>rfl);exact zV Tryz.func91 (()) (trivial)
theorem uX (t:ByteArray):FnS Tryz.prog 247 10 [.ptr 0 0,.v (.string t)] [psB src (ix L r),tkB L] (fun _:Unit=>True) (fun _=>.ret (.v (.bool (isA t r))) 10 [psB src (ix L r),tkB L]):=by
 have lm:(L.map Tok.row).length=L.length:=List.length_map _;refine zS Tryz.func247 Tryz.ntmps247 fun E0 F h w0 cs=>?_;refine zH (fls 0 40 .done) ?_;refine squ ?_
 cases r with
 |nil=>
  have e1:ix L []=L.length:=aFM;refine And.intro (fun hp=>absurd hp ((by rw [e1,lm];omega))) (fun _=>?_);refine sqv ?_;exact zI Tryz.func247 () trivial
 |cons x r=>
  have h2:=vH hr;refine And.intro (fun _=>?_) (fun hn=>absurd ((by rw [lm];exact h2.2)) hn);refine sqwB ?_;conv=>whnf
  refine ⟨_,tA hr,?_⟩;conv=>whnf
  refine ⟨fun hk=>?_,fun hk=>?_⟩<;>conv=>whnf
  ·try refine gR ?_
   refine sqv ?_;exact zU (aB.ret tab Tryz.func247 rfl (aT.mk (()) (trivial) [] sH rfl rfl (bH rfl (congrArg (fun b=>SV.v (Value.bool b)) ((decide_eq_false fun h=>h.1 hk).symm)))))
  refine fA ?_;conv=>whnf
  refine ⟨_,tA hr,?_⟩;refine sqv ?_;refine sqs ?_;exact zU (aB.ret tab Tryz.func247 rfl (aT.mk (()) (trivial) [] sH rfl rfl (bH rfl (congrArg (fun b=>SV.v (Value.bool b)) ((decide_eq_decide.2 ⟨fun h=>⟨hk,h⟩,fun h=>h.2⟩:decide (x.text=t)=decide (x.kind≠2/\x.text=t)))))))
theorem kF (hL:L.length<=65536):FnS Tryz.prog 246 10 [.ptr 0 0] [psB src (ix L r),tkB L] (fun x:Rs ByteArray=>x=fK r) (outP src L fun a=>.v (.string a)):=by
 have lm:(L.map Tok.row).length=L.length:=List.length_map _;refine zS Tryz.func246 Tryz.ntmps246 fun E0 F h w0 cs=>?_;refine zH (fls 0 24 .done) ?_;refine squ ?_
 cases r with
 |nil=>
  have e1:ix L []=L.length:=aFM;refine And.intro (fun _=>?_) (fun hn=>absurd ((by rw [e1,lm])) hn);refine sqv ?_;refine zN (oJ src L [] hr 100) [0,1,2,3,4,5,6,7,8,9] ?_;exact zV Tryz.func246 ((Rs.bad [] 100:Rs ByteArray)) ((by rfl))
 |cons x r=>
  have h2:=vH hr;refine And.intro (fun hp=>absurd hp ((by rw [lm];omega))) (fun _=>?_);refine sqwB ?_;conv=>whnf
  refine ⟨_,tA hr,?_⟩;conv=>whnf
  refine ⟨fun hk=>?_,fun hk=>?_⟩<;>conv=>whnf
  ·try refine gR ?_
   refine bGF ?_;refine zH (fls 0 13 .done) ?_;refine bFN ?_;conv=>whnf
   refine ⟨_,(by rw [Int.add_sub_cancel];exact tA hr),?_⟩;refine sqv ?_;rw [sU hr];refine sqv ?_;exact zI Tryz.func246 ((Rs.ok x.text r)) ((by simp only [fK,if_pos hk]))
  refine sqr ?_;refine sqs ?_;refine zN (oJ src L (x::r) hr 100) [0,1,2,3,4,5,6,7,8,9] ?_;exact zV Tryz.func246 ((Rs.bad (x::r) 100:Rs ByteArray)) ((by simp only [fK,if_neg hk]))
theorem kP (hL:L.length<=65536):FnS Tryz.prog 250 10 [.ptr 0 0] [psB src (ix L r),tkB L] (fun x:Rs Int=>x=rC r) (outP src L fun a=>nV a):=by
 have lm:(L.map Tok.row).length=L.length:=List.length_map _;refine zS Tryz.func250 Tryz.ntmps250 fun E0 F h w0 cs=>?_;refine zH (fls 0 38 .done) ?_;refine squ ?_
 cases r with
 |nil=>
  have e1:ix L []=L.length:=aFM;refine And.intro (fun _=>?_) (fun hn=>absurd ((by rw [e1,lm])) hn);refine sqv ?_;refine zN (oJ src L [] hr 100) [0,1,2,3,4,5,6,7,8,9] ?_;exact zV Tryz.func250 ((Rs.bad [] 100:Rs Int)) ((by rfl))
 |cons x r=>
  have h2:=vH hr;refine And.intro (fun hp=>absurd hp ((by rw [lm];omega))) (fun _=>?_);refine sqwB ?_;conv=>whnf
  refine ⟨_,tA hr,?_⟩;conv=>whnf
  refine ⟨fun hk=>?_,fun hk=>?_⟩<;>conv=>whnf
  ·try refine gR ?_
   refine sqwB ?_;conv=>whnf
   refine ⟨_,tA hr,?_⟩;conv=>whnf
   refine ⟨fun hn=>?_,fun hn=>?_⟩<;>conv=>whnf
   ·try refine gR ?_
    refine sqv ?_;refine zN (oJ src L (x::r) hr 100) [0,1,2,3,4,5,6,7,8,9] ?_;exact zV Tryz.func250 ((Rs.bad (x::r) 100:Rs Int)) ((by simp only [rC];rw [if_neg fun h=>by have:=h.2;omega]))
   refine sqr ?_;refine bZ ?_;refine zH (fls 0 13 .done) ?_;refine bFN ?_;conv=>whnf
   refine ⟨_,(by rw [Int.add_sub_cancel];exact tA hr),?_⟩;refine sqv ?_;rw [sU hr];refine sqv ?_;exact zI Tryz.func250 ((Rs.ok x.n r)) ((by simp only [rC];rw [if_pos ⟨hk,by omega⟩]))
  refine sqr ?_;refine sqs ?_;refine zN (oJ src L (x::r) hr 100) [0,1,2,3,4,5,6,7,8,9] ?_;exact zV Tryz.func250 ((Rs.bad (x::r) 100:Rs Int)) ((by simp only [rC];rw [if_neg fun h=>hk h.1]))
theorem jI (hL:L.length<=65536) (n m:Int) (hne:r ≠ []):FnS Tryz.prog 245 10 [.ptr 0 0,nV n,nV m] [psB src (ix L r),tkB L] (fun x:Rs Unit=>x=if m<=n then .bad r 2 else .ok () r.tail) (outP src L fun _=>.tup []):=by
 refine zS Tryz.func245 Tryz.ntmps245 fun E0 F h w0 cs=>?_;obtain ⟨x,r,rfl⟩:∃x r',r=x::r':=by cases r with|nil=>exact absurd rfl hne|cons x r=>exact ⟨x,r,rfl⟩
 have h2:=vH hr;refine ⟨fun hk=>?_,fun hk=>?_⟩<;>conv=>whnf
 ·try refine gS ?_
  conv=>whnf
  refine zN (oJ src L (x::r) hr 2) [0,1,2,3,4,5,6,7,8,9] ?_;exact zV Tryz.func245 ((Rs.bad (x::r) 2:Rs Unit)) ((by rw [if_pos (by omega)]))
 refine bZ ?_;rw [sU hr];exact zI Tryz.func245 ((Rs.ok () r:Rs Unit)) ((by rw [if_neg (by omega)];rfl))
end
end Go.Proofs.YthjedpdedjhndaaGreatDoor

namespace Go.SynM
open Go Go.Fw Go.RatM Go.SrcM
open Go.Proofs.YthjedpdedjhndaaGreatDoor (Tok)
structure KL (N:ByteArray->Prop) (L:List Tok):Prop where
 k:∀x∈L,(x.kind=1/\N x.text)\/(x.kind=2/\0<=x.n)\/(x.kind=3 /\ ¬N x.text)
section
variable {N:ByteArray->Prop} {L r:List Tok} (K:KL N L) (hr:r <:+ L)
include K hr
theorem tR {t:ByteArray} (h:N t):isA t r=isT 1 t r:=by
 cases r with
 |nil=>rfl
 |cons x r=>
  show decide _=decide _;rw [decide_eq_decide];rcases K.k x (hr.subset (List.mem_cons_self ..)) with h1|h1|h1
  ·exact ⟨fun h2=>⟨h1.1,h2.2⟩,fun h2=>⟨by omega,h2.2⟩⟩
  ·exact ⟨fun h2=>absurd h1.1 h2.1,fun h2=>by omega⟩
  exact ⟨fun h2=>absurd (h2.2▸h) h1.2,fun h2=>by omega⟩
theorem isA_s {t:ByteArray} (h:¬N t):isA t r=isT 3 t r:=by
 cases r with
 |nil=>rfl
 |cons x r=>
  show decide _=decide _;rw [decide_eq_decide];rcases K.k x (hr.subset (List.mem_cons_self ..)) with h1|h1|h1
  ·exact ⟨fun h2=>absurd (h2.2▸h1.2) h,fun h2=>by omega⟩
  ·exact ⟨fun h2=>absurd h1.1 h2.1,fun h2=>by omega⟩
  exact ⟨fun h2=>⟨h1.1,h2.2⟩,fun h2=>⟨by omega,h2.2⟩⟩
theorem skipA_w {t:ByteArray} (h:N t):xF t r=skip 1 t r:=by unfold xF skip;rw [tR K hr h]
theorem aTH {t:ByteArray} (h:¬N t):xF t r=skip 3 t r:=by unfold xF skip;rw [isA_s K hr h]
theorem pL {t:ByteArray} (h:N t):mZ [t] r=skip 1 t r:=by
 rw [<-skipA_w K hr h];simp only [mZ,bnd,pur];cases xF t r<;>rfl
theorem lV {t:ByteArray} (h:¬N t):mZ [t] r=skip 3 t r:=by
 rw [<-aTH K hr h];simp only [mZ,bnd,pur];cases xF t r<;>rfl
end
end Go.SynM
namespace Go.Proofs.YthjedpdedjhndaaGreatDoor
open Go Go.Fw Go.NatM Go.RatM Go.SrcM Go.SynM
section
variable (src:ByteArray) (L r:List Tok) (hr:r <:+ L) (hL:L.length<=65536)
include hr hL
theorem cE (ts:List ByteArray) (h2:ts.length<=2):FnS Tryz.prog 249 11 [.ptr 0 0,.buf 10] [psB src (ix L r),tkB L,(10,.own 9 1 (bV ts))] (fun x:Rs Unit=>x=mZ ts r) (outP src L (fun _=>.tup []) 11):=by
 have lt:=cK ts;refine zS Tryz.func249 Tryz.ntmps249 fun E0 F h w0 cs=>?_;refine zL (fun (⟨i,q⟩:Nat×List Tok)=>[(0,.ptr 0 0),(6,.buf 10),(7,nV ((bV ts).length)),(8,nV i)]) (fun ⟨i,q⟩=>[psB src (ix L q),tkB L,(10,.own 9 1 (bV ts))]) 11 (fun ⟨i,q⟩=>(i<=ts.length/\q <:+ L)/\mZ ts r=mZ (ts.drop i) q) (fun ⟨i,q⟩=>ts.length - i) ((0,r)) (⟨⟨Nat.zero_le _,hr⟩,rfl⟩) ?_;rintro ⟨i,q⟩ hJ back;try dsimp only at hJ back
 conv=>whnf
 try dsimp only
 refine gS ?_;conv=>whnf
 obtain ⟨⟨hi,hq⟩,hJ⟩:=hJ;refine ⟨fun hk=>?_,fun hk=>?_⟩<;>conv=>whnf
 ·have hk:i<ts.length:=by omega
  refine dB ?_;refine ⟨_,bA hk,?_⟩;conv=>whnf
  refine zN (uX src L q hq ts[i]) [0,1,2,3,4,5,6,7,8,9] ?_;refine sqs ?_;have hd:ts.drop i=ts[i]::ts.drop (i+1):=List.drop_eq_getElem_cons hk
  cases hA:isA ts[i] q with
  |false=>
   refine sqs ?_;refine zN (oJ src L q hq 100) [0,1,2,3,4,5,6,7,8,9] ?_;exact zV Tryz.func249 ((Rs.bad q 100:Rs Unit)) ((by rw [hJ,hd];simp only [mZ,bnd,xF,hA];rfl))
  |true=>
   obtain ⟨x,q',rfl⟩:=oT hA;have h3:=vH hq;refine dB ?_;rw [sU hq];exact zb (back ((i+1,q')) ((⟨⟨hk,eK hq⟩,by rw [hJ,hd];simp only [mZ,bnd,xF,hA];rfl⟩)) (by (try dsimp only);omega))
 refine sqs ?_;have e:ts.drop i=[]:=List.drop_eq_nil_of_le (by omega);exact zI Tryz.func249 ((Rs.ok () q:Rs Unit)) ((by rw [hJ,e];rfl))
variable {N:ByteArray->Prop} (K:KL N L) (V:aDJ N)
include K V
theorem rG:FnS Tryz.prog 248 10 [.ptr 0 0] [psB src (ix L r),tkB L] (fun x:Rs (Int×Int)=>x=nQ r) (outP src L fun q=>.tup [nV q.1,nV q.2]):=by
 refine zS Tryz.func248 Tryz.ntmps248 fun E0 F h w0 cs=>?_;refine aA.callN (kP src L r hr hL) [0,1,2,3,4,5,6,7,8,9] ?_ sH ?CNa5;case CNa5=>rfl
 rintro (⟨n,r1⟩|⟨r1,e1⟩) h1<;>conv=>whnf
 rotate_left
 ·try refine aA.panicU ?_
  exact zV Tryz.func248 ((Rs.bad r1 e1:Rs (Int×Int))) ((by unfold nQ;rw [aV h1.symm]))
 have s1:=(wT.1.suf _ _ _ h1.symm).trans hr;refine zQ 10 [(5,nV n),(0,.ptr 0 0)] [psB src (ix L r1),tkB L] ?_;refine sqs ?_;refine aA.callN (cE src L r1 s1 hL [B [47]] (by decide)) [0,1,2,3,4,5,6,7,8,9,10] ?_ sH ?CNa6;case CNa6=>rfl
 rintro (⟨_,r2⟩|⟨r2,e2⟩) h2<;>conv=>whnf
 all_goals rw [lV K s1 (V.s 47 (by decide))] at h2
 rotate_left
 ·try refine aA.panicU ?_
  exact zV Tryz.func248 ((Rs.bad r2 e2:Rs (Int×Int))) ((by unfold nQ;rw [aJ h1.symm,aV h2.symm]))
 have s2:=((cL _ _).1.suf _ _ _ h2.symm).trans s1;refine zQ 10 [(2,nV n),(0,.ptr 0 0)] [psB src (ix L r2),tkB L] ?_;refine sqs ?_;refine aA.callN (kP src L r2 s2 hL) [0,1,2,3,4,5,6,7,8,9] ?_ sH ?CNa7;case CNa7=>rfl
 rintro (⟨d,r3⟩|⟨r3,e3⟩) h3<;>conv=>whnf
 rotate_left
 ·try refine aA.panicU ?_
  exact zV Tryz.func248 ((Rs.bad r3 e3:Rs (Int×Int))) ((by unfold nQ;rw [aJ h1.symm,aJ h2.symm,aV h3.symm]))
 refine zQ 10 [(9,nV n),(11,nV d),(0,.ptr 0 0)] [psB src (ix L r3),tkB L] ?_;refine sqs ?_;exact zI Tryz.func248 ((Rs.ok (n,d) r3:Rs (Int×Int))) ((by unfold nQ;rw [aJ h1.symm,aJ h2.symm,aJ h3.symm];rfl))
end
end Go.Proofs.YthjedpdedjhndaaGreatDoor

namespace Go.Proofs.YthjedpdedjhndaaGreatDoor
open Go Go.Fw Go.NatM Go.RatM Go.SrcM Go.SynM
section
variable (src:ByteArray) (L r:List Tok) (hr:r <:+ L) (hL:L.length<=65536) {N:ByteArray->Prop} (K:KL N L) (V:aDJ N)
include hr hL K V
theorem prun_fn:FnS Tryz.prog 258 10 [.ptr 0 0] [psB src (ix L r),tkB L] (fun x:Rs Rn=>x=aEZ r) (outP src L (fun x=>.agg (toV x.row)) 11):=by
 refine zS Tryz.func258 Tryz.ntmps258 fun E0 F h w0 cs=>?_;refine aA.callN (kF src L r hr hL) [0,1,2,3,4,5,6,7,8,9] ?_ sH ?CNa14;case CNa14=>rfl
 rintro (⟨a1,r1⟩|⟨r1,e1⟩) h1<;>conv=>whnf
 rotate_left
 ·try refine aA.panicU ?_
  exact zV Tryz.func258 ((Rs.bad r1 e1:Rs Rn)) ((by unfold aEZ;rw [aV h1.symm]))
 have s1:=(iZ.1.suf _ _ _ h1.symm).trans hr;refine zQ 11 [(4,.v (.string a1)),(0,.ptr 0 0),(2,.ptr 10 0)] [psB src (ix L r1),tkB L,(10,.cells 272 [.v (.string ⟨#[]⟩),nV 0,nV 0])] ?_;refine sqs ?_;refine aA.callN (kP src L r1 s1 hL) [0,1,2,3,4,5,6,7,8,9] ?_ sH ?CNa15;case CNa15=>rfl
 rintro (⟨a2,r2⟩|⟨r2,e2⟩) h2<;>conv=>whnf
 rotate_left
 ·try refine aA.panicU ?_
  exact zV Tryz.func258 ((Rs.bad r2 e2:Rs Rn)) ((by unfold aEZ;rw [aJ h1.symm,aV h2.symm]))
 have s2:=(wT.1.suf _ _ _ h2.symm).trans s1;refine zQ 11 [(7,nV a2),(0,.ptr 0 0),(2,.ptr 10 0)] [psB src (ix L r2),tkB L,(10,.cells 272 [.v (.string a1),nV 0,nV 0])] ?_;refine sqs ?_;refine aA.callN (cE src L r2 s2 hL [B [59]] (by decide)) [0,1,2,3,4,5,6,7,8,9,11] ?_ sH ?CNa16;case CNa16=>rfl
 rintro (⟨_,r3⟩|⟨r3,e3⟩) h3<;>conv=>whnf
 all_goals rw [lV K s2 (V.s 59 (by decide))] at h3
 rotate_left
 ·try refine aA.panicU ?_
  exact zV Tryz.func258 ((Rs.bad r3 e3:Rs Rn)) ((by unfold aEZ;rw [aJ h1.symm,aJ h2.symm,aV h3.symm]))
 have s3:=((cL _ _).1.suf _ _ _ h3.symm).trans s2;refine zQ 11 [(0,.ptr 0 0),(2,.ptr 10 0)] [psB src (ix L r3),tkB L,(10,.cells 272 [.v (.string a1),nV a2,nV 0])] ?_;refine sqs ?_;exact zI Tryz.func258 ((Rs.ok ⟨a1,a2,0⟩ r3:Rs Rn)) ((by unfold aEZ;rw [aJ h1.symm,aJ h2.symm,aJ h3.symm];rfl))
theorem aJP:FnS Tryz.prog 256 10 [.ptr 0 0] [psB src (ix L r),tkB L] (fun x:Rs Am=>x=SynM.outP r) (outP src L (fun x=>.agg (toV x.row)) 11):=by
 refine zS Tryz.func256 Tryz.ntmps256 fun E0 F h w0 cs=>?_;refine aA.callN (rG src L r hr hL K V) [0,1,2,3,4,5,6,7,8,9] ?_ sH ?CNa17;case CNa17=>rfl
 rintro (⟨⟨a1,b1⟩,r1⟩|⟨r1,e1⟩) h1<;>conv=>whnf
 rotate_left
 ·try refine aA.panicU ?_
  exact zV Tryz.func256 ((Rs.bad r1 e1:Rs Am)) ((by unfold SynM.outP;rw [aV h1.symm]))
 have s1:=(nA.g.suf _ _ _ h1.symm).trans hr;refine zQ 11 [(5,.tup [nV a1,nV b1]),(0,.ptr 0 0),(2,.ptr 10 0)] [psB src (ix L r1),tkB L,(10,.cells 55 [nV 0,nV 0,.v (.string ⟨#[]⟩),.v (.string ⟨#[]⟩),.v (.bool false),nV 0,nV 0])] ?_;refine sqs ?_;refine aA.callN (kF src L r1 s1 hL) [0,1,2,3,4,5,6,7,8,9] ?_ sH ?CNa18;case CNa18=>rfl
 rintro (⟨a2,r2⟩|⟨r2,e2⟩) h2<;>conv=>whnf
 rotate_left
 ·try refine aA.panicU ?_
  exact zV Tryz.func256 ((Rs.bad r2 e2:Rs Am)) ((by unfold SynM.outP;rw [aJ h1.symm,aV h2.symm]))
 have s2:=(iZ.1.suf _ _ _ h2.symm).trans s1;refine zQ 11 [(11,.v (.string a2)),(0,.ptr 0 0),(2,.ptr 10 0)] [psB src (ix L r2),tkB L,(10,.cells 55 [nV a1,nV b1,.v (.string ⟨#[]⟩),.v (.string ⟨#[]⟩),.v (.bool false),nV 0,nV 0])] ?_;refine sqs ?_;refine aA.callN (kF src L r2 s2 hL) [0,1,2,3,4,5,6,7,8,9] ?_ sH ?CNa19;case CNa19=>rfl
 rintro (⟨a3,r3⟩|⟨r3,e3⟩) h3<;>conv=>whnf
 rotate_left
 ·try refine aA.panicU ?_
  exact zV Tryz.func256 ((Rs.bad r3 e3:Rs Am)) ((by unfold SynM.outP;rw [aJ h1.symm,aJ h2.symm,aV h3.symm]))
 have s3:=(iZ.1.suf _ _ _ h3.symm).trans s2;refine zQ 11 [(14,.v (.string a3)),(0,.ptr 0 0),(2,.ptr 10 0)] [psB src (ix L r3),tkB L,(10,.cells 55 [nV a1,nV b1,.v (.string a2),.v (.string ⟨#[]⟩),.v (.bool false),nV 0,nV 0])] ?_;refine sqs ?_;refine aA.callN (cE src L r3 s3 hL [B [59]] (by decide)) [0,1,2,3,4,5,6,7,8,9,11] ?_ sH ?CNa20;case CNa20=>rfl
 rintro (⟨_,r4⟩|⟨r4,e4⟩) h4<;>conv=>whnf
 all_goals rw [lV K s3 (V.s 59 (by decide))] at h4
 rotate_left
 ·try refine aA.panicU ?_
  exact zV Tryz.func256 ((Rs.bad r4 e4:Rs Am)) ((by unfold SynM.outP;rw [aJ h1.symm,aJ h2.symm,aJ h3.symm,aV h4.symm]))
 have s4:=((cL _ _).1.suf _ _ _ h4.symm).trans s3;refine zQ 11 [(0,.ptr 0 0),(2,.ptr 10 0)] [psB src (ix L r4),tkB L,(10,.cells 55 [nV a1,nV b1,.v (.string a2),.v (.string a3),.v (.bool false),nV 0,nV 0])] ?_;refine sqs ?_;exact zI Tryz.func256 ((Rs.ok ⟨a1,b1,a2,a3,false,0,0⟩ r4:Rs Am)) ((by unfold SynM.outP;rw [aJ h1.symm,aJ h2.symm,aJ h3.symm,aJ h4.symm];rfl))
end
end Go.Proofs.YthjedpdedjhndaaGreatDoor

namespace Go.SynM
open Go Go.Fw Go.RatM Go.SrcM
open Go.Proofs.YthjedpdedjhndaaGreatDoor (Tok)
theorem aEA {α:Type} {k:Int} {t:ByteArray} {a:α} {p:P α} {r:List Tok} (h:isT k t r=false):qB k t a p r=.ok a r:=if_neg (by rw [h];exact Bool.false_ne_true)
theorem qV {α:Type} {k:Int} {t:ByteArray} {a:α} {p:P α} {x:Tok} {r:List Tok} {s:Rs α} (h:isT k t (x::r)=true) (hp:p r=s):qB k t a p (x::r)=s:=by rw [<-hp];exact if_pos h
end Go.SynM
namespace Go.Proofs.YthjedpdedjhndaaGreatDoor
open Go Go.Fw Go.NatM Go.RatM Go.SrcM Go.SynM
section
variable (src:ByteArray) (L r:List Tok) (hr:r <:+ L) (hL:L.length<=65536) {N:ByteArray->Prop} (K:KL N L) (V:aDJ N)
include hr hL K V
theorem aXH:FnS Tryz.prog 158 10 [.ptr 0 0] [psB src (ix L r),tkB L] (fun x:Rs ByteArray=>x=tF r) (outP src L (fun x=>.v (.string x)) 11):=by
 refine zS Tryz.func158 Tryz.ntmps158 fun E0 F h w0 cs=>?_;refine aA.callN (kF src L r hr hL) [0,1,2,3,4,5,6,7,8,9] ?_ sH ?CNa1;case CNa1=>rfl
 rintro (⟨a1,r1⟩|⟨r1,e1⟩) h1<;>conv=>whnf
 rotate_left
 ·try refine aA.panicU ?_
  exact zV Tryz.func158 ((Rs.bad r1 e1:Rs ByteArray)) ((by unfold tF;rw [aV h1.symm]))
 have s1:=(iZ.1.suf _ _ _ h1.symm).trans hr;refine zQ 10 [(5,.v (.string a1)),(0,.ptr 0 0)] [psB src (ix L r1),tkB L] ?_;refine sqs ?_;refine aA.callN (cE src L r1 s1 hL [B [59]] (by decide)) [0,1,2,3,4,5,6,7,8,9,10] ?_ sH ?CNa2;case CNa2=>rfl
 rintro (⟨_,r2⟩|⟨r2,e2⟩) h2<;>conv=>whnf
 all_goals rw [lV K s1 (V.s 59 (by decide))] at h2
 rotate_left
 ·try refine aA.panicU ?_
  exact zV Tryz.func158 ((Rs.bad r2 e2:Rs ByteArray)) ((by unfold tF;rw [aJ h1.symm,aV h2.symm]))
 refine sqs ?_;exact zI Tryz.func158 ((Rs.ok a1 r2:Rs ByteArray)) ((by unfold tF;rw [aJ h1.symm,aJ h2.symm];rfl))
theorem aYL:FnS Tryz.prog 155 10 [.ptr 0 0] [psB src (ix L r),tkB L] (fun x:Rs It=>x=nN r) (outP src L (fun x=>.agg (toV x.row)) 11):=by
 refine zS Tryz.func155 Tryz.ntmps155 fun E0 F h w0 cs=>?_;refine aA.callN (kF src L r hr hL) [0,1,2,3,4,5,6,7,8,9] ?_ sH ?CNa3;case CNa3=>rfl
 rintro (⟨a1,r1⟩|⟨r1,e1⟩) h1<;>conv=>whnf
 rotate_left
 ·try refine aA.panicU ?_
  exact zV Tryz.func155 ((Rs.bad r1 e1:Rs It)) ((by unfold nN;rw [aV h1.symm]))
 have s1:=(iZ.1.suf _ _ _ h1.symm).trans hr;refine zQ 11 [(4,.v (.string a1)),(0,.ptr 0 0),(2,.ptr 10 0)] [psB src (ix L r1),tkB L,(10,.cells 85 [.v (.string ⟨#[]⟩),.v (.string ⟨#[]⟩),nV 0,nV 0,nV 0,nV 0])] ?_;refine sqs ?_;refine aA.callN (cE src L r1 s1 hL [B wIn] (by decide)) [0,1,2,3,4,5,6,7,8,9,11] ?_ sH ?CNa4;case CNa4=>rfl
 rintro (⟨_,r2⟩|⟨r2,e2⟩) h2<;>conv=>whnf
 all_goals rw [pL K s1 (V.w wIn (by simp))] at h2
 rotate_left
 ·try refine aA.panicU ?_
  exact zV Tryz.func155 ((Rs.bad r2 e2:Rs It)) ((by unfold nN;rw [aJ h1.symm,aV h2.symm]))
 have s2:=((cL _ _).1.suf _ _ _ h2.symm).trans s1;refine zQ 11 [(0,.ptr 0 0),(2,.ptr 10 0)] [psB src (ix L r2),tkB L,(10,.cells 85 [.v (.string a1),.v (.string ⟨#[]⟩),nV 0,nV 0,nV 0,nV 0])] ?_;refine sqs ?_;refine aA.callN (kF src L r2 s2 hL) [0,1,2,3,4,5,6,7,8,9] ?_ sH ?CNa5;case CNa5=>rfl
 rintro (⟨a3,r3⟩|⟨r3,e3⟩) h3<;>conv=>whnf
 rotate_left
 ·try refine aA.panicU ?_
  exact zV Tryz.func155 ((Rs.bad r3 e3:Rs It)) ((by unfold nN;rw [aJ h1.symm,aJ h2.symm,aV h3.symm]))
 have s3:=(iZ.1.suf _ _ _ h3.symm).trans s2;refine zQ 11 [(10,.v (.string a3)),(0,.ptr 0 0),(2,.ptr 10 0)] [psB src (ix L r3),tkB L,(10,.cells 85 [.v (.string a1),.v (.string ⟨#[]⟩),nV 0,nV 0,nV 0,nV 0])] ?_;refine sqs ?_;refine aA.callN (cE src L r3 s3 hL [B aUD] (by decide)) [0,1,2,3,4,5,6,7,8,9,11] ?_ sH ?CNa6;case CNa6=>rfl
 rintro (⟨_,r4⟩|⟨r4,e4⟩) h4<;>conv=>whnf
 all_goals rw [pL K s3 (V.w aUD (by simp))] at h4
 rotate_left
 ·try refine aA.panicU ?_
  exact zV Tryz.func155 ((Rs.bad r4 e4:Rs It)) ((by unfold nN;rw [aJ h1.symm,aJ h2.symm,aJ h3.symm,aV h4.symm]))
 have s4:=((cL _ _).1.suf _ _ _ h4.symm).trans s3;refine zQ 11 [(0,.ptr 0 0),(2,.ptr 10 0)] [psB src (ix L r4),tkB L,(10,.cells 85 [.v (.string a1),.v (.string a3),nV 0,nV 0,nV 0,nV 0])] ?_;refine sqs ?_;refine aA.callN (rG src L r4 s4 hL K V) [0,1,2,3,4,5,6,7,8,9] ?_ sH ?CNa7;case CNa7=>rfl
 rintro (⟨⟨a5,b5⟩,r5⟩|⟨r5,e5⟩) h5<;>conv=>whnf
 rotate_left
 ·try refine aA.panicU ?_
  exact zV Tryz.func155 ((Rs.bad r5 e5:Rs It)) ((by unfold nN;rw [aJ h1.symm,aJ h2.symm,aJ h3.symm,aJ h4.symm,aV h5.symm]))
 have s5:=(nA.g.suf _ _ _ h5.symm).trans s4;refine zQ 11 [(17,.tup [nV a5,nV b5]),(0,.ptr 0 0),(2,.ptr 10 0)] [psB src (ix L r5),tkB L,(10,.cells 85 [.v (.string a1),.v (.string a3),nV 0,nV 0,nV 0,nV 0])] ?_;refine sqs ?_;refine zN (uX src L r5 s5 (B pY)) [0,1,2,3,4,5,6,7,8,9] ?_;refine sqs ?_
 cases hA:isA (B pY) r5 with
 |false=>
  have b6:qB 1 (B pY) 0 rC r5=.ok 0 r5:=aEA (by rw [<-tR K s5 (V.w pY (by simp)),hA]);refine sqs ?_;refine aA.callN (cE src L r5 s5 hL [B [59]] (by decide)) [0,1,2,3,4,5,6,7,8,9,11] ?_ sH ?CNa9;case CNa9=>rfl
  rintro (⟨_,r7⟩|⟨r7,e7⟩) h7<;>conv=>whnf
  all_goals rw [lV K s5 (V.s 59 (by decide))] at h7
  rotate_left
  ·try refine aA.panicU ?_
   exact zV Tryz.func155 ((Rs.bad r7 e7:Rs It)) ((by unfold nN;rw [aJ h1.symm,aJ h2.symm,aJ h3.symm,aJ h4.symm,aJ h5.symm,aJ b6,aV h7.symm]))
  have s7:=((cL _ _).1.suf _ _ _ h7.symm).trans s5;refine zQ 11 [(0,.ptr 0 0),(2,.ptr 10 0)] [psB src (ix L r7),tkB L,(10,.cells 85 [.v (.string a1),.v (.string a3),nV a5,nV b5,nV 0,nV 0])] ?_;refine sqs ?_;exact zI Tryz.func155 ((Rs.ok ⟨a1,a3,a5,b5,0,0⟩ r7:Rs It)) ((by unfold nN;rw [aJ h1.symm,aJ h2.symm,aJ h3.symm,aJ h4.symm,aJ h5.symm,aJ b6,aJ h7.symm];rfl))
 |true=>
  obtain ⟨x,q,rfl⟩:=oT hA;have hT:isT 1 (B pY) (x::q)=true:=by rw [<-tR K s5 (V.w pY (by simp)),hA]
  have hx5:=vH s5;refine dB ?_;rw [sU s5];refine aA.callN (kP src L q (eK s5) hL) [0,1,2,3,4,5,6,7,8,9] ?_ sH ?CNa10;case CNa10=>rfl
  rintro (⟨a6,r6⟩|⟨r6,e6⟩) h6<;>conv=>whnf
  rotate_left
  ·have b6:qB 1 (B pY) 0 rC (x::q)=.bad r6 e6:=qV hT h6.symm;exact zV Tryz.func155 ((Rs.bad r6 e6:Rs It)) ((by unfold nN;rw [aJ h1.symm,aJ h2.symm,aJ h3.symm,aJ h4.symm,aJ h5.symm,aV b6]))
  have s6:=(wT.1.suf _ _ _ h6.symm).trans (eK s5);have b6:qB 1 (B pY) 0 rC (x::q)=.ok a6 r6:=qV hT h6.symm;refine zQ 11 [(32,nV a6),(0,.ptr 0 0),(2,.ptr 10 0)] [psB src (ix L r6),tkB L,(10,.cells 85 [.v (.string a1),.v (.string a3),nV a5,nV b5,nV 0,nV 0])] ?_;refine sqs ?_;refine aA.callN (cE src L r6 s6 hL [B [59]] (by decide)) [0,1,2,3,4,5,6,7,8,9,11] ?_ sH ?CNa11;case CNa11=>rfl
  rintro (⟨_,r7⟩|⟨r7,e7⟩) h7<;>conv=>whnf
  all_goals rw [lV K s6 (V.s 59 (by decide))] at h7
  rotate_left
  ·try refine aA.panicU ?_
   exact zV Tryz.func155 ((Rs.bad r7 e7:Rs It)) ((by unfold nN;rw [aJ h1.symm,aJ h2.symm,aJ h3.symm,aJ h4.symm,aJ h5.symm,aJ b6,aV h7.symm]))
  have s7:=((cL _ _).1.suf _ _ _ h7.symm).trans s6;refine zQ 11 [(0,.ptr 0 0),(2,.ptr 10 0)] [psB src (ix L r7),tkB L,(10,.cells 85 [.v (.string a1),.v (.string a3),nV a5,nV b5,nV a6,nV 0])] ?_;refine sqs ?_;exact zI Tryz.func155 ((Rs.ok ⟨a1,a3,a5,b5,a6,0⟩ r7:Rs It)) ((by unfold nN;rw [aJ h1.symm,aJ h2.symm,aJ h3.symm,aJ h4.symm,aJ h5.symm,aJ b6,aJ h7.symm];rfl))
theorem bCS:FnS Tryz.prog 152 10 [.ptr 0 0] [psB src (ix L r),tkB L] (fun x:Rs Un=>x=qS r) (outP src L (fun x=>.agg (toV (Un.row x))) 11):=by
 refine zS Tryz.func152 Tryz.ntmps152 fun E0 F h w0 cs=>?_;refine aA.callN (kF src L r hr hL) [0,1,2,3,4,5,6,7,8,9] ?_ sH ?CNa12;case CNa12=>rfl
 rintro (⟨a1,r1⟩|⟨r1,e1⟩) h1<;>conv=>whnf
 rotate_left
 ·try refine aA.panicU ?_
  exact zV Tryz.func152 ((Rs.bad r1 e1:Rs Un)) ((by unfold qS;rw [aV h1.symm]))
 have s1:=(iZ.1.suf _ _ _ h1.symm).trans hr;refine zQ 11 [(4,.v (.string a1)),(0,.ptr 0 0),(2,.ptr 10 0)] [psB src (ix L r1),tkB L,(10,.cells 100 [.v (.string ⟨#[]⟩),.v (.string ⟨#[]⟩),nV 0,nV 0,nV 0,.v (.bool false),.v (.string ⟨#[]⟩),.v (.string ⟨#[]⟩)])] ?_;refine sqs ?_;refine zN (uX src L r1 s1 (B [61])) [0,1,2,3,4,5,6,7,8,9] ?_;refine sqs ?_
 cases hA:isA (B [61]) r1 with
 |false=>
  have b2:qB 3 (B [61]) (0,0,e0) (bnd nQ fun q=>bnd fK fun o=>pur (q.1,q.2,o)) r1=.ok (0,0,e0) r1:=aEA (by rw [<-isA_s K s1 (V.s 61 (by decide)),hA]);refine sqs ?_;refine aA.callN (cE src L r1 s1 hL [B [59]] (by decide)) [0,1,2,3,4,5,6,7,8,9,11] ?_ sH ?CNa14;case CNa14=>rfl
  rintro (⟨_,r3⟩|⟨r3,e3⟩) h3<;>conv=>whnf
  all_goals rw [lV K s1 (V.s 59 (by decide))] at h3
  rotate_left
  ·try refine aA.panicU ?_
   exact zV Tryz.func152 ((Rs.bad r3 e3:Rs Un)) ((by unfold qS;rw [aJ h1.symm,aJ b2,aV h3.symm]))
  have s3:=((cL _ _).1.suf _ _ _ h3.symm).trans s1;refine zQ 11 [(0,.ptr 0 0),(2,.ptr 10 0)] [psB src (ix L r3),tkB L,(10,.cells 100 [.v (.string a1),.v (.string ⟨#[]⟩),nV 0,nV 0,nV 0,.v (.bool false),.v (.string ⟨#[]⟩),.v (.string ⟨#[]⟩)])] ?_;refine sqs ?_;exact zI Tryz.func152 ((Rs.ok ⟨a1,e0,0,0,0,zr⟩ r3:Rs Un)) ((by unfold qS;rw [aJ h1.symm,aJ b2,aJ h3.symm];rfl))
 |true=>
  obtain ⟨x,q,rfl⟩:=oT hA;have hT:isT 3 (B [61]) (x::q)=true:=by rw [<-isA_s K s1 (V.s 61 (by decide)),hA]
  have hx1:=vH s1;refine dB ?_;rw [sU s1];refine aA.callN (rG src L q (eK s1) hL K V) [0,1,2,3,4,5,6,7,8,9] ?_ sH ?CNa15;case CNa15=>rfl
  rintro (⟨⟨n,d⟩,r2⟩|⟨r2,e2⟩) h2<;>conv=>whnf
  rotate_left
  ·have b2:qB 3 (B [61]) ((0,0,e0):Int×Int×ByteArray) (bnd nQ fun q=>bnd fK fun o=>pur (q.1,q.2,o)) (x::q)=.bad r2 e2:=qV hT (aV h2.symm);exact zV Tryz.func152 ((Rs.bad r2 e2:Rs Un)) ((by unfold qS;rw [aJ h1.symm,aV b2]))
  have s2:=(nA.g.suf _ _ _ h2.symm).trans (eK s1);refine zQ 11 [(17,.tup [nV n,nV d]),(0,.ptr 0 0),(2,.ptr 10 0)] [psB src (ix L r2),tkB L,(10,.cells 100 [.v (.string a1),.v (.string ⟨#[]⟩),nV 0,nV 0,nV 0,.v (.bool false),.v (.string ⟨#[]⟩),.v (.string ⟨#[]⟩)])] ?_;refine sqs ?_;refine aA.callN (kF src L r2 s2 hL) [0,1,2,3,4,5,6,7,8,9] ?_ sH ?CNa16;case CNa16=>rfl
  rintro (⟨o,r3⟩|⟨r3,e3⟩) h3'<;>conv=>whnf
  rotate_left
  ·have b2:qB 3 (B [61]) ((0,0,e0):Int×Int×ByteArray) (bnd nQ fun q=>bnd fK fun o=>pur (q.1,q.2,o)) (x::q)=.bad r3 e3:=qV hT (by rw [aJ h2.symm,aV h3'.symm]);exact zV Tryz.func152 ((Rs.bad r3 e3:Rs Un)) ((by unfold qS;rw [aJ h1.symm,aV b2]))
  have s3:=(iZ.1.suf _ _ _ h3'.symm).trans s2;have b2:qB 3 (B [61]) ((0,0,e0):Int×Int×ByteArray) (bnd nQ fun q=>bnd fK fun o=>pur (q.1,q.2,o)) (x::q)=.ok (n,d,o) r3:=qV hT (by rw [aJ h2.symm,aJ h3'.symm];rfl);refine zQ 11 [(23,.v (.string o)),(0,.ptr 0 0),(2,.ptr 10 0)] [psB src (ix L r3),tkB L,(10,.cells 100 [.v (.string a1),.v (.string ⟨#[]⟩),nV n,nV d,nV 0,.v (.bool false),.v (.string ⟨#[]⟩),.v (.string ⟨#[]⟩)])] ?_;refine sqs ?_;refine aA.callN (cE src L r3 s3 hL [B [59]] (by decide)) [0,1,2,3,4,5,6,7,8,9,11] ?_ sH ?CNa17;case CNa17=>rfl
  rintro (⟨_,r4⟩|⟨r4,e4⟩) h4<;>conv=>whnf
  all_goals rw [lV K s3 (V.s 59 (by decide))] at h4
  rotate_left
  ·try refine aA.panicU ?_
   exact zV Tryz.func152 ((Rs.bad r4 e4:Rs Un)) ((by unfold qS;rw [aJ h1.symm,aJ b2,aV h4.symm]))
  have s4:=((cL _ _).1.suf _ _ _ h4.symm).trans s3;refine zQ 11 [(0,.ptr 0 0),(2,.ptr 10 0)] [psB src (ix L r4),tkB L,(10,.cells 100 [.v (.string a1),.v (.string o),nV n,nV d,nV 0,.v (.bool false),.v (.string ⟨#[]⟩),.v (.string ⟨#[]⟩)])] ?_;refine sqs ?_;exact zI Tryz.func152 ((Rs.ok ⟨a1,o,n,d,0,zr⟩ r4:Rs Un)) ((by unfold qS;rw [aJ h1.symm,aJ b2,aJ h4.symm];rfl))
end
end Go.Proofs.YthjedpdedjhndaaGreatDoor

namespace Go.Proofs.YthjedpdedjhndaaGreatDoor
open Go Go.Fw Go.NatM Go.RatM Go.SrcM Go.SynM
section
variable (src:ByteArray) (L r:List Tok) (hr:r <:+ L) (hL:L.length<=65536) {N:ByteArray->Prop} (K:KL N L) (V:aDJ N)
include hr hL K V
theorem pin_fn:FnS Tryz.prog 255 10 [.ptr 0 0] [psB src (ix L r),tkB L] (fun x:Rs Am=>x=inP r) (outP src L (fun x=>.agg (toV x.row)) 11):=by
 refine zS Tryz.func255 Tryz.ntmps255 fun E0 F h w0 cs=>?_;refine zN (uX src L r hr (B bGE)) [0,1,2,3,4,5,6,7,8,9] ?_;refine sqs ?_
 cases hA:isA (B bGE) r with
 |false=>
  have b1:qB 1 (B bGE) false (pur true) r=.ok false r:=aEA (by rw [<-tR K hr (V.w bGE (by simp)),hA]);refine sqs ?_;refine aA.callN (aJP src L r hr hL K V) [0,1,2,3,4,5,6,7,8,9] ?_ sH ?CNa2;case CNa2=>rfl
  rintro (⟨a,r1⟩|⟨r1,e1⟩) h1<;>conv=>whnf
  rotate_left
  ·try refine aA.panicU ?_
   exact zV Tryz.func255 ((Rs.bad r1 e1:Rs Am)) ((by unfold inP;rw [aJ b1,aV h1.symm]))
  refine zQ 12 [(16,.agg (toV a.row)),(3,.v (.bool false)),(0,.ptr 0 0),(2,.ptr 10 0)] [psB src (ix L r1),tkB L,(10,.cells 55 [nV 0,nV 0,.v (.string ⟨#[]⟩),.v (.string ⟨#[]⟩),.v (.bool false),nV 0,nV 0])] ?_;refine sqs ?_;exact zI Tryz.func255 ((Rs.ok {a with back:=false} r1:Rs Am)) ((by unfold inP;rw [aJ b1,aJ h1.symm];rfl))
 |true=>
  obtain ⟨x,q,rfl⟩:=oT hA;have hT:isT 1 (B bGE) (x::q)=true:=by rw [<-tR K hr (V.w bGE (by simp)),hA]
  have b1:qB 1 (B bGE) false (pur true) (x::q)=.ok true q:=qV hT rfl;have hx:=vH hr;refine dB ?_;rw [sU hr];refine aA.callN (aJP src L q (eK hr) hL K V) [0,1,2,3,4,5,6,7,8,9] ?_ sH ?CNa3;case CNa3=>rfl
  rintro (⟨a,r1⟩|⟨r1,e1⟩) h1<;>conv=>whnf
  rotate_left
  ·try refine aA.panicU ?_
   exact zV Tryz.func255 ((Rs.bad r1 e1:Rs Am)) ((by unfold inP;rw [aJ b1,aV h1.symm]))
  refine zQ 12 [(16,.agg (toV a.row)),(3,.v (.bool true)),(0,.ptr 0 0),(2,.ptr 10 0)] [psB src (ix L r1),tkB L,(10,.cells 55 [nV 0,nV 0,.v (.string ⟨#[]⟩),.v (.string ⟨#[]⟩),.v (.bool false),nV 0,nV 0])] ?_;refine sqs ?_;exact zI Tryz.func255 ((Rs.ok {a with back:=true} r1:Rs Am)) ((by unfold inP;rw [aJ b1,aJ h1.symm];rfl))
end
end Go.Proofs.YthjedpdedjhndaaGreatDoor

namespace Go.SynM
open Go Go.Fw Go.RatM Go.SrcM
open Go.Proofs.YthjedpdedjhndaaGreatDoor (Tok)
def jM {α:Type} (p:P α) (most:Nat) (l:List α):P (List α):=fun r=>if most<=l.length then .bad r 2 else bnd p (fun a=>pur (l++[a])) r.tail
end Go.SynM
namespace Go.Proofs.YthjedpdedjhndaaGreatDoor
open Go Go.Fw Go.NatM Go.RatM Go.SrcM Go.SynM
def outL {α:Type} (src:ByteArray) (L:List Tok) (t e sz:Nat) (row:α->List Value) (n:Nat):Rs (List α)->eR
 | .ok l r=>.ret (.tup []) (n+1) [psB src (ix L r),tkB L,(10,.cells t [.buf n]),(n,.own e sz (rws row l))]
 | .bad r e=>.pan (aEY (pV src.size e r)) (n+1) [psB src (ix L r),tkB L]
abbrev fnV (g:Nat):SV:=.v (.func (.func g) #[] #[])
abbrev xZ (x:ByteArray):List Value:=[.string x]
section
variable (src:ByteArray) (L r:List Tok) (hr:r <:+ L) (hL:L.length<=65536) {N:ByteArray->Prop} (K:KL N L) (V:aDJ N)
include hr hL K V
theorem bBT (l:List Am) (most:Nat) (hm:most<=1000) (hne:r ≠ []):FnS Tryz.prog 288 12 [.ptr 0 0,.ptr 10 0,nV most,fnV 255] [psB src (ix L r),tkB L,(10,.cells 46 [.buf 11]),(11,.own 55 7 (rws Am.row l))]
  (fun x:Rs (List Am)=>x=jM inP most l r) (outL src L 46 55 7 Am.row 12):=by
 have ll:=aE Am.row l;obtain ⟨x,r,rfl⟩:∃x r',r=x::r':=by cases r with|nil=>exact absurd rfl hne|cons x r=>exact ⟨x,r,rfl⟩
 refine zS Tryz.func288 Tryz.ntmps288 fun E0 F h w0 cs=>?_;refine aA.callN (jI src L (x::r) hr hL (rws Am.row l).length most hne) [0,1,2,3,4,5,6,7,8,9] ?_ sH ?CNa5;case CNa5=>rfl
 rintro (⟨_,r1⟩|⟨r1,e1⟩) h1<;>conv=>whnf
 rotate_left
 ·by_cases hb:(most:Int)<=((rws Am.row l).length:Nat)
  ·rw [if_pos hb] at h1;cases h1;exact zV Tryz.func288 ((Rs.bad (x::r) 2:Rs (List Am))) ((by unfold jM;rw [if_pos (by omega)]))
  rw [if_neg hb] at h1;cases h1
 by_cases hb:(most:Int)<=((rws Am.row l).length:Nat)
 ·rw [if_pos hb] at h1;cases h1
 rw [if_neg hb] at h1;cases h1;refine zQ 12 [(0,.ptr 0 0),(1,.ptr 10 0),(3,fnV 255)] [psB src (ix L r),tkB L,(10,.cells 46 [.buf 11]),(11,.own 55 7 (rws Am.row l))] ?_;refine sqs ?_;refine zH (fls 0 6 (.e1 6 [3] (.e1 7 [3] (.e1 8 [] (.fl 9 (.e1 10 [] .done)))))) ?_;refine squ ?_;refine aK.callN (pin_fn src L r (eK hr) hL K V) [0,1,2,3,4,5,6,7,8,9] ?_ sH ?CNa6;case CNa6=>rfl
 rintro (⟨a,r2⟩|⟨r2,e2⟩) h2<;>conv=>whnf
 rotate_left
 ·try refine aA.panicU ?_
  exact zV Tryz.func288 ((Rs.bad r2 e2:Rs (List Am))) ((by unfold jM;rw [if_neg (by omega)];exact (aV h2.symm).symm))
 conv=>whnf
 try refine oB ?_
 refine fA ?_;conv=>whnf
 refine And.intro (fL (by rw [ll];show l.length+1<=1000000;omega)) ?_;conv=>whnf
 refine sqB ?_;refine sqs ?_;refine sqs ?_;refine aA.rowsEq (rows':=rws Am.row (l++[a])) 14 ?e1 ?_;case e1=>unfold rws;rw [List.map_append];rfl
 conv=>whnf
 exact zI Tryz.func288 ((Rs.ok (l++[a]) r2:Rs (List Am))) ((by unfold jM;rw [if_neg (by omega)];exact (aJ (f:=fun a=>pur (l++[a])) h2.symm).symm)) [(12,14)]
theorem aXD (l:List Am) (most:Nat) (hm:most<=1000) (hne:r ≠ []):FnS Tryz.prog 288 12 [.ptr 0 0,.ptr 10 0,nV most,fnV 256] [psB src (ix L r),tkB L,(10,.cells 46 [.buf 11]),(11,.own 55 7 (rws Am.row l))]
  (fun x:Rs (List Am)=>x=jM SynM.outP most l r) (outL src L 46 55 7 Am.row 12):=by
 have ll:=aE Am.row l;obtain ⟨x,r,rfl⟩:∃x r',r=x::r':=by cases r with|nil=>exact absurd rfl hne|cons x r=>exact ⟨x,r,rfl⟩
 refine zS Tryz.func288 Tryz.ntmps288 fun E0 F h w0 cs=>?_;refine aA.callN (jI src L (x::r) hr hL (rws Am.row l).length most hne) [0,1,2,3,4,5,6,7,8,9] ?_ sH ?CNa7;case CNa7=>rfl
 rintro (⟨_,r1⟩|⟨r1,e1⟩) h1<;>conv=>whnf
 rotate_left
 ·by_cases hb:(most:Int)<=((rws Am.row l).length:Nat)
  ·rw [if_pos hb] at h1;cases h1;exact zV Tryz.func288 ((Rs.bad (x::r) 2:Rs (List Am))) ((by unfold jM;rw [if_pos (by omega)]))
  rw [if_neg hb] at h1;cases h1
 by_cases hb:(most:Int)<=((rws Am.row l).length:Nat)
 ·rw [if_pos hb] at h1;cases h1
 rw [if_neg hb] at h1;cases h1;refine zQ 12 [(0,.ptr 0 0),(1,.ptr 10 0),(3,fnV 256)] [psB src (ix L r),tkB L,(10,.cells 46 [.buf 11]),(11,.own 55 7 (rws Am.row l))] ?_;refine sqs ?_;refine zH (fls 0 6 (.e1 6 [3] (.e1 7 [3] (.e1 8 [] (.fl 9 (.e1 10 [] .done)))))) ?_;refine squ ?_;refine aK.callN (aJP src L r (eK hr) hL K V) [0,1,2,3,4,5,6,7,8,9] ?_ sH ?CNa8;case CNa8=>rfl
 rintro (⟨a,r2⟩|⟨r2,e2⟩) h2<;>conv=>whnf
 rotate_left
 ·try refine aA.panicU ?_
  exact zV Tryz.func288 ((Rs.bad r2 e2:Rs (List Am))) ((by unfold jM;rw [if_neg (by omega)];exact (aV h2.symm).symm))
 conv=>whnf
 try refine oB ?_
 refine fA ?_;conv=>whnf
 refine And.intro (fL (by rw [ll];show l.length+1<=1000000;omega)) ?_;conv=>whnf
 refine sqB ?_;refine sqs ?_;refine sqs ?_;refine aA.rowsEq (rows':=rws Am.row (l++[a])) 14 ?e1 ?_;case e1=>unfold rws;rw [List.map_append];rfl
 conv=>whnf
 exact zI Tryz.func288 ((Rs.ok (l++[a]) r2:Rs (List Am))) ((by unfold jM;rw [if_neg (by omega)];exact (aJ (f:=fun a=>pur (l++[a])) h2.symm).symm)) [(12,14)]
theorem aVR (l:List Rn) (most:Nat) (hm:most<=1000) (hne:r ≠ []):FnS Tryz.prog 289 12 [.ptr 0 0,.ptr 10 0,nV most,fnV 258] [psB src (ix L r),tkB L,(10,.cells 47 [.buf 11]),(11,.own 272 3 (rws Rn.row l))]
  (fun x:Rs (List Rn)=>x=jM aEZ most l r) (outL src L 47 272 3 Rn.row 12):=by
 have ll:=aE Rn.row l;obtain ⟨x,r,rfl⟩:∃x r',r=x::r':=by cases r with|nil=>exact absurd rfl hne|cons x r=>exact ⟨x,r,rfl⟩
 refine zS Tryz.func289 Tryz.ntmps289 fun E0 F h w0 cs=>?_;refine aA.callN (jI src L (x::r) hr hL (rws Rn.row l).length most hne) [0,1,2,3,4,5,6,7,8,9] ?_ sH ?CNa9;case CNa9=>rfl
 rintro (⟨_,r1⟩|⟨r1,e1⟩) h1<;>conv=>whnf
 rotate_left
 ·by_cases hb:(most:Int)<=((rws Rn.row l).length:Nat)
  ·rw [if_pos hb] at h1;cases h1;exact zV Tryz.func289 ((Rs.bad (x::r) 2:Rs (List Rn))) ((by unfold jM;rw [if_pos (by omega)]))
  rw [if_neg hb] at h1;cases h1
 by_cases hb:(most:Int)<=((rws Rn.row l).length:Nat)
 ·rw [if_pos hb] at h1;cases h1
 rw [if_neg hb] at h1;cases h1;refine zQ 12 [(0,.ptr 0 0),(1,.ptr 10 0),(3,fnV 258)] [psB src (ix L r),tkB L,(10,.cells 47 [.buf 11]),(11,.own 272 3 (rws Rn.row l))] ?_;refine sqs ?_;refine zH (fls 0 6 (.e1 6 [3] (.e1 7 [3] (.e1 8 [] (.fl 9 (.e1 10 [] .done)))))) ?_;refine squ ?_;refine aK.callN (prun_fn src L r (eK hr) hL K V) [0,1,2,3,4,5,6,7,8,9] ?_ sH ?CNa10;case CNa10=>rfl
 rintro (⟨a,r2⟩|⟨r2,e2⟩) h2<;>conv=>whnf
 rotate_left
 ·try refine aA.panicU ?_
  exact zV Tryz.func289 ((Rs.bad r2 e2:Rs (List Rn))) ((by unfold jM;rw [if_neg (by omega)];exact (aV h2.symm).symm))
 conv=>whnf
 try refine oB ?_
 refine fA ?_;conv=>whnf
 refine And.intro (fL (by rw [ll];show l.length+1<=1000000;omega)) ?_;conv=>whnf
 refine sqB ?_;refine sqs ?_;refine sqs ?_;refine aA.rowsEq (rows':=rws Rn.row (l++[a])) 14 ?e1 ?_;case e1=>unfold rws;rw [List.map_append];rfl
 conv=>whnf
 exact zI Tryz.func289 ((Rs.ok (l++[a]) r2:Rs (List Rn))) ((by unfold jM;rw [if_neg (by omega)];exact (aJ (f:=fun a=>pur (l++[a])) h2.symm).symm)) [(12,14)]
end
end Go.Proofs.YthjedpdedjhndaaGreatDoor

namespace Go.SynM
open Go Go.Fw Go.RatM Go.SrcM
open Go.Proofs.YthjedpdedjhndaaGreatDoor (Tok)
section
variable {α:Type} {k:Int} {t:ByteArray} {p:P α} {m c:Nat} {l:List α} {x:Tok} {q:List Tok}
theorem many_no (h:isT k t q=false):jC k t p c q=.ok [] q:=by
 cases c with
 |zero=>exact if_neg (by rw [h];exact Bool.false_ne_true)
 |succ c=>exact if_neg (by rw [h];exact Bool.false_ne_true)
def xG (k:Int) (t:ByteArray) (p:P α) (m:Nat) (l:List α):P (List α):=bnd (jC k t p (m - l.length)) fun l'=>pur (l++l')
theorem aLQ (h:isT k t q=false):xG k t p m l q=.ok l q:=by
 unfold xG;rw [aJ (many_no h),List.append_nil];rfl
theorem qX (hl:l.length<=m) (h:isT k t (x::q)=true):xG k t p m l (x::q)=bnd (jM p m l) (fun l2=>xG k t p m l2) (x::q):=by
 unfold xG;by_cases e:m<=l.length
 ·have:m - l.length=0:=by omega
  simp only [bnd,jM,this,jC,h,if_true,if_pos e]
 obtain ⟨c,hc⟩:∃c,m - l.length=c+1:=⟨m - l.length - 1,by omega⟩;simp only [bnd,jM,hc,jC,h,if_true,if_neg e,List.tail_cons]
 cases p q with
 |bad r e=>rfl
 |ok a r=>
  have:m - (l++[a]).length=c:=by rw [List.length_append,List.length_singleton];omega
  simp only [pur,this];cases jC k t p c r<;>simp [pur]
theorem aBI:jC k t p m q=xG k t p m [] q:=by
 unfold xG;simp only [bnd,List.length_nil,Nat.sub_zero];cases jC k t p m q<;>rfl
theorem aJZ {a:List α} {r:List Tok} (hg:nZ p) (h:jM p m l (x::q)=.ok a r):r <:+ q/\a.length<=m/\a.length=l.length+1:=by
 unfold jM at h;split at h
 ·cases h
 rcases jU h with ⟨b,r1,h1,h2⟩|⟨r1,e,_,h2⟩
 ·have h2:(Rs.ok (l++[b]) r1:Rs (List α))=.ok a r:=h2;cases h2;exact ⟨hg.suf _ _ _ h1,by rw [List.length_append,List.length_singleton];omega,by rw [List.length_append,List.length_singleton]⟩
 cases h2
end
end Go.SynM
namespace Go.Proofs.YthjedpdedjhndaaGreatDoor
open Go Go.Fw Go.NatM Go.RatM Go.SrcM Go.SynM
def outB {α:Type} (src:ByteArray) (L:List Tok) (e sz:Nat) (row:α->List Value) (n:Nat):Rs (List α)->eR
 | .ok l r=>.ret (.buf n) (n+1) [psB src (ix L r),tkB L,(n,.own e sz (rws row l))]
 | .bad r e=>.pan (aEY (pV src.size e r)) (n+1) [psB src (ix L r),tkB L]
section
variable (src:ByteArray) (L r:List Tok) (hr:r <:+ L) (hL:L.length<=65536) {N:ByteArray->Prop} (K:KL N L) (V:aDJ N)
include hr hL K V
theorem bBU (w:List UInt8) (hw:N (B w)) (most:Nat) (hm2:most<=1000):FnS Tryz.prog 254 10 [.ptr 0 0,.v (.string (B w)),nV most,fnV 255] [psB src (ix L r),tkB L]
  (fun x:Rs (List Am)=>x=jC 1 (B w) inP most r) (outB src L 55 7 Am.row 10):=by
 refine zS Tryz.func254 Tryz.ntmps254 fun E0 F h w0 cs=>?_;refine aA.nilOwn (l':=[(8,.ptr 10 0),(0,.ptr 0 0),(1,.v (.string (B w))),(2,nV most),(3,fnV 255)]) (H':=[(10,.cells 46 [.buf 11]),psB src (ix L r),tkB L]) 55 7 ?_ (by rfl) (by rfl) (by rfl);have hg:=in_g.g;refine zL (fun (⟨l,q⟩:List Am×List Tok)=>[(8,.ptr 10 0),(0,.ptr 0 0),(1,.v (.string (B w))),(2,nV most),(3,fnV 255)]) (fun ⟨l,q⟩=>[psB src (ix L q),tkB L,(10,.cells 46 [.buf 11]),(11,.own 55 7 (rws Am.row l))]) 12 (fun ⟨l,q⟩=>(q <:+ L/\l.length<=most)/\jC 1 (B w) inP most r=xG 1 (B w) inP most l q) (fun ⟨l,q⟩=>q.length) (([],r)) (⟨⟨hr,Nat.zero_le _⟩,aBI⟩) ?_;rintro ⟨l,q⟩ hJ back;try dsimp only at hJ back
 conv=>whnf
 try dsimp only
 refine gS ?_;conv=>whnf
 refine zN (uX src L q hJ.1.1 (B w)) [0,1,2,3,4,5,6,7,8,9] ?_;refine sqs ?_
 cases hA:isA (B w) q with
 |false=>
  have hT:isT 1 (B w) q=false:=by rw [<-tR K hJ.1.1 hw,hA]
  refine sqs ?_;exact zI Tryz.func254 ((Rs.ok l q:Rs (List Am))) ((hJ.2.trans (aLQ hT)).symm) [(10,11)]
 |true=>
  obtain ⟨x,q,rfl⟩:=oT hA;have hT:isT 1 (B w) (x::q)=true:=by rw [<-tR K hJ.1.1 hw,hA]
  refine sqs ?_;refine aA.callN (bBT src L (x::q) hJ.1.1 hL K V l most hm2 (List.cons_ne_nil _ _)) [0,1,2,3,4,5,6,7,8,9,10,11] ?_ sH ?CNa13;case CNa13=>rfl
  rintro (⟨a2,r2⟩|⟨r2,e2⟩) h2<;>conv=>whnf
  rotate_left
  ·try refine aA.panicU ?_
   exact zV Tryz.func254 ((Rs.bad r2 e2:Rs (List Am))) (((hJ.2.trans (qX hJ.1.2 hT)).trans (aV h2.symm)).symm)
  obtain ⟨hs2,hl1,hl2⟩:=aJZ hg h2.symm;refine zQ 13 [(8,.ptr 10 0),(0,.ptr 0 0),(1,.v (.string (B w))),(2,nV most),(3,fnV 255)] [psB src (ix L r2),tkB L,(10,.cells 46 [.buf 12]),(12,.own 55 7 (rws Am.row a2))] ?_;refine sqs ?_;exact zb (back ((a2,r2)) ((⟨⟨hs2.trans (eK hJ.1.1),hl1⟩,(hJ.2.trans (qX hJ.1.2 hT)).trans (aJ h2.symm)⟩)) ((Nat.lt_succ_of_le hs2.length_le))) [(11,12)]
theorem aWI (w:List UInt8) (hw:N (B w)) (most:Nat) (hm2:most<=1000):FnS Tryz.prog 254 10 [.ptr 0 0,.v (.string (B w)),nV most,fnV 256] [psB src (ix L r),tkB L]
  (fun x:Rs (List Am)=>x=jC 1 (B w) SynM.outP most r) (outB src L 55 7 Am.row 10):=by
 refine zS Tryz.func254 Tryz.ntmps254 fun E0 F h w0 cs=>?_;refine aA.nilOwn (l':=[(8,.ptr 10 0),(0,.ptr 0 0),(1,.v (.string (B w))),(2,nV most),(3,fnV 256)]) (H':=[(10,.cells 46 [.buf 11]),psB src (ix L r),tkB L]) 55 7 ?_ (by rfl) (by rfl) (by rfl);have hg:=aTX.g;refine zL (fun (⟨l,q⟩:List Am×List Tok)=>[(8,.ptr 10 0),(0,.ptr 0 0),(1,.v (.string (B w))),(2,nV most),(3,fnV 256)]) (fun ⟨l,q⟩=>[psB src (ix L q),tkB L,(10,.cells 46 [.buf 11]),(11,.own 55 7 (rws Am.row l))]) 12 (fun ⟨l,q⟩=>(q <:+ L/\l.length<=most)/\jC 1 (B w) SynM.outP most r=xG 1 (B w) SynM.outP most l q) (fun ⟨l,q⟩=>q.length) (([],r)) (⟨⟨hr,Nat.zero_le _⟩,aBI⟩) ?_;rintro ⟨l,q⟩ hJ back;try dsimp only at hJ back
 conv=>whnf
 try dsimp only
 refine gS ?_;conv=>whnf
 refine zN (uX src L q hJ.1.1 (B w)) [0,1,2,3,4,5,6,7,8,9] ?_;refine sqs ?_
 cases hA:isA (B w) q with
 |false=>
  have hT:isT 1 (B w) q=false:=by rw [<-tR K hJ.1.1 hw,hA]
  refine sqs ?_;exact zI Tryz.func254 ((Rs.ok l q:Rs (List Am))) ((hJ.2.trans (aLQ hT)).symm) [(10,11)]
 |true=>
  obtain ⟨x,q,rfl⟩:=oT hA;have hT:isT 1 (B w) (x::q)=true:=by rw [<-tR K hJ.1.1 hw,hA]
  refine sqs ?_;refine aA.callN (aXD src L (x::q) hJ.1.1 hL K V l most hm2 (List.cons_ne_nil _ _)) [0,1,2,3,4,5,6,7,8,9,10,11] ?_ sH ?CNa17;case CNa17=>rfl
  rintro (⟨a2,r2⟩|⟨r2,e2⟩) h2<;>conv=>whnf
  rotate_left
  ·try refine aA.panicU ?_
   exact zV Tryz.func254 ((Rs.bad r2 e2:Rs (List Am))) (((hJ.2.trans (qX hJ.1.2 hT)).trans (aV h2.symm)).symm)
  obtain ⟨hs2,hl1,hl2⟩:=aJZ hg h2.symm;refine zQ 13 [(8,.ptr 10 0),(0,.ptr 0 0),(1,.v (.string (B w))),(2,nV most),(3,fnV 256)] [psB src (ix L r2),tkB L,(10,.cells 46 [.buf 12]),(12,.own 55 7 (rws Am.row a2))] ?_;refine sqs ?_;exact zb (back ((a2,r2)) ((⟨⟨hs2.trans (eK hJ.1.1),hl1⟩,(hJ.2.trans (qX hJ.1.2 hT)).trans (aJ h2.symm)⟩)) ((Nat.lt_succ_of_le hs2.length_le))) [(11,12)]
theorem aWH (w:List UInt8) (hw:N (B w)) (most:Nat) (hm2:most<=1000):FnS Tryz.prog 257 10 [.ptr 0 0,.v (.string (B w)),nV most,fnV 258] [psB src (ix L r),tkB L]
  (fun x:Rs (List Rn)=>x=jC 1 (B w) aEZ most r) (outB src L 272 3 Rn.row 10):=by
 refine zS Tryz.func257 Tryz.ntmps257 fun E0 F h w0 cs=>?_;refine aA.nilOwn (l':=[(8,.ptr 10 0),(0,.ptr 0 0),(1,.v (.string (B w))),(2,nV most),(3,fnV 258)]) (H':=[(10,.cells 47 [.buf 11]),psB src (ix L r),tkB L]) 272 3 ?_ (by rfl) (by rfl) (by rfl);have hg:=run_g.g;refine zL (fun (⟨l,q⟩:List Rn×List Tok)=>[(8,.ptr 10 0),(0,.ptr 0 0),(1,.v (.string (B w))),(2,nV most),(3,fnV 258)]) (fun ⟨l,q⟩=>[psB src (ix L q),tkB L,(10,.cells 47 [.buf 11]),(11,.own 272 3 (rws Rn.row l))]) 12 (fun ⟨l,q⟩=>(q <:+ L/\l.length<=most)/\jC 1 (B w) aEZ most r=xG 1 (B w) aEZ most l q) (fun ⟨l,q⟩=>q.length) (([],r)) (⟨⟨hr,Nat.zero_le _⟩,aBI⟩) ?_;rintro ⟨l,q⟩ hJ back;try dsimp only at hJ back
 conv=>whnf
 try dsimp only
 refine gS ?_;conv=>whnf
 refine zN (uX src L q hJ.1.1 (B w)) [0,1,2,3,4,5,6,7,8,9] ?_;refine sqs ?_
 cases hA:isA (B w) q with
 |false=>
  have hT:isT 1 (B w) q=false:=by rw [<-tR K hJ.1.1 hw,hA]
  refine sqs ?_;exact zI Tryz.func257 ((Rs.ok l q:Rs (List Rn))) ((hJ.2.trans (aLQ hT)).symm) [(10,11)]
 |true=>
  obtain ⟨x,q,rfl⟩:=oT hA;have hT:isT 1 (B w) (x::q)=true:=by rw [<-tR K hJ.1.1 hw,hA]
  refine sqs ?_;refine aA.callN (aVR src L (x::q) hJ.1.1 hL K V l most hm2 (List.cons_ne_nil _ _)) [0,1,2,3,4,5,6,7,8,9,10,11] ?_ sH ?CNa21;case CNa21=>rfl
  rintro (⟨a2,r2⟩|⟨r2,e2⟩) h2<;>conv=>whnf
  rotate_left
  ·try refine aA.panicU ?_
   exact zV Tryz.func257 ((Rs.bad r2 e2:Rs (List Rn))) (((hJ.2.trans (qX hJ.1.2 hT)).trans (aV h2.symm)).symm)
  obtain ⟨hs2,hl1,hl2⟩:=aJZ hg h2.symm;refine zQ 13 [(8,.ptr 10 0),(0,.ptr 0 0),(1,.v (.string (B w))),(2,nV most),(3,fnV 258)] [psB src (ix L r2),tkB L,(10,.cells 47 [.buf 12]),(12,.own 272 3 (rws Rn.row a2))] ?_;refine sqs ?_;exact zb (back ((a2,r2)) ((⟨⟨hs2.trans (eK hJ.1.1),hl1⟩,(hJ.2.trans (qX hJ.1.2 hT)).trans (aJ h2.symm)⟩)) ((Nat.lt_succ_of_le hs2.length_le))) [(11,12)]
end
end Go.Proofs.YthjedpdedjhndaaGreatDoor

namespace Go.SynM
open Go Go.Fw Go.RatM Go.SrcM
open Go.Proofs.YthjedpdedjhndaaGreatDoor (Tok)
section
variable {L r:List Tok} {N:ByteArray->Prop} (K:KL N L) (hr:r <:+ L)
include K hr
theorem aMZ {t u:ByteArray} (h:¬N t) (g:N u):mZ [t,u] r=bnd (skip 3 t) (fun _=>skip 1 u) r:=by
 show bnd (xF t) (fun _=>mZ [u]) r=_;simp only [bnd,aTH K hr h]
 cases e:skip 3 t r with
 |ok a q=>exact pL K (((cL _ _).1.suf _ _ _ e).trans hr) g
 |bad q e=>rfl
end
theorem aDZ {α β γ:Type} {p:P α} {q:α->P β} {f:β->P γ} {r:List Tok}:bnd p (fun a=>bnd (q a) f) r=bnd (bnd p q) f r:=by
 simp only [bnd];cases p r<;>rfl
end Go.SynM
namespace Go.Proofs.YthjedpdedjhndaaGreatDoor
open Go Go.Fw Go.NatM Go.RatM Go.SrcM Go.SynM
end Go.Proofs.YthjedpdedjhndaaGreatDoor

namespace Go.Proofs.YthjedpdedjhndaaGreatDoor
open Go Go.Fw Go.NatM Go.RatM Go.SrcM Go.SynM
def outR (src:ByteArray) (L:List Tok) (n:Nat):Rs RcV->eR
 | .ok x r=>.ret (.agg [.v (.string x.item),.v (.string x.plant),nV x.fr,nV x.to,.buf n,.buf (n+1),.buf (n+2),nV x.rwN,nV x.rwD,nV x.yN,nV x.yD,nV x.tN,nV x.tD,nV x.lead,.buf (n+3),nV x.inum,nV x.pnum]) (n+4) [psB src (ix L r),tkB L,(n,.own 191 4 (rws Cd.row x.cs)),(n+1,.own 55 7 (rws Am.row x.inn)),(n+2,.own 55 7 (rws Am.row x.out)),(n+3,.own 272 3 (rws Rn.row x.runs))]
 | .bad r e=>.pan (aEY (pV src.size e r)) (n+1) [psB src (ix L r),tkB L]
section
variable (src:ByteArray) (L r:List Tok) (hr:r <:+ L) (hL:L.length<=65536) {N:ByteArray->Prop} (K:KL N L) (V:aDJ N)
include hr hL K V
theorem prec_fn (hIf:∀x∈L,x.text≠B wIf):FnS Tryz.prog 170 10 [.ptr 0 0] [psB src (ix L r),tkB L] (fun x:Rs RcV=>x=aDF r) (outR src L 10):=by
 have E:aDF r=aDF r:=rfl;conv at E=>rhs;unfold aDF
 refine zS Tryz.func170 Tryz.ntmps170 fun E0 F h w0 cs=>?_;refine aA.callN (kF src L r hr hL) [0,1,2,3,4,5,6,7,8,9] ?_ sH ?CNa1;case CNa1=>rfl
 rintro (⟨a1,r1⟩|⟨r1,e1⟩) h1<;>conv=>whnf
 rotate_left
 ·try refine aA.panicU ?_
  exact zV Tryz.func170 ((Rs.bad r1 e1:Rs RcV)) ((by rw [E,aV h1.symm]))
 have s1:=((gG.g).suf _ _ _ h1.symm).trans hr;rw [aJ h1.symm] at E;refine zQ 11 [(4,.v (.string a1)),(2,.ptr 10 0),(0,.ptr 0 0)] [psB src (ix L r1),tkB L,(10,.cells 49 [.v (.string ⟨#[]⟩),.v (.string ⟨#[]⟩),nV 0,nV 0,.v (.slice none 0 0),.v (.slice none 0 0),.v (.slice none 0 0),nV 0,nV 0,nV 0,nV 0,nV 0,nV 0,nV 0,.v (.slice none 0 0),nV 0,nV 0])] ?_;refine sqs ?_;refine aA.callN (cE src L r1 s1 hL [B wAt] (by decide)) [0,1,2,3,4,5,6,7,8,9,11] ?_ sH ?CNa2;case CNa2=>rfl
 rintro (⟨_,r2⟩|⟨r2,e2⟩) h2<;>conv=>whnf
 all_goals rw [pL K s1 (V.w wAt (by simp))] at h2
 rotate_left
 ·try refine aA.panicU ?_
  exact zV Tryz.func170 ((Rs.bad r2 e2:Rs RcV)) ((by rw [E,aV h2.symm]))
 have s2:=(((cL _ _).1).suf _ _ _ h2.symm).trans s1;rw [aJ h2.symm] at E;refine zQ 11 [(2,.ptr 10 0),(0,.ptr 0 0)] [psB src (ix L r2),tkB L,(10,.cells 49 [.v (.string a1),.v (.string ⟨#[]⟩),nV 0,nV 0,.v (.slice none 0 0),.v (.slice none 0 0),.v (.slice none 0 0),nV 0,nV 0,nV 0,nV 0,nV 0,nV 0,nV 0,.v (.slice none 0 0),nV 0,nV 0])] ?_;refine sqs ?_;refine aA.callN (kF src L r2 s2 hL) [0,1,2,3,4,5,6,7,8,9] ?_ sH ?CNa3;case CNa3=>rfl
 rintro (⟨a3,r3⟩|⟨r3,e3⟩) h3<;>conv=>whnf
 rotate_left
 ·try refine aA.panicU ?_
  exact zV Tryz.func170 ((Rs.bad r3 e3:Rs RcV)) ((by rw [E,aV h3.symm]))
 have s3:=((gG.g).suf _ _ _ h3.symm).trans s2;rw [aJ h3.symm] at E;refine zQ 11 [(10,.v (.string a3)),(2,.ptr 10 0),(0,.ptr 0 0)] [psB src (ix L r3),tkB L,(10,.cells 49 [.v (.string a1),.v (.string ⟨#[]⟩),nV 0,nV 0,.v (.slice none 0 0),.v (.slice none 0 0),.v (.slice none 0 0),nV 0,nV 0,nV 0,nV 0,nV 0,nV 0,nV 0,.v (.slice none 0 0),nV 0,nV 0])] ?_;refine sqs ?_;refine aA.callN (cE src L r3 s3 hL [B aUJ] (by decide)) [0,1,2,3,4,5,6,7,8,9,11] ?_ sH ?CNa4;case CNa4=>rfl
 rintro (⟨_,r4⟩|⟨r4,e4⟩) h4<;>conv=>whnf
 all_goals rw [pL K s3 (V.w aUJ (by simp))] at h4
 rotate_left
 ·try refine aA.panicU ?_
  exact zV Tryz.func170 ((Rs.bad r4 e4:Rs RcV)) ((by rw [E,aV h4.symm]))
 have s4:=(((cL _ _).1).suf _ _ _ h4.symm).trans s3;rw [aJ h4.symm] at E;refine zQ 11 [(2,.ptr 10 0),(0,.ptr 0 0)] [psB src (ix L r4),tkB L,(10,.cells 49 [.v (.string a1),.v (.string a3),nV 0,nV 0,.v (.slice none 0 0),.v (.slice none 0 0),.v (.slice none 0 0),nV 0,nV 0,nV 0,nV 0,nV 0,nV 0,nV 0,.v (.slice none 0 0),nV 0,nV 0])] ?_;refine sqs ?_;refine aA.callN (kP src L r4 s4 hL) [0,1,2,3,4,5,6,7,8,9] ?_ sH ?CNa5;case CNa5=>rfl
 rintro (⟨a5,r5⟩|⟨r5,e5⟩) h5<;>conv=>whnf
 rotate_left
 ·try refine aA.panicU ?_
  exact zV Tryz.func170 ((Rs.bad r5 e5:Rs RcV)) ((by rw [E,aV h5.symm]))
 have s5:=((uE.g).suf _ _ _ h5.symm).trans s4;rw [aJ h5.symm] at E;refine zQ 11 [(16,nV a5),(2,.ptr 10 0),(0,.ptr 0 0)] [psB src (ix L r5),tkB L,(10,.cells 49 [.v (.string a1),.v (.string a3),nV 0,nV 0,.v (.slice none 0 0),.v (.slice none 0 0),.v (.slice none 0 0),nV 0,nV 0,nV 0,nV 0,nV 0,nV 0,nV 0,.v (.slice none 0 0),nV 0,nV 0])] ?_;refine sqs ?_;refine aA.callN (cE src L r5 s5 hL [B wTo] (by decide)) [0,1,2,3,4,5,6,7,8,9,11] ?_ sH ?CNa6;case CNa6=>rfl
 rintro (⟨_,r6⟩|⟨r6,e6⟩) h6<;>conv=>whnf
 all_goals rw [pL K s5 (V.w wTo (by simp))] at h6
 rotate_left
 ·try refine aA.panicU ?_
  exact zV Tryz.func170 ((Rs.bad r6 e6:Rs RcV)) ((by rw [E,aV h6.symm]))
 have s6:=(((cL _ _).1).suf _ _ _ h6.symm).trans s5;rw [aJ h6.symm] at E;refine zQ 11 [(2,.ptr 10 0),(0,.ptr 0 0)] [psB src (ix L r6),tkB L,(10,.cells 49 [.v (.string a1),.v (.string a3),nV a5,nV 0,.v (.slice none 0 0),.v (.slice none 0 0),.v (.slice none 0 0),nV 0,nV 0,nV 0,nV 0,nV 0,nV 0,nV 0,.v (.slice none 0 0),nV 0,nV 0])] ?_;refine sqs ?_;refine aA.callN (kP src L r6 s6 hL) [0,1,2,3,4,5,6,7,8,9] ?_ sH ?CNa7;case CNa7=>rfl
 rintro (⟨a7,r7⟩|⟨r7,e7⟩) h7<;>conv=>whnf
 rotate_left
 ·try refine aA.panicU ?_
  exact zV Tryz.func170 ((Rs.bad r7 e7:Rs RcV)) ((by rw [E,aV h7.symm]))
 have s7:=((uE.g).suf _ _ _ h7.symm).trans s6;rw [aJ h7.symm] at E;refine zQ 11 [(22,nV a7),(2,.ptr 10 0),(0,.ptr 0 0)] [psB src (ix L r7),tkB L,(10,.cells 49 [.v (.string a1),.v (.string a3),nV a5,nV 0,.v (.slice none 0 0),.v (.slice none 0 0),.v (.slice none 0 0),nV 0,nV 0,nV 0,nV 0,nV 0,nV 0,nV 0,.v (.slice none 0 0),nV 0,nV 0])] ?_;refine sqs ?_;refine zQ 11 [(24,.ptr 0 0),(2,.ptr 10 0),(0,.ptr 0 0)] [psB src (ix L r7),tkB L,(10,.cells 49 [.v (.string a1),.v (.string a3),nV a5,nV a7,.v (.slice none 0 0),.v (.slice none 0 0),.v (.slice none 0 0),nV 0,nV 0,nV 0,nV 0,nV 0,nV 0,nV 0,.v (.slice none 0 0),nV 0,nV 0])] ?_;refine aA.nilOwn (l':=[(24,.ptr 0 0),(2,.ptr 10 0),(0,.ptr 0 0)]) (H':=[psB src (ix L r7),tkB L,(10,.cells 49 [.v (.string a1),.v (.string a3),nV a5,nV a7,.buf 11,.v (.slice none 0 0),.v (.slice none 0 0),nV 0,nV 0,nV 0,nV 0,nV 0,nV 0,nV 0,.v (.slice none 0 0),nV 0,nV 0])]) 191 4 ?_ (by rfl) (by rfl) (by rfl);refine zN (uX src L r7 s7 (B wIf)) [0,1,2,3,4,5,6,7,8,9] ?_;refine sqs ?_;have hA:isA (B wIf) r7=false:=by
  cases r7 with
  |nil=>rfl
  |cons x q=>exact decide_eq_false fun e=>hIf x (s7.subset (List.mem_cons_self ..)) e.2
 rw [hA];have b8:qB 1 (B wIf) [] (sepP aUF 6) r7=.ok [] r7:=aEA (by rw [<-tR K s7 (V.w wIf (by simp)),hA]);rw [aJ b8] at E;refine sqs ?_;refine aA.callN (cE src L r7 s7 hL [B [123]] (by decide)) [0,1,2,3,4,5,6,7,8,9,12] ?_ sH ?CNa9;case CNa9=>rfl
 rintro (⟨_,r9⟩|⟨r9,e9⟩) h9<;>conv=>whnf
 all_goals rw [lV K s7 (V.s 123 (by decide))] at h9
 rotate_left
 ·try refine aA.panicU ?_
  exact zV Tryz.func170 ((Rs.bad r9 e9:Rs RcV)) ((by rw [E,aV h9.symm]))
 have s9:=(((cL _ _).1).suf _ _ _ h9.symm).trans s7;rw [aJ h9.symm] at E;refine zQ 12 [(2,.ptr 10 0),(0,.ptr 0 0)] [psB src (ix L r9),tkB L,(10,.cells 49 [.v (.string a1),.v (.string a3),nV a5,nV a7,.buf 11,.v (.slice none 0 0),.v (.slice none 0 0),nV 0,nV 0,nV 0,nV 0,nV 0,nV 0,nV 0,.v (.slice none 0 0),nV 0,nV 0]),(11,.own 191 4 (rws Cd.row []))] ?_;refine sqs ?_;refine aA.callN (bBU src L r9 s9 hL K V wIn (V.w wIn (by simp)) 8 (by decide)) [0,1,2,3,4,5,6,7,8,9] ?_ sH ?CNa10;case CNa10=>rfl
 rintro (⟨a10,r10⟩|⟨r10,e10⟩) h10<;>conv=>whnf
 rotate_left
 ·try refine aA.panicU ?_
  exact zV Tryz.func170 ((Rs.bad r10 e10:Rs RcV)) ((by rw [E,aV h10.symm]))
 have s10:=((kW in_g.g 8).suf _ _ _ h10.symm).trans s9;rw [aJ h10.symm] at E;refine zQ 13 [(40,.buf 12),(2,.ptr 10 0),(0,.ptr 0 0)] [psB src (ix L r10),tkB L,(10,.cells 49 [.v (.string a1),.v (.string a3),nV a5,nV a7,.buf 11,.v (.slice none 0 0),.v (.slice none 0 0),nV 0,nV 0,nV 0,nV 0,nV 0,nV 0,nV 0,.v (.slice none 0 0),nV 0,nV 0]),(11,.own 191 4 (rws Cd.row [])),(12,.own 55 7 (rws Am.row a10))] ?_;refine sqs ?_;refine aA.callN (aWI src L r10 s10 hL K V wOut (V.w wOut (by simp)) 8 (by decide)) [0,1,2,3,4,5,6,7,8,9] ?_ sH ?CNa11;case CNa11=>rfl
 rintro (⟨a11,r11⟩|⟨r11,e11⟩) h11<;>conv=>whnf
 rotate_left
 ·try refine aA.panicU ?_
  exact zV Tryz.func170 ((Rs.bad r11 e11:Rs RcV)) ((by rw [E,aV h11.symm]))
 have s11:=((kW aTX.g 8).suf _ _ _ h11.symm).trans s10;rw [aJ h11.symm] at E;refine zQ 14 [(43,.buf 13),(2,.ptr 10 0),(0,.ptr 0 0)] [psB src (ix L r11),tkB L,(10,.cells 49 [.v (.string a1),.v (.string a3),nV a5,nV a7,.buf 11,.buf 12,.v (.slice none 0 0),nV 0,nV 0,nV 0,nV 0,nV 0,nV 0,nV 0,.v (.slice none 0 0),nV 0,nV 0]),(11,.own 191 4 (rws Cd.row [])),(12,.own 55 7 (rws Am.row a10)),(13,.own 55 7 (rws Am.row a11))] ?_;refine sqs ?_;refine aA.callN (cE src L r11 s11 hL [B aDW] (by decide)) [0,1,2,3,4,5,6,7,8,9,14] ?_ sH ?CNa12;case CNa12=>rfl
 rintro (⟨_,r12⟩|⟨r12,e12⟩) h12<;>conv=>whnf
 all_goals rw [pL K s11 (V.w aDW (by simp))] at h12
 rotate_left
 ·try refine aA.panicU ?_
  exact zV Tryz.func170 ((Rs.bad r12 e12:Rs RcV)) ((by rw [E,aV h12.symm]))
 have s12:=(((cL _ _).1).suf _ _ _ h12.symm).trans s11;rw [aJ h12.symm] at E;refine zQ 14 [(2,.ptr 10 0),(0,.ptr 0 0)] [psB src (ix L r12),tkB L,(10,.cells 49 [.v (.string a1),.v (.string a3),nV a5,nV a7,.buf 11,.buf 12,.buf 13,nV 0,nV 0,nV 0,nV 0,nV 0,nV 0,nV 0,.v (.slice none 0 0),nV 0,nV 0]),(11,.own 191 4 (rws Cd.row [])),(12,.own 55 7 (rws Am.row a10)),(13,.own 55 7 (rws Am.row a11))] ?_;refine sqs ?_;refine aA.callN (rG src L r12 s12 hL K V) [0,1,2,3,4,5,6,7,8,9] ?_ sH ?CNa13;case CNa13=>rfl
 rintro (⟨⟨a13,b13⟩,r13⟩|⟨r13,e13⟩) h13<;>conv=>whnf
 rotate_left
 ·try refine aA.panicU ?_
  exact zV Tryz.func170 ((Rs.bad r13 e13:Rs RcV)) ((by rw [E,aV h13.symm]))
 have s13:=((nA.g).suf _ _ _ h13.symm).trans s12;rw [aJ h13.symm] at E;refine zQ 14 [(50,.tup [nV a13,nV b13]),(2,.ptr 10 0),(0,.ptr 0 0)] [psB src (ix L r13),tkB L,(10,.cells 49 [.v (.string a1),.v (.string a3),nV a5,nV a7,.buf 11,.buf 12,.buf 13,nV 0,nV 0,nV 0,nV 0,nV 0,nV 0,nV 0,.v (.slice none 0 0),nV 0,nV 0]),(11,.own 191 4 (rws Cd.row [])),(12,.own 55 7 (rws Am.row a10)),(13,.own 55 7 (rws Am.row a11))] ?_;refine sqs ?_;refine aA.callN (cE src L r13 s13 hL [B [59],B aKZ] (by decide)) [0,1,2,3,4,5,6,7,8,9,14] ?_ sH ?CNa14;case CNa14=>rfl
 rintro (⟨_,r14⟩|⟨r14,e14⟩) h14<;>conv=>whnf
 all_goals rw [aMZ K s13 (V.s 59 (by decide)) (V.w aKZ (by simp))] at h14
 rotate_left
 ·try refine aA.panicU ?_
  exact zV Tryz.func170 ((Rs.bad r14 e14:Rs RcV)) ((by rw [E,aDZ,aV h14.symm]))
 have s14:=((kA (cL _ _).1 fun _=>(cL _ _).1).suf _ _ _ h14.symm).trans s13;rw [aDZ,aJ h14.symm] at E;refine zQ 14 [(2,.ptr 10 0),(0,.ptr 0 0)] [psB src (ix L r14),tkB L,(10,.cells 49 [.v (.string a1),.v (.string a3),nV a5,nV a7,.buf 11,.buf 12,.buf 13,nV a13,nV b13,nV 0,nV 0,nV 0,nV 0,nV 0,.v (.slice none 0 0),nV 0,nV 0]),(11,.own 191 4 (rws Cd.row [])),(12,.own 55 7 (rws Am.row a10)),(13,.own 55 7 (rws Am.row a11))] ?_;refine sqs ?_;refine aA.callN (rG src L r14 s14 hL K V) [0,1,2,3,4,5,6,7,8,9] ?_ sH ?CNa15;case CNa15=>rfl
 rintro (⟨⟨a15,b15⟩,r15⟩|⟨r15,e15⟩) h15<;>conv=>whnf
 rotate_left
 ·try refine aA.panicU ?_
  exact zV Tryz.func170 ((Rs.bad r15 e15:Rs RcV)) ((by rw [E,aV h15.symm]))
 have s15:=((nA.g).suf _ _ _ h15.symm).trans s14;rw [aJ h15.symm] at E;refine zQ 14 [(60,.tup [nV a15,nV b15]),(2,.ptr 10 0),(0,.ptr 0 0)] [psB src (ix L r15),tkB L,(10,.cells 49 [.v (.string a1),.v (.string a3),nV a5,nV a7,.buf 11,.buf 12,.buf 13,nV a13,nV b13,nV 0,nV 0,nV 0,nV 0,nV 0,.v (.slice none 0 0),nV 0,nV 0]),(11,.own 191 4 (rws Cd.row [])),(12,.own 55 7 (rws Am.row a10)),(13,.own 55 7 (rws Am.row a11))] ?_;refine sqs ?_;refine aA.callN (cE src L r15 s15 hL [B aEB] (by decide)) [0,1,2,3,4,5,6,7,8,9,14] ?_ sH ?CNa16;case CNa16=>rfl
 rintro (⟨_,r16⟩|⟨r16,e16⟩) h16<;>conv=>whnf
 all_goals rw [pL K s15 (V.w aEB (by simp))] at h16
 rotate_left
 ·try refine aA.panicU ?_
  exact zV Tryz.func170 ((Rs.bad r16 e16:Rs RcV)) ((by rw [E,aV h16.symm]))
 have s16:=(((cL _ _).1).suf _ _ _ h16.symm).trans s15;rw [aJ h16.symm] at E;refine zQ 14 [(2,.ptr 10 0),(0,.ptr 0 0)] [psB src (ix L r16),tkB L,(10,.cells 49 [.v (.string a1),.v (.string a3),nV a5,nV a7,.buf 11,.buf 12,.buf 13,nV a13,nV b13,nV a15,nV b15,nV 0,nV 0,nV 0,.v (.slice none 0 0),nV 0,nV 0]),(11,.own 191 4 (rws Cd.row [])),(12,.own 55 7 (rws Am.row a10)),(13,.own 55 7 (rws Am.row a11))] ?_;refine sqs ?_;refine aA.callN (rG src L r16 s16 hL K V) [0,1,2,3,4,5,6,7,8,9] ?_ sH ?CNa17;case CNa17=>rfl
 rintro (⟨⟨a17,b17⟩,r17⟩|⟨r17,e17⟩) h17<;>conv=>whnf
 rotate_left
 ·try refine aA.panicU ?_
  exact zV Tryz.func170 ((Rs.bad r17 e17:Rs RcV)) ((by rw [E,aV h17.symm]))
 have s17:=((nA.g).suf _ _ _ h17.symm).trans s16;rw [aJ h17.symm] at E;refine zQ 14 [(70,.tup [nV a17,nV b17]),(2,.ptr 10 0),(0,.ptr 0 0)] [psB src (ix L r17),tkB L,(10,.cells 49 [.v (.string a1),.v (.string a3),nV a5,nV a7,.buf 11,.buf 12,.buf 13,nV a13,nV b13,nV a15,nV b15,nV 0,nV 0,nV 0,.v (.slice none 0 0),nV 0,nV 0]),(11,.own 191 4 (rws Cd.row [])),(12,.own 55 7 (rws Am.row a10)),(13,.own 55 7 (rws Am.row a11))] ?_;refine sqs ?_;refine aA.callN (cE src L r17 s17 hL [B [59],B aTE] (by decide)) [0,1,2,3,4,5,6,7,8,9,14] ?_ sH ?CNa18;case CNa18=>rfl
 rintro (⟨_,r18⟩|⟨r18,e18⟩) h18<;>conv=>whnf
 all_goals rw [aMZ K s17 (V.s 59 (by decide)) (V.w aTE (by simp))] at h18
 rotate_left
 ·try refine aA.panicU ?_
  exact zV Tryz.func170 ((Rs.bad r18 e18:Rs RcV)) ((by rw [E,aDZ,aV h18.symm]))
 have s18:=((kA (cL _ _).1 fun _=>(cL _ _).1).suf _ _ _ h18.symm).trans s17;rw [aDZ,aJ h18.symm] at E;refine zQ 14 [(2,.ptr 10 0),(0,.ptr 0 0)] [psB src (ix L r18),tkB L,(10,.cells 49 [.v (.string a1),.v (.string a3),nV a5,nV a7,.buf 11,.buf 12,.buf 13,nV a13,nV b13,nV a15,nV b15,nV a17,nV b17,nV 0,.v (.slice none 0 0),nV 0,nV 0]),(11,.own 191 4 (rws Cd.row [])),(12,.own 55 7 (rws Am.row a10)),(13,.own 55 7 (rws Am.row a11))] ?_;refine sqs ?_;refine aA.callN (kP src L r18 s18 hL) [0,1,2,3,4,5,6,7,8,9] ?_ sH ?CNa19;case CNa19=>rfl
 rintro (⟨a19,r19⟩|⟨r19,e19⟩) h19<;>conv=>whnf
 rotate_left
 ·try refine aA.panicU ?_
  exact zV Tryz.func170 ((Rs.bad r19 e19:Rs RcV)) ((by rw [E,aV h19.symm]))
 have s19:=((uE.g).suf _ _ _ h19.symm).trans s18;rw [aJ h19.symm] at E;refine zQ 14 [(79,nV a19),(2,.ptr 10 0),(0,.ptr 0 0)] [psB src (ix L r19),tkB L,(10,.cells 49 [.v (.string a1),.v (.string a3),nV a5,nV a7,.buf 11,.buf 12,.buf 13,nV a13,nV b13,nV a15,nV b15,nV a17,nV b17,nV 0,.v (.slice none 0 0),nV 0,nV 0]),(11,.own 191 4 (rws Cd.row [])),(12,.own 55 7 (rws Am.row a10)),(13,.own 55 7 (rws Am.row a11))] ?_;refine sqs ?_;refine aA.callN (cE src L r19 s19 hL [B [59]] (by decide)) [0,1,2,3,4,5,6,7,8,9,14] ?_ sH ?CNa20;case CNa20=>rfl
 rintro (⟨_,r20⟩|⟨r20,e20⟩) h20<;>conv=>whnf
 all_goals rw [lV K s19 (V.s 59 (by decide))] at h20
 rotate_left
 ·try refine aA.panicU ?_
  exact zV Tryz.func170 ((Rs.bad r20 e20:Rs RcV)) ((by rw [E,aV h20.symm]))
 have s20:=(((cL _ _).1).suf _ _ _ h20.symm).trans s19;rw [aJ h20.symm] at E;refine zQ 14 [(2,.ptr 10 0),(0,.ptr 0 0)] [psB src (ix L r20),tkB L,(10,.cells 49 [.v (.string a1),.v (.string a3),nV a5,nV a7,.buf 11,.buf 12,.buf 13,nV a13,nV b13,nV a15,nV b15,nV a17,nV b17,nV a19,.v (.slice none 0 0),nV 0,nV 0]),(11,.own 191 4 (rws Cd.row [])),(12,.own 55 7 (rws Am.row a10)),(13,.own 55 7 (rws Am.row a11))] ?_;refine sqs ?_;refine aA.callN (aWH src L r20 s20 hL K V wRun (V.w wRun (by simp)) 8 (by decide)) [0,1,2,3,4,5,6,7,8,9] ?_ sH ?CNa21;case CNa21=>rfl
 rintro (⟨a21,r21⟩|⟨r21,e21⟩) h21<;>conv=>whnf
 rotate_left
 ·try refine aA.panicU ?_
  exact zV Tryz.func170 ((Rs.bad r21 e21:Rs RcV)) ((by rw [E,aV h21.symm]))
 have s21:=((kW run_g.g 8).suf _ _ _ h21.symm).trans s20;rw [aJ h21.symm] at E;refine zQ 15 [(85,.buf 14),(2,.ptr 10 0),(0,.ptr 0 0)] [psB src (ix L r21),tkB L,(10,.cells 49 [.v (.string a1),.v (.string a3),nV a5,nV a7,.buf 11,.buf 12,.buf 13,nV a13,nV b13,nV a15,nV b15,nV a17,nV b17,nV a19,.v (.slice none 0 0),nV 0,nV 0]),(11,.own 191 4 (rws Cd.row [])),(12,.own 55 7 (rws Am.row a10)),(13,.own 55 7 (rws Am.row a11)),(14,.own 272 3 (rws Rn.row a21))] ?_;refine sqs ?_;refine aA.callN (cE src L r21 s21 hL [B [125]] (by decide)) [0,1,2,3,4,5,6,7,8,9,15] ?_ sH ?CNa22;case CNa22=>rfl
 rintro (⟨_,r22⟩|⟨r22,e22⟩) h22<;>conv=>whnf
 all_goals rw [lV K s21 (V.s 125 (by decide))] at h22
 rotate_left
 ·try refine aA.panicU ?_
  exact zV Tryz.func170 ((Rs.bad r22 e22:Rs RcV)) ((by rw [E,aV h22.symm]))
 have s22:=(((cL _ _).1).suf _ _ _ h22.symm).trans s21;rw [aJ h22.symm] at E;refine zQ 15 [(2,.ptr 10 0),(0,.ptr 0 0)] [psB src (ix L r22),tkB L,(10,.cells 49 [.v (.string a1),.v (.string a3),nV a5,nV a7,.buf 11,.buf 12,.buf 13,nV a13,nV b13,nV a15,nV b15,nV a17,nV b17,nV a19,.buf 14,nV 0,nV 0]),(11,.own 191 4 (rws Cd.row [])),(12,.own 55 7 (rws Am.row a10)),(13,.own 55 7 (rws Am.row a11)),(14,.own 272 3 (rws Rn.row a21))] ?_;refine sqs ?_;exact zI Tryz.func170 ((Rs.ok ⟨a1,a3,a5,a7,hd0,[],hd0,a10,hd0,a11,a13,b13,a15,b15,a17,b17,a19,hd0,a21,0,0⟩ r22:Rs RcV)) ((by rw [E];rfl)) [(10,11),(11,12),(12,13),(13,14)]
end

def bufsK (k n:Nat):List SV:=[2,3,4,5,6,7,8,9].map fun j=>.buf (if j=k+2 then n else j)
def outK {α:Type} (src:ByteArray) (L:List Tok) (k e sz:Nat) (row:α->List Value) (n:Nat):Rs (List α)->eR
 | .ok l r=>.ret (.tup []) (n+1) [(0,.cells 152 (.v (.string src)::.buf 1::nV (ix L r)::bufsK k n)),tkB L,(n,.own e sz (rws row l))]
 | .bad r e=>.pan (aEY (pV src.size e r)) (n+1) [psB src (ix L r),tkB L]
section
variable (src:ByteArray) (L r:List Tok) (hr:r <:+ L) (hL:L.length<=65536) {N:ByteArray->Prop} (K:KL N L) (V:aDJ N)
include hr hL K V
theorem aYD (l:List Un) (most:Nat) (hm:most<=1000) (hne:r ≠ []):FnS Tryz.prog 151 10 [.ptr 0 0,.ptr 0 3,nV most,fnV 152] [psB src (ix L r),tkB L,(2,.own 100 8 (rws Un.row l))]
  (fun x:Rs (List Un)=>x=jM qS most l r) (outK src L 0 100 8 Un.row 10):=by
 have ll:=aE Un.row l;obtain ⟨x,r,rfl⟩:∃x r',r=x::r':=by cases r with|nil=>exact absurd rfl hne|cons x r=>exact ⟨x,r,rfl⟩
 refine zS Tryz.func151 Tryz.ntmps151 fun E0 F h w0 cs=>?_;refine aA.callN (jI src L (x::r) hr hL (rws Un.row l).length most hne) [0,1,2,3,4,5,6,7,8,9] ?_ sH ?CNa1;case CNa1=>rfl
 rintro (⟨_,r1⟩|⟨r1,e1⟩) h1<;>conv=>whnf
 rotate_left
 ·by_cases hb:(most:Int)<=((rws Un.row l).length:Nat)
  ·rw [if_pos hb] at h1;cases h1;exact zV Tryz.func151 ((Rs.bad (x::r) 2:Rs (List Un))) ((by unfold jM;rw [if_pos (by omega)]))
  rw [if_neg hb] at h1;cases h1
 by_cases hb:(most:Int)<=((rws Un.row l).length:Nat)
 ·rw [if_pos hb] at h1;cases h1
 rw [if_neg hb] at h1;cases h1;refine zQ 10 [(0,.ptr 0 0),(1,.ptr 0 3),(3,fnV 152)] [psB src (ix L r),tkB L,(2,.own 100 8 (rws Un.row l))] ?_;refine sqs ?_;refine zH (fls 0 6 (.e1 6 [3] (.e1 7 [3] (.e1 8 [] (.fl 9 (.e1 10 [] .done)))))) ?_;refine squ ?_;refine aK.callN (bCS src L r (eK hr) hL K V) [0,1,2,3,4,5,6,7,8,9] ?_ sH ?CNa2;case CNa2=>rfl
 rintro (⟨a,r2⟩|⟨r2,e2⟩) h2<;>conv=>whnf
 rotate_left
 ·try refine aA.panicU ?_
  exact zV Tryz.func151 ((Rs.bad r2 e2:Rs (List Un))) ((by unfold jM;rw [if_neg (by omega)];exact (aV h2.symm).symm))
 conv=>whnf
 try refine oB ?_
 refine fA ?_;conv=>whnf
 refine And.intro (fL (by rw [ll];show l.length+1<=1000000;omega)) ?_;conv=>whnf
 refine sqB ?_;refine sqs ?_;refine sqs ?_;refine aA.rowsEq (rows':=rws Un.row (l++[a])) 12 ?e1 ?_;case e1=>unfold rws;rw [List.map_append];rfl
 conv=>whnf
 exact zI Tryz.func151 ((Rs.ok (l++[a]) r2:Rs (List Un))) ((by unfold jM;rw [if_neg (by omega)];exact (aJ (f:=fun a=>pur (l++[a])) h2.symm).symm)) [(10,12)]
theorem bCY (l:List It) (most:Nat) (hm:most<=1000) (hne:r ≠ []):FnS Tryz.prog 154 10 [.ptr 0 0,.ptr 0 4,nV most,fnV 155] [psB src (ix L r),tkB L,(3,.own 85 6 (rws It.row l))]
  (fun x:Rs (List It)=>x=jM nN most l r) (outK src L 1 85 6 It.row 10):=by
 have ll:=aE It.row l;obtain ⟨x,r,rfl⟩:∃x r',r=x::r':=by cases r with|nil=>exact absurd rfl hne|cons x r=>exact ⟨x,r,rfl⟩
 refine zS Tryz.func154 Tryz.ntmps154 fun E0 F h w0 cs=>?_;refine aA.callN (jI src L (x::r) hr hL (rws It.row l).length most hne) [0,1,2,3,4,5,6,7,8,9] ?_ sH ?CNa3;case CNa3=>rfl
 rintro (⟨_,r1⟩|⟨r1,e1⟩) h1<;>conv=>whnf
 rotate_left
 ·by_cases hb:(most:Int)<=((rws It.row l).length:Nat)
  ·rw [if_pos hb] at h1;cases h1;exact zV Tryz.func154 ((Rs.bad (x::r) 2:Rs (List It))) ((by unfold jM;rw [if_pos (by omega)]))
  rw [if_neg hb] at h1;cases h1
 by_cases hb:(most:Int)<=((rws It.row l).length:Nat)
 ·rw [if_pos hb] at h1;cases h1
 rw [if_neg hb] at h1;cases h1;refine zQ 10 [(0,.ptr 0 0),(1,.ptr 0 4),(3,fnV 155)] [psB src (ix L r),tkB L,(3,.own 85 6 (rws It.row l))] ?_;refine sqs ?_;refine zH (fls 0 6 (.e1 6 [3] (.e1 7 [3] (.e1 8 [] (.fl 9 (.e1 10 [] .done)))))) ?_;refine squ ?_;refine aK.callN (aYL src L r (eK hr) hL K V) [0,1,2,3,4,5,6,7,8,9] ?_ sH ?CNa4;case CNa4=>rfl
 rintro (⟨a,r2⟩|⟨r2,e2⟩) h2<;>conv=>whnf
 rotate_left
 ·try refine aA.panicU ?_
  exact zV Tryz.func154 ((Rs.bad r2 e2:Rs (List It))) ((by unfold jM;rw [if_neg (by omega)];exact (aV h2.symm).symm))
 conv=>whnf
 try refine oB ?_
 refine fA ?_;conv=>whnf
 refine And.intro (fL (by rw [ll];show l.length+1<=1000000;omega)) ?_;conv=>whnf
 refine sqB ?_;refine sqs ?_;refine sqs ?_;refine aA.rowsEq (rows':=rws It.row (l++[a])) 12 ?e1 ?_;case e1=>unfold rws;rw [List.map_append];rfl
 conv=>whnf
 exact zI Tryz.func154 ((Rs.ok (l++[a]) r2:Rs (List It))) ((by unfold jM;rw [if_neg (by omega)];exact (aJ (f:=fun a=>pur (l++[a])) h2.symm).symm)) [(10,12)]
theorem bBP (l:List ByteArray) (most:Nat) (hm:most<=1000) (hne:r ≠ []):FnS Tryz.prog 157 10 [.ptr 0 0,.ptr 0 5,nV most,fnV 158] [psB src (ix L r),tkB L,(4,.own 9 1 (rws xZ l))]
  (fun x:Rs (List ByteArray)=>x=jM tF most l r) (outK src L 2 9 1 xZ 10):=by
 have ll:=aE xZ l;obtain ⟨x,r,rfl⟩:∃x r',r=x::r':=by cases r with|nil=>exact absurd rfl hne|cons x r=>exact ⟨x,r,rfl⟩
 refine zS Tryz.func157 Tryz.ntmps157 fun E0 F h w0 cs=>?_;refine aA.callN (jI src L (x::r) hr hL (rws xZ l).length most hne) [0,1,2,3,4,5,6,7,8,9] ?_ sH ?CNa5;case CNa5=>rfl
 rintro (⟨_,r1⟩|⟨r1,e1⟩) h1<;>conv=>whnf
 rotate_left
 ·by_cases hb:(most:Int)<=((rws xZ l).length:Nat)
  ·rw [if_pos hb] at h1;cases h1;exact zV Tryz.func157 ((Rs.bad (x::r) 2:Rs (List ByteArray))) ((by unfold jM;rw [if_pos (by omega)]))
  rw [if_neg hb] at h1;cases h1
 by_cases hb:(most:Int)<=((rws xZ l).length:Nat)
 ·rw [if_pos hb] at h1;cases h1
 rw [if_neg hb] at h1;cases h1;refine zQ 10 [(0,.ptr 0 0),(1,.ptr 0 5),(3,fnV 158)] [psB src (ix L r),tkB L,(4,.own 9 1 (rws xZ l))] ?_;refine sqs ?_;refine zH (fls 0 6 (.e1 6 [3] (.e1 7 [3] (.e1 8 [] (.fl 9 (.e1 10 [] .done)))))) ?_;refine squ ?_;refine aK.callN (aXH src L r (eK hr) hL K V) [0,1,2,3,4,5,6,7,8,9] ?_ sH ?CNa6;case CNa6=>rfl
 rintro (⟨a,r2⟩|⟨r2,e2⟩) h2<;>conv=>whnf
 rotate_left
 ·try refine aA.panicU ?_
  exact zV Tryz.func157 ((Rs.bad r2 e2:Rs (List ByteArray))) ((by unfold jM;rw [if_neg (by omega)];exact (aV h2.symm).symm))
 conv=>whnf
 try refine oB ?_
 refine fA ?_;conv=>whnf
 refine And.intro (fL (by rw [ll];show l.length+1<=1000000;omega)) ?_;conv=>whnf
 refine sqB ?_;refine sqs ?_;refine sqs ?_;refine aA.rowsEq (rows':=rws xZ (l++[a])) 12 ?e1 ?_;case e1=>unfold rws;rw [List.map_append];rfl
 conv=>whnf
 exact zI Tryz.func157 ((Rs.ok (l++[a]) r2:Rs (List ByteArray))) ((by unfold jM;rw [if_neg (by omega)];exact (aJ (f:=fun a=>pur (l++[a])) h2.symm).symm)) [(10,12)]
end
end Go.Proofs.YthjedpdedjhndaaGreatDoor

namespace Go.SynM
open Go Go.Fw Go.RatM Go.SrcM
open Go.Proofs.YthjedpdedjhndaaGreatDoor (Tok)
section
variable {α β:Type}
def Rs.fm (f:α->β):Rs α->Rs β
 | .ok a r=>.ok (f a) r
 | .bad r e=>.bad r e
def Rs.all (Q:α->Prop):Rs α->Prop
 | .ok a _=>Q a
 | .bad _ _=>True
def nO (p:P α) (most n:Nat):P α:=fun r=>if most<=n then .bad r 2 else p r.tail
theorem rM {p:P α} {most:Nat} {l:List α} {r:List Tok}:jM p most l r=(nO p most l.length r).fm fun a=>l++[a]:=by
 unfold jM nO bnd;split
 ·rfl
 cases p r.tail<;>rfl
end
theorem aZU {r r':List Tok} {a:RcV} (h:aDF r=.ok a r'):a.bare=a:=by
 have G:∀ {α:Type} {p:P α} {f:α->P RcV},(∀a r r' x,f a r=.ok x r'->x.bare=x) -> ∀r r' x,bnd p f r=.ok x r'->x.bare=x:=fun hf r r' x h=>by
  unfold bnd at h;split at h
  ·exact hf _ _ _ _ h
  cases h
 unfold aDF at h
 revert h
 iterate 24 refine G (fun _=>?_) r r' a;clear r r' a;intro r r' a
 exact fun h=>by have:=(Rs.ok.inj h).1;subst this;rfl
end Go.SynM
namespace Go.Proofs.YthjedpdedjhndaaGreatDoor
open Go Go.Fw Go.NatM Go.RatM Go.SrcM Go.SynM
def outN {α:Type} (src:ByteArray) (L:List Tok) (k e sz:Nat) (row:α->List Value) (l:List α) (n:Nat):Rs α->eR
 | .ok a r=>.ret (.tup []) (n+1) [(0,.cells 152 (.v (.string src)::.buf 1::nV (ix L r)::bufsK k n)),tkB L,(n,.own e sz (rws row (l++[a])))]
 | .bad r e=>.pan (aEY (pV src.size e r)) (n+1) [psB src (ix L r),tkB L]
section
variable (src:ByteArray) (L r:List Tok) (hr:r <:+ L) (hL:L.length<=65536) {N:ByteArray->Prop} (K:KL N L) (V:aDJ N)
include hr hL K V
theorem bAG (hIf:∀x∈L,x.text≠B wIf) (l:List RcV) (most:Nat) (hm:most<=1000) (hne:r ≠ []):FnX Tryz.prog 169 10 [.ptr 0 0,.ptr 0 9,nV most,fnV 170] [psB src (ix L r),tkB L,(8,.own 49 17 (rws RcV.row l))] (fun _ _=>True)
  (fun (x:Rs RcV) G h=>x.fm RcV.bare=nO aDF most l.length r/\x.all fun o=>o.ok G h) (outN src L 6 49 17 RcV.row l 10):=by
 have ll:=aE RcV.row l;obtain ⟨x,r,rfl⟩:∃x r',r=x::r':=by cases r with|nil=>exact absurd rfl hne|cons x r=>exact ⟨x,r,rfl⟩
 refine zX Tryz.func169 Tryz.ntmps169 fun E0 F G h N hP w0 cs=>?_;refine aA.callN (jI src L (x::r) hr hL (rws RcV.row l).length most hne) [0,1,2,3,4,5,6,7,8,9] ?_ sH ?CNa5;case CNa5=>rfl
 rintro (⟨_,r1⟩|⟨r1,e1⟩) h1<;>conv=>whnf
 rotate_left
 ·by_cases hb:(most:Int)<=((rws RcV.row l).length:Nat)
  ·rw [if_pos hb] at h1;cases h1;exact aB.pan Tryz.func169 (jP.mk (N) ((Rs.bad (x::r) 2:Rs RcV)) (fun h U=>⟨by unfold nO;rw [if_pos (by omega)];rfl,trivial⟩) [] sH rfl rfl (aQ rfl))
  rw [if_neg hb] at h1;cases h1
 by_cases hb:(most:Int)<=((rws RcV.row l).length:Nat)
 ·rw [if_pos hb] at h1;cases h1
 rw [if_neg hb] at h1;cases h1;refine zQ 10 [(0,.ptr 0 0),(1,.ptr 0 9),(3,fnV 170)] [psB src (ix L r),tkB L,(8,.own 49 17 (rws RcV.row l))] ?_;refine sqs ?_;refine zH (fls 0 6 (.e1 6 [3] (.e1 7 [3] (.e1 8 [] (.fl 9 (.e1 10 [] .done)))))) ?_;refine squ ?_;refine aK.callN (prec_fn src L r (eK hr) hL K V hIf) [0,1,2,3,4,5,6,7,8,9] ?_ sH ?CNa6;case CNa6=>rfl
 rintro (⟨a,r2⟩|⟨r2,e2⟩) h2<;>conv=>whnf
 rotate_left
 ·exact aB.pan Tryz.func169 (jP.mk (N) ((Rs.bad r2 e2:Rs RcV)) (fun h U=>⟨by unfold nO;rw [if_neg (by omega)];exact h2,trivial⟩) [] sH rfl rfl (aQ rfl))
 conv=>whnf
 try refine oB ?_
 refine bG.concY (n:=a.cs.length) (N.gsub) 10 ?_ (hlen:=aE _ _);intro F1 a1 c1 G1 hh1 N1 R1;conv=>whnf
 refine bG.concY (n:=a.inn.length) (N1.gsub) 11 ?_ (hlen:=aE _ _);intro F2 a2 c2 G2 hh2 N2 R2;conv=>whnf
 refine bG.concY (n:=a.out.length) (N2.gsub) 12 ?_ (hlen:=aE _ _);intro F3 a3 c3 G3 hh3 N3 R3;conv=>whnf
 refine bG.concY (n:=a.runs.length) (N3.gsub) 13 ?_ (hlen:=aE _ _);intro F4 a4 c4 G4 hh4 N4 R4;refine bFN ?_;conv=>whnf
 refine And.intro (fL (by rw [ll];show l.length+1<=1000000;omega)) ?_;conv=>whnf
 refine sqB ?_;refine sqs ?_;refine sqs ?_;refine aA.rowsEq (rows':=rws RcV.row (l++[⟨a.item,a.plant,a.fr,a.to,⟨a1,c1⟩,a.cs,⟨a2,c2⟩,a.inn,⟨a3,c3⟩,a.out,a.rwN,a.rwD,a.yN,a.yD,a.tN,a.tD,a.lead,⟨a4,c4⟩,a.runs,a.inum,a.pnum⟩])) 15 ?e1 ?_;case e1=>unfold rws;rw [List.map_append];rfl
 conv=>whnf
 exact zU (aB.ret tab Tryz.func169 rfl (jP.mk (((N.trans N1).trans N2).trans (N3.trans N4)) ((Rs.ok ⟨a.item,a.plant,a.fr,a.to,⟨a1,c1⟩,a.cs,⟨a2,c2⟩,a.inn,⟨a3,c3⟩,a.out,a.rwN,a.rwD,a.yN,a.yD,a.tN,a.tD,a.lead,⟨a4,c4⟩,a.runs,a.inum,a.pnum⟩ r2:Rs RcV)) (fun h U=>⟨by unfold nO;rw [if_neg (by omega)];exact (congrArg (fun y=>Rs.ok y r2) (aZU h2.symm)).trans h2,⟨((R1.up (Now.step N1.gsub N2)).up ((Now.step N2.gsub N3).trans (Now.step N3.gsub N4))).up U,(R2.up ((Now.step N2.gsub N3).trans (Now.step N3.gsub N4))).up U,(R3.up (Now.step N3.gsub N4)).up U,R4.up U⟩⟩) [(10,15)] sH rfl rfl (bH rfl rfl)))
end
end Go.Proofs.YthjedpdedjhndaaGreatDoor

namespace Go.Proofs.YthjedpdedjhndaaGreatDoor
open Go Go.Fw Go.NatM Go.RatM Go.SrcM Go.SynM
section
variable (src:ByteArray) (L r:List Tok) (hr:r <:+ L) (hL:L.length<=65536) {N:ByteArray->Prop} (K:KL N L) (V:aDJ N)
include hr hL K V
theorem aSJ (l:List Un) (hne:r ≠ []):FnS Tryz.prog 150 10 [.ptr 0 0] [psB src (ix L r),tkB L,(2,.own 100 8 (rws Un.row l))]
  (fun x:Rs (List Un)=>x=jM qS 32 l r) (outK src L 0 100 8 Un.row 10):=by
 refine zS Tryz.func150 Tryz.ntmps150 fun E0 F h w0 cs=>?_;refine aA.callN (aYD src L r hr hL K V l 32 (by decide) hne) [0,1,2,3,4,5,6,7,8,9] ?_ sH ?CNa1;case CNa1=>rfl
 rintro (⟨a,r2⟩|⟨r2,e2⟩) h2<;>conv=>whnf
 ·try refine gS ?_
  conv=>whnf
  exact zI Tryz.func150 ((Rs.ok a r2:Rs (List Un))) (h2)
 try refine aA.panicU ?_
 exact zV Tryz.func150 ((Rs.bad r2 e2:Rs (List Un))) (h2)
theorem aRJ (l:List It) (hne:r ≠ []):FnS Tryz.prog 153 10 [.ptr 0 0] [psB src (ix L r),tkB L,(3,.own 85 6 (rws It.row l))]
  (fun x:Rs (List It)=>x=jM nN 32 l r) (outK src L 1 85 6 It.row 10):=by
 refine zS Tryz.func153 Tryz.ntmps153 fun E0 F h w0 cs=>?_;refine aA.callN (bCY src L r hr hL K V l 32 (by decide) hne) [0,1,2,3,4,5,6,7,8,9] ?_ sH ?CNa2;case CNa2=>rfl
 rintro (⟨a,r2⟩|⟨r2,e2⟩) h2<;>conv=>whnf
 ·try refine gS ?_
  conv=>whnf
  exact zI Tryz.func153 ((Rs.ok a r2:Rs (List It))) (h2)
 try refine aA.panicU ?_
 exact zV Tryz.func153 ((Rs.bad r2 e2:Rs (List It))) (h2)
theorem aOB (l:List ByteArray) (hne:r ≠ []):FnS Tryz.prog 156 10 [.ptr 0 0] [psB src (ix L r),tkB L,(4,.own 9 1 (rws xZ l))]
  (fun x:Rs (List ByteArray)=>x=jM tF 8 l r) (outK src L 2 9 1 xZ 10):=by
 refine zS Tryz.func156 Tryz.ntmps156 fun E0 F h w0 cs=>?_;refine aA.callN (bBP src L r hr hL K V l 8 (by decide) hne) [0,1,2,3,4,5,6,7,8,9] ?_ sH ?CNa3;case CNa3=>rfl
 rintro (⟨a,r2⟩|⟨r2,e2⟩) h2<;>conv=>whnf
 ·try refine gS ?_
  conv=>whnf
  exact zI Tryz.func156 ((Rs.ok a r2:Rs (List ByteArray))) (h2)
 try refine aA.panicU ?_
 exact zV Tryz.func156 ((Rs.bad r2 e2:Rs (List ByteArray))) (h2)
theorem aQT (hIf:∀x∈L,x.text≠B wIf) (l:List RcV) (hne:r ≠ []):FnX Tryz.prog 168 10 [.ptr 0 0] [psB src (ix L r),tkB L,(8,.own 49 17 (rws RcV.row l))] (fun _ _=>True)
  (fun (x:Rs RcV) G h=>x.fm RcV.bare=nO aDF 64 l.length r/\x.all fun o=>o.ok G h) (outN src L 6 49 17 RcV.row l 10):=by
 refine zX Tryz.func168 Tryz.ntmps168 fun E0 F G h N hP w0 cs=>?_;refine aA.callY (N.gsub) (bAG src L r hr hL K V hIf l 64 (by decide) hne) (fun _ _=>trivial) [0,1,2,3,4,5,6,7,8,9] sH ?CNa7 ?_;case CNa7=>rfl
 rintro _ x G1 h1 N1 J1;cases x<;>conv=>whnf
 ·rename_i a r2
  refine sqs ?_;exact zU (aB.ret tab Tryz.func168 rfl (eX (N.trans N1) ((Rs.ok a r2:Rs RcV)) (fun h U=>⟨J1.1,J1.2.up U⟩)))
 rename_i r2 e2
 exact aB.pan Tryz.func168 (jP.mk (N.trans N1) ((Rs.bad r2 e2:Rs RcV)) (fun h U=>⟨J1.1,trivial⟩) [] sH rfl rfl (aQ rfl))
end
abbrev dZ:List (Value×Value):=[(.string (B tM),.func (.func 150) #[] #[]),(.string (B tK),.func (.func 153) #[] #[]),(.string (B nJ),.func (.func 156) #[] #[]),(.string (B gJ),.func (.func 159) #[] #[]),(.string (B jS),.func (.func 162) #[] #[]),(.string (B jR),.func (.func 165) #[] #[]),(.string (B tO),.func (.func 168) #[] #[]),(.string (B rA),.func (.func 171) #[] #[])]
theorem mpT:Tryz.prog.underlying 153=some (.map 9 155):=by kernel_rfl
theorem stT:Tryz.prog.underlying 9=some .string:=by kernel_rfl
theorem nI {es:List (Value×Value)} {k:ByteArray} (ks:List ByteArray) (he:es.map Prod.fst=ks.map Value.string) (h:∀x∈ks,x≠k):eW es (.string k) none:=fun p hp e=>by
 have:p.1∈ks.map Value.string:=he▸List.mem_map_of_mem hp;obtain ⟨k',h1,h2⟩:=List.mem_map.1 this;rw [e] at h2;cases h2;exact h _ h1 rfl
theorem aON {es:List (Value×Value)} {k:ByteArray} {v:Value} (es1 es2:List (Value×Value)) (h:es=es1++(.string k,v)::es2) (h1:eW es1 (.string k) none) (h2:eW es2 (.string k) none):eW es (.string k) (some v):=by
 subst h;refine ⟨⟨_,List.mem_append_right _ (List.mem_cons_self ..),rfl⟩,fun p hp he=>?_⟩;rcases List.mem_append.1 hp with hp|hp
 ·exact absurd he (h1 p hp)
 rcases List.mem_cons.1 hp with rfl|hp
 ·rfl
 exact absurd he (h2 p hp)
abbrev wds:List ByteArray:=[B tM,B tK,B nJ,B gJ,B jS,B jR,B tO,B rA]
theorem defs_fn:FnS Tryz.prog 90 0 [] [] (fun _:Unit=>True) (fun _=>.ret (.buf 0) 1 [(0,.map .string dZ)]):=by
 refine zS Tryz.func90 Tryz.ntmps90 fun E0 F h w0 cs=>?_;refine aA.makeMap .string ?_;refine sqs ?_;refine aA.insert mpT stT (nI (k:=B tM) (wds.take 0) rfl (by decide)) rfl ?_;refine sqs ?_;refine aA.insert mpT stT (nI (k:=B tK) (wds.take 1) rfl (by decide)) rfl ?_;refine sqs ?_;refine aA.insert mpT stT (nI (k:=B nJ) (wds.take 2) rfl (by decide)) rfl ?_;refine sqs ?_;refine aA.insert mpT stT (nI (k:=B gJ) (wds.take 3) rfl (by decide)) rfl ?_;refine sqs ?_;refine aA.insert mpT stT (nI (k:=B jS) (wds.take 4) rfl (by decide)) rfl ?_;refine sqs ?_;refine aA.insert mpT stT (nI (k:=B jR) (wds.take 5) rfl (by decide)) rfl ?_;refine sqs ?_;refine aA.insert mpT stT (nI (k:=B tO) (wds.take 6) rfl (by decide)) rfl ?_;refine sqs ?_;refine aA.insert mpT stT (nI (k:=B rA) (wds.take 7) rfl (by decide)) rfl ?_;refine sqs ?_;exact zI Tryz.func90 () trivial
def defF (t:ByteArray):Option Value:=
 if t=B tM then some (.func (.func 150) #[] #[]) else if t=B tK then some (.func (.func 153) #[] #[]) else if t=B nJ then some (.func (.func 156) #[] #[]) else if t=B gJ then some (.func (.func 159) #[] #[]) else if t=B jS then some (.func (.func 162) #[] #[]) else if t=B jR then some (.func (.func 165) #[] #[]) else if t=B tO then some (.func (.func 168) #[] #[]) else if t=B rA then some (.func (.func 171) #[] #[]) else none
theorem aDX (t:ByteArray):eW dZ (.string t) (defF t):=by
 unfold defF;repeat' split
 ·rename_i h;subst h;exact aON (dZ.take 0) (dZ.drop 1) rfl (nI (wds.take 0) rfl (by decide)) (nI (wds.drop 1) rfl (by decide))
 ·rename_i h;subst h;exact aON (dZ.take 1) (dZ.drop 2) rfl (nI (wds.take 1) rfl (by decide)) (nI (wds.drop 2) rfl (by decide))
 ·rename_i h;subst h;exact aON (dZ.take 2) (dZ.drop 3) rfl (nI (wds.take 2) rfl (by decide)) (nI (wds.drop 3) rfl (by decide))
 ·rename_i h;subst h;exact aON (dZ.take 3) (dZ.drop 4) rfl (nI (wds.take 3) rfl (by decide)) (nI (wds.drop 4) rfl (by decide))
 ·rename_i h;subst h;exact aON (dZ.take 4) (dZ.drop 5) rfl (nI (wds.take 4) rfl (by decide)) (nI (wds.drop 5) rfl (by decide))
 ·rename_i h;subst h;exact aON (dZ.take 5) (dZ.drop 6) rfl (nI (wds.take 5) rfl (by decide)) (nI (wds.drop 6) rfl (by decide))
 ·rename_i h;subst h;exact aON (dZ.take 6) (dZ.drop 7) rfl (nI (wds.take 6) rfl (by decide)) (nI (wds.drop 7) rfl (by decide))
 ·rename_i h;subst h;exact aON (dZ.take 7) (dZ.drop 8) rfl (nI (wds.take 7) rfl (by decide)) (nI (wds.drop 8) rfl (by decide))
 exact nI wds rfl (by simp only [List.forall_mem_cons];exact ⟨Ne.symm (by assumption),Ne.symm (by assumption),Ne.symm (by assumption),Ne.symm (by assumption),Ne.symm (by assumption),Ne.symm (by assumption),Ne.symm (by assumption),Ne.symm (by assumption),fun _ h=>nomatch h⟩)
end Go.Proofs.YthjedpdedjhndaaGreatDoor

namespace Go.SynM
open Go Go.Fw Go.RatM Go.SrcM
open Go.Proofs.YthjedpdedjhndaaGreatDoor (Tok)
section
variable {s:aG} {x:Tok} {r:List Tok}
theorem aKT {t:ByteArray} (hk:x.kind=1) (ht:x.text=t):isT 1 t (x::r)=true:=by simp only [isT,hk,ht];decide
theorem sJ {t u:ByteArray} (ht:x.text=t) (h:t≠u):isT 1 u (x::r)=false:=by simp only [isT,ht];exact decide_eq_false fun e=>h e.2
theorem jE {α:Type} {t:ByteArray} {n most:Nat} {p q:P α} (h:isT 1 t r=false):brP t n most p q r=q r:=by simp only [brP,h];rfl
theorem aKJ {α:Type} {t:ByteArray} {n most:Nat} {p:P α} {q:P aG} {f:α->P aG} (h:isT 1 t r=true):brP t n most (bnd p f) q r=bnd (nO p most n) f r:=by
 simp only [brP,h,if_true,bnd,nO];split<;>rfl
theorem aHW (hk:x.kind=1) (ht:x.text=B tM):mX s (x::r)=bnd (nO qS 32 s.units.length) (fun a=>pur {s with units:=s.units++[a]}) (x::r):=by
 unfold mX;rw [aKJ (aKT hk ht)]
theorem aJA (hk:x.kind=1) (ht:x.text=B tK):mX s (x::r)=bnd (nO nN 32 s.items.length) (fun a=>pur {s with items:=s.items++[a]}) (x::r):=by
 unfold mX;rw [jE (sJ ht (by decide)),aKJ (aKT hk ht)]
theorem aEG (hk:x.kind=1) (ht:x.text=B nJ):mX s (x::r)=bnd (nO tF 8 s.plants.length) (fun a=>pur {s with plants:=s.plants++[a]}) (x::r):=by
 unfold mX;rw [jE (sJ ht (by decide)),jE (sJ ht (by decide)),aKJ (aKT hk ht)]
theorem aCU (hk:x.kind=1) (ht:x.text=B tO):mX s (x::r)=bnd (nO aDF 64 s.recipes.length) (fun a=>pur {s with recipes:=s.recipes++[a]}) (x::r):=by
 unfold mX;rw [jE (sJ ht (by decide)),jE (sJ ht (by decide)),jE (sJ ht (by decide)),jE (sJ ht (by decide)),jE (sJ ht (by decide)),jE (sJ ht (by decide)),aKJ (aKT hk ht)]
theorem aYX (h:x.kind≠1\/(x.text≠B tM/\x.text≠B tK/\x.text≠B nJ/\x.text≠B gJ/\x.text≠B jS/\x.text≠B jR/\x.text≠B tO/\x.text≠B rA)):mX s (x::r)=.bad (x::r) 100:=by
 have G:∀t ∈ [tM,tK,nJ,gJ,jS,jR,tO,rA],isT 1 (B t) (x::r)=false:=fun t ht=>by
  refine decide_eq_false fun e=>?_;rcases h with h|h
  ·exact h e.1
  simp only [List.mem_cons,List.not_mem_nil,or_false] at ht;rcases ht with rfl|rfl|rfl|rfl|rfl|rfl|rfl|rfl<;>simp [e.2] at h
 simp only [List.forall_mem_cons] at G;obtain ⟨g1,g2,g3,g4,g5,g6,g7,g8,-⟩:=G;unfold mX;rw [jE g1,jE g2,jE g3,jE g4,jE g5,jE g6,jE g7,jE g8];rfl
theorem aQU (t:ByteArray):t=B tM\/t=B tK\/t=B nJ\/t=B gJ\/t=B jS\/t=B jR\/t=B tO\/t=B rA\/(t≠B tM/\t≠B tK/\t≠B nJ/\t≠B gJ/\t≠B jS/\t≠B jR/\t≠B tO/\t≠B rA):=by
 by_cases h1:t=B tM
 ·exact .inl h1
 by_cases h2:t=B tK
 ·exact .inr (.inl h2)
 by_cases h3:t=B nJ
 ·exact .inr (.inr (.inl h3))
 by_cases h4:t=B gJ
 ·exact .inr (.inr (.inr (.inl h4)))
 by_cases h5:t=B jS
 ·exact .inr (.inr (.inr (.inr (.inl h5))))
 by_cases h6:t=B jR
 ·exact .inr (.inr (.inr (.inr (.inr (.inl h6)))))
 by_cases h7:t=B tO
 ·exact .inr (.inr (.inr (.inr (.inr (.inr (.inl h7))))))
 by_cases h8:t=B rA
 ·exact .inr (.inr (.inr (.inr (.inr (.inr (.inr (.inl h8)))))))
 exact .inr (.inr (.inr (.inr (.inr (.inr (.inr (.inr ⟨h1,h2,h3,h4,h5,h6,h7,h8⟩)))))))
end
abbrev tQ (s:aG) (r:List Tok):Rs aG:=aFB (r.length+1) s r
theorem bBZ (s:aG):tQ s []=.ok s []:=rfl
theorem bBS {s:aG} {x:Tok} {r r':List Tok} {e:Nat} (h:mX s (x::r)=.bad r' e):tQ s (x::r)=.bad r' e:=by
 show (if x::r=[] then Rs.ok s [] else bnd (mX s) (aFB (x::r).length) (x::r))=_;rw [if_neg (List.cons_ne_nil _ _),aV h]
theorem xA {s s':aG} {x:Tok} {r r':List Tok} (hl:r'.length<=r.length) (h:mX s (x::r)=.ok s' r'):tQ s (x::r)=tQ s' r':=by
 show (if x::r=[] then Rs.ok s [] else bnd (mX s) (aFB (x::r).length) (x::r))=_;rw [if_neg (List.cons_ne_nil _ _),aJ h];exact aID _ _ _ _ (by simp only [List.length_cons];omega) (Nat.lt_succ_self _)
theorem aAX {α:Type} {p:P α} {most n:Nat} {x:Tok} {q r:List Tok} {a:α} (hg:nZ p) (h:nO p most n (x::q)=.ok a r):r <:+ q:=by
 unfold nO at h;split at h
 ·cases h
 exact hg.suf _ _ _ h
theorem fm_ok {α β:Type} {f:α->β} {y:Rs α} {b:β} {r:List Tok} (h:y.fm f=.ok b r):∃a,y=.ok a r/\f a=b:=by
 cases y with
 |ok a r'=>cases h;exact ⟨a,rfl,rfl⟩
 |bad=>cases h
theorem aPZ {α β:Type} {f:α->β} {y:Rs α} {e:Nat} {r:List Tok} (h:y.fm f=.bad r e):y=.bad r e:=by
 cases y with
 |ok a r'=>cases h
 |bad=>cases h;rfl
end Go.SynM
namespace Go.Proofs.YthjedpdedjhndaaGreatDoor
open Go Go.Fw Go.NatM Go.RatM Go.SrcM Go.SynM
theorem bBG {src:ByteArray} (hs:src.size<=65536) {l:List (Nat×Tk)} (h:aHL (bs src) 0=.inl l):FnS Tryz.prog 88 0 [.v (.string src)] [] (fun _:Unit=>True) (fun _=>.ret (.tup [.buf 0,nV 0,nV 0]) 1 [kD (uD l) 0]):=by
 have:=lex_fn src hs;have e:lexO src=.ret (.tup [.buf 0,nV 0,nV 0]) 1 [kD (uD l) 0]:=by
  unfold lexO lexA;rw [lexG_eq src 0 (Nat.zero_le _),List.drop_zero,h]
  simp
 rwa [e] at this
structure PsX where
 s:aG
 at_:Int
 e:Int
 U:Value
 I:Value
 P:Value
 M:Value
 O:Value
 F:Value
 R:Value
 S:Value
structure PsJ (q:aG) (y:PsX) (G:Nat->Prop) (h:Array Obj):Prop where
 top:pW G h y.U y.I y.P y.M y.O y.F y.R y.S y.s
 res:y.s.bare=q/\y.at_=0/\y.e=0
def psOut (y:PsX):eR:=.ret (.tup [srcA y.U y.I y.P y.M y.O y.F y.R y.S,nV y.at_,nV y.e]) 0 []
abbrev yM:List SV:=[.v cD,.v cD,.v cD,.v cD,.v cD,.v cD,.v cD,.v cD]
theorem aQB:mW Tryz.prog 89 3 [.ptr 0 0,.ptr 1 0,.ptr 2 0] [] .returning (fun _:Unit=>True) (fun _=>⟨.returning,3,[]⟩):=by
 refine mW.of Tryz.func89 (by kernel_rfl) rfl Tryz.ntmps89 rfl fun E0 F h w0 c0 cs=>?_;refine sqs ?_;refine aA.recoverN ?_;refine sqs ?_;refine aA.effV (fun E h=>pG Tryz.underlying20) ?_;refine sqs ?_;refine aA.finU (aB.retD tab Tryz.func89 rfl (zJ.mk () trivial [] trivial rfl rfl rfl))
theorem fnZ (w:World):(zeroValue 155).run Tryz.prog w=.ok .nilFunc w:=by kernel_rfl
theorem badC {L:List Tok} {s z:aG} {x:Tok} {q r:List Tok} {e:Nat} (hok:tQ noS L=.ok z []) (hJ:tQ noS L=tQ s (x::q)) (h:mX s (x::q)=.bad r e):False:=by
 rw [hJ,bBS h] at hok;cases hok
theorem aVV (src:ByteArray) (hs:src.size<=65536) {tl:List (Nat×Tk)} (hl:aHL (bs src) 0=.inl tl) {L:List Tok} (hL:L=uD tl) (hLn:L.length<=65536) {N:ByteArray->Prop} (KT:KL N L) (V:aDJ N)
  (hw:∀x∈L,x.text≠B gJ/\x.text≠B jS/\x.text≠B jR/\x.text≠B rA/\x.text≠B wIf/\(x.kind=1\/x.text.size<=1)) {z:aG} (hok:tQ noS L=.ok z []):
  FnX Tryz.prog 54 0 [.v (.string src)] [] (fun _ _=>True) (fun y G h=>PsJ z y G h) psOut:=by
 have hIf:∀x∈L,x.text≠B wIf:=fun x hx=>(hw x hx).2.2.2.2.1;have wk:∀x∈L,∀t,x.text=t -> ¬t.size<=1->x.kind=1:=fun x hx t ht h=>(hw x hx).2.2.2.2.2.resolve_right (ht▸h);have CL:=bBG hs hl;rw [<-hL] at CL;clear hL hl;have lm:(L.map Tok.row).length=L.length:=List.length_map _;refine zX Tryz.func54 Tryz.ntmps54 fun E0 F G h N hP w0 cs=>?_;refine zN (CL) [] ?_;refine bZ ?_;refine aA.deferU ?_;refine sqs ?_;refine zN (defs_fn) [] ?_;refine sqs ?_;refine zQ 6 [(2,.ptr 0 0),(3,.ptr 1 0),(4,.ptr 2 0),(6,.ptr 4 0),(7,.buf 5)] [(0,.cells 31 yM),(1,.cells 3 [nV 0]),(2,.cells 36 [nV 0]),(3,.own 158 4 (L.map Tok.row)),(4,.cells 152 [.v (.string src),.buf 3,nV 0,.v cD,.v cD,.v cD,.v cD,.v cD,.v cD,.v cD,.v cD]),(5,.map .string dZ)] ?_;refine aA.nilOwn (l':=[(2,.ptr 0 0),(3,.ptr 1 0),(4,.ptr 2 0),(6,.ptr 4 0),(7,.buf 5)]) (H':=[(0,.cells 31 yM),(1,.cells 3 [nV 0]),(2,.cells 36 [nV 0]),(3,.own 158 4 (L.map Tok.row)),(4,.cells 152 [.v (.string src),.buf 3,nV 0,.buf 6,.v cD,.v cD,.v cD,.v cD,.v cD,.v cD,.v cD]),(5,.map .string dZ)]) 100 8 ?_ (by rfl) (by rfl) (by rfl);refine aA.nilOwn (l':=[(2,.ptr 0 0),(3,.ptr 1 0),(4,.ptr 2 0),(6,.ptr 4 0),(7,.buf 5)]) (H':=[(6,.own 100 8 []),(0,.cells 31 yM),(1,.cells 3 [nV 0]),(2,.cells 36 [nV 0]),(3,.own 158 4 (L.map Tok.row)),(4,.cells 152 [.v (.string src),.buf 3,nV 0,.buf 6,.buf 7,.v cD,.v cD,.v cD,.v cD,.v cD,.v cD]),(5,.map .string dZ)]) 85 6 ?_ (by rfl) (by rfl) (by rfl);refine aA.nilOwn (l':=[(2,.ptr 0 0),(3,.ptr 1 0),(4,.ptr 2 0),(6,.ptr 4 0),(7,.buf 5)]) (H':=[(7,.own 85 6 []),(6,.own 100 8 []),(0,.cells 31 yM),(1,.cells 3 [nV 0]),(2,.cells 36 [nV 0]),(3,.own 158 4 (L.map Tok.row)),(4,.cells 152 [.v (.string src),.buf 3,nV 0,.buf 6,.buf 7,.buf 8,.v cD,.v cD,.v cD,.v cD,.v cD]),(5,.map .string dZ)]) 9 1 ?_ (by rfl) (by rfl) (by rfl);refine aA.nilOwn (l':=[(2,.ptr 0 0),(3,.ptr 1 0),(4,.ptr 2 0),(6,.ptr 4 0),(7,.buf 5)]) (H':=[(8,.own 9 1 []),(7,.own 85 6 []),(6,.own 100 8 []),(0,.cells 31 yM),(1,.cells 3 [nV 0]),(2,.cells 36 [nV 0]),(3,.own 158 4 (L.map Tok.row)),(4,.cells 152 [.v (.string src),.buf 3,nV 0,.buf 6,.buf 7,.buf 8,.buf 9,.v cD,.v cD,.v cD,.v cD]),(5,.map .string dZ)]) 136 4 ?_ (by rfl) (by rfl) (by rfl);refine aA.nilOwn (l':=[(2,.ptr 0 0),(3,.ptr 1 0),(4,.ptr 2 0),(6,.ptr 4 0),(7,.buf 5)]) (H':=[(9,.own 136 4 []),(8,.own 9 1 []),(7,.own 85 6 []),(6,.own 100 8 []),(0,.cells 31 yM),(1,.cells 3 [nV 0]),(2,.cells 36 [nV 0]),(3,.own 158 4 (L.map Tok.row)),(4,.cells 152 [.v (.string src),.buf 3,nV 0,.buf 6,.buf 7,.buf 8,.buf 9,.buf 10,.v cD,.v cD,.v cD]),(5,.map .string dZ)]) 102 2 ?_ (by rfl) (by rfl) (by rfl);refine aA.nilOwn (l':=[(2,.ptr 0 0),(3,.ptr 1 0),(4,.ptr 2 0),(6,.ptr 4 0),(7,.buf 5)]) (H':=[(10,.own 102 2 []),(9,.own 136 4 []),(8,.own 9 1 []),(7,.own 85 6 []),(6,.own 100 8 []),(0,.cells 31 yM),(1,.cells 3 [nV 0]),(2,.cells 36 [nV 0]),(3,.own 158 4 (L.map Tok.row)),(4,.cells 152 [.v (.string src),.buf 3,nV 0,.buf 6,.buf 7,.buf 8,.buf 9,.buf 10,.buf 11,.v cD,.v cD]),(5,.map .string dZ)]) 45 1 ?_ (by rfl) (by rfl) (by rfl);refine aA.nilOwn (l':=[(2,.ptr 0 0),(3,.ptr 1 0),(4,.ptr 2 0),(6,.ptr 4 0),(7,.buf 5)]) (H':=[(11,.own 45 1 []),(10,.own 102 2 []),(9,.own 136 4 []),(8,.own 9 1 []),(7,.own 85 6 []),(6,.own 100 8 []),(0,.cells 31 yM),(1,.cells 3 [nV 0]),(2,.cells 36 [nV 0]),(3,.own 158 4 (L.map Tok.row)),(4,.cells 152 [.v (.string src),.buf 3,nV 0,.buf 6,.buf 7,.buf 8,.buf 9,.buf 10,.buf 11,.buf 12,.v cD]),(5,.map .string dZ)]) 49 17 ?_ (by rfl) (by rfl) (by rfl);refine aA.nilOwn (l':=[(2,.ptr 0 0),(3,.ptr 1 0),(4,.ptr 2 0),(6,.ptr 4 0),(7,.buf 5)]) (H':=[(12,.own 49 17 []),(11,.own 45 1 []),(10,.own 102 2 []),(9,.own 136 4 []),(8,.own 9 1 []),(7,.own 85 6 []),(6,.own 100 8 []),(0,.cells 31 yM),(1,.cells 3 [nV 0]),(2,.cells 36 [nV 0]),(3,.own 158 4 (L.map Tok.row)),(4,.cells 152 [.v (.string src),.buf 3,nV 0,.buf 6,.buf 7,.buf 8,.buf 9,.buf 10,.buf 11,.buf 12,.buf 13]),(5,.map .string dZ)]) 142 4 ?_ (by rfl) (by rfl) (by rfl);have i0:(0:Int)=ix L L:=by show (0:Int)=((L.length - L.length:Nat):Int);rw [Nat.sub_self];rfl
 refine zQ 14 [(2,.ptr 0 0),(3,.ptr 1 0),(4,.ptr 2 0),(6,.ptr 4 0),(7,.buf 5)] [(0,.cells 31 yM),(1,.cells 3 [nV 0]),(2,.cells 36 [nV 0]),(3,.own 158 4 (L.map Tok.row)),(4,.cells 152 [.v (.string src),.buf 3,nV 0,.buf 6,.buf 7,.buf 8,.buf 9,.buf 10,.buf 11,.buf 12,.buf 13]),(5,.map .string dZ),(6,.own 100 8 []),(7,.own 85 6 []),(8,.own 9 1 []),(9,.own 136 4 []),(10,.own 102 2 []),(11,.own 45 1 []),(12,.own 49 17 []),(13,.own 142 4 [])] ?_;rw [show ((4,.cells 152 [.v (.string src),.buf 3,nV 0,.buf 6,.buf 7,.buf 8,.buf 9,.buf 10,.buf 11,.buf 12,.buf 13]):Nat×Fw.Blk)=(4,.cells 152 [.v (.string src),.buf 3,nV (ix L L),.buf 6,.buf 7,.buf 8,.buf 9,.buf 10,.buf 11,.buf 12,.buf 13]) from by rw [<-i0]];refine aA.subR [] (aA.loopB (fun (⟨s,q,F',G',h'⟩:aG×List Tok×(Nat->Prop)×(Nat->Prop)×Array Obj)=>(F',h')) (fun (⟨s,q,F',G',h'⟩:aG×List Tok×(Nat->Prop)×(Nat->Prop)×Array Obj)=>[(2,.ptr 0 0),(3,.ptr 1 0),(4,.ptr 2 0),(6,.ptr 4 0),(7,.buf 5)]) (fun (⟨s,q,F',G',h'⟩:aG×List Tok×(Nat->Prop)×(Nat->Prop)×Array Obj)=>[(0,.cells 31 yM),(1,.cells 3 [nV 0]),(2,.cells 36 [nV 0]),(3,.own 158 4 (L.map Tok.row)),(4,.cells 152 [.v (.string src),.buf 3,nV (ix L q),.buf 6,.buf 7,.buf 8,.buf 9,.buf 10,.buf 11,.buf 12,.buf 13]),(5,.map .string dZ),(6,.own 100 8 (rws Un.row s.units)),(7,.own 85 6 (rws It.row s.items)),(8,.own 9 1 (rws xZ s.plants)),(9,.own 136 4 (rws Mc.row s.machines)),(10,.own 102 2 (rws OpV.row s.options)),(11,.own 45 1 (rws FbV.row s.forbids)),(12,.own 49 17 (rws RcV.row s.recipes)),(13,.own 142 4 (rws Sw.row s.swaps))]) 14 (fun (⟨s,q,F',G',h'⟩:aG×List Tok×(Nat->Prop)×(Nat->Prop)×Array Obj)=>((Now F G h F' G' h'/\s.sub G' h')/\q <:+ L)/\tQ noS L=tQ s.bare q) (fun (⟨s,q,F',G',h'⟩:aG×List Tok×(Nat->Prop)×(Nat->Prop)×Array Obj)=>q.length) ?round3 (⟨noS,L,F,G,h⟩) ?J03) sH sH;case J03=>exact (⟨⟨⟨N,⟨fun _ h=>absurd h List.not_mem_nil,fun _ h=>absurd h List.not_mem_nil,fun _ h=>absurd h List.not_mem_nil⟩⟩,List.suffix_refl _⟩,rfl⟩)
 rintro ⟨s,q,F',G',h'⟩ hJ back;try dsimp only at hJ back
 conv=>whnf
 try dsimp only
 refine gS ?_;conv=>whnf
 obtain ⟨⟨⟨N1,hsub⟩,hq⟩,hJ⟩:=hJ;refine zH (fls 0 10 .done) ?_;refine squ ?_;refine ⟨fun hk=>?_,fun hk=>?_⟩<;>conv=>whnf
 ·obtain ⟨x,q,rfl⟩:∃x q',q=x::q':=by
   cases q with
   |nil=>rw [aFM,lm] at hk;omega
   |cons x q=>exact ⟨x,q,rfl⟩
  have h2:=vH hq;have hqq:=eK hq;refine sqv ?_;refine zH (fls 0 12 (.e1 12 [] (fls 13 5 .done))) ?_;refine bFN ?_;conv=>whnf
  refine ⟨_,tA hq,?_⟩;conv=>whnf
  rcases aQU x.text with ht|ht|ht|ht|ht|ht|ht|ht|ht
  ·have hk1:=wk x (hq.subset (List.mem_cons_self ..)) _ ht (by decide);have hd:eW dZ (.string x.text) (some (.func (.func 150) #[] #[])):=by
    have:=aDX x.text;rw [ht] at this ⊢;exact this
   refine aK.lookup (some (.func (.func 150) #[] #[])) mpT stT fnZ (hd) zP ?_;refine squ ?_;refine sqs ?_;refine aA.callN (aSJ src L (x::q) hq hLn KT V s.units (List.cons_ne_nil _ _)) [4,3,6,7,8,9,10,11,12,13] ?_ sH ?CNa4;case CNa4=>rfl
   rintro (⟨a,r2⟩|⟨r2,e2⟩) h2<;>conv=>whnf
   rotate_left
   ·have hd2:mX s.bare (x::q)=.bad r2 e2:=by
     rw [aHW (s:=s.bare) (r:=q) hk1 ht];rw [rM] at h2;exact aV (aPZ h2.symm)
    exact (badC hok hJ hd2).elim
   rw [rM] at h2;obtain ⟨a,h3,rfl⟩:=fm_ok h2.symm;have hs2:=aAX aYS.g h3;have hd2:mX s.bare (x::q)=.ok {s with units:=s.units++[a]}.bare r2:=by
    rw [aHW (s:=s.bare) (r:=q) hk1 ht];exact aJ h3
   refine zQ 15 [(2,.ptr 0 0),(3,.ptr 1 0),(4,.ptr 2 0),(6,.ptr 4 0),(7,.buf 5)] [(0,.cells 31 yM),(1,.cells 3 [nV 0]),(2,.cells 36 [nV 0]),(3,.own 158 4 (L.map Tok.row)),(4,.cells 152 [.v (.string src),.buf 3,nV (ix L r2),.buf 14,.buf 7,.buf 8,.buf 9,.buf 10,.buf 11,.buf 12,.buf 13]),(5,.map .string dZ),(14,.own 100 8 (rws Un.row (s.units++[a]))),(7,.own 85 6 (rws It.row {s with units:=s.units++[a]}.items)),(8,.own 9 1 (rws xZ {s with units:=s.units++[a]}.plants)),(9,.own 136 4 (rws Mc.row {s with units:=s.units++[a]}.machines)),(10,.own 102 2 (rws OpV.row {s with units:=s.units++[a]}.options)),(11,.own 45 1 (rws FbV.row {s with units:=s.units++[a]}.forbids)),(12,.own 49 17 (rws RcV.row {s with units:=s.units++[a]}.recipes)),(13,.own 142 4 (rws Sw.row {s with units:=s.units++[a]}.swaps))] ?_;refine sqs ?_;exact zb (back (({s with units:=s.units++[a]},r2,F',G',h')) ((⟨⟨⟨N1,hsub.o,hsub.f,hsub.r⟩,hs2.trans hqq⟩,hJ.trans (xA hs2.length_le hd2)⟩)) ((Nat.lt_succ_of_le hs2.length_le))) [(6,14)]
  ·have hk1:=wk x (hq.subset (List.mem_cons_self ..)) _ ht (by decide);have hd:eW dZ (.string x.text) (some (.func (.func 153) #[] #[])):=by
    have:=aDX x.text;rw [ht] at this ⊢;exact this
   refine aK.lookup (some (.func (.func 153) #[] #[])) mpT stT fnZ (hd) zP ?_;refine squ ?_;refine sqs ?_;refine aA.callN (aRJ src L (x::q) hq hLn KT V s.items (List.cons_ne_nil _ _)) [4,3,6,7,8,9,10,11,12,13] ?_ sH ?CNa6;case CNa6=>rfl
   rintro (⟨a,r2⟩|⟨r2,e2⟩) h2<;>conv=>whnf
   rotate_left
   ·have hd2:mX s.bare (x::q)=.bad r2 e2:=by
     rw [aJA (s:=s.bare) (r:=q) hk1 ht];rw [rM] at h2;exact aV (aPZ h2.symm)
    exact (badC hok hJ hd2).elim
   rw [rM] at h2;obtain ⟨a,h3,rfl⟩:=fm_ok h2.symm;have hs2:=aAX aZL.g h3;have hd2:mX s.bare (x::q)=.ok {s with items:=s.items++[a]}.bare r2:=by
    rw [aJA (s:=s.bare) (r:=q) hk1 ht];exact aJ h3
   refine zQ 15 [(2,.ptr 0 0),(3,.ptr 1 0),(4,.ptr 2 0),(6,.ptr 4 0),(7,.buf 5)] [(0,.cells 31 yM),(1,.cells 3 [nV 0]),(2,.cells 36 [nV 0]),(3,.own 158 4 (L.map Tok.row)),(4,.cells 152 [.v (.string src),.buf 3,nV (ix L r2),.buf 6,.buf 14,.buf 8,.buf 9,.buf 10,.buf 11,.buf 12,.buf 13]),(5,.map .string dZ),(6,.own 100 8 (rws Un.row {s with items:=s.items++[a]}.units)),(14,.own 85 6 (rws It.row (s.items++[a]))),(8,.own 9 1 (rws xZ {s with items:=s.items++[a]}.plants)),(9,.own 136 4 (rws Mc.row {s with items:=s.items++[a]}.machines)),(10,.own 102 2 (rws OpV.row {s with items:=s.items++[a]}.options)),(11,.own 45 1 (rws FbV.row {s with items:=s.items++[a]}.forbids)),(12,.own 49 17 (rws RcV.row {s with items:=s.items++[a]}.recipes)),(13,.own 142 4 (rws Sw.row {s with items:=s.items++[a]}.swaps))] ?_;refine sqs ?_;exact zb (back (({s with items:=s.items++[a]},r2,F',G',h')) ((⟨⟨⟨N1,hsub.o,hsub.f,hsub.r⟩,hs2.trans hqq⟩,hJ.trans (xA hs2.length_le hd2)⟩)) ((Nat.lt_succ_of_le hs2.length_le))) [(7,14)]
  ·have hk1:=wk x (hq.subset (List.mem_cons_self ..)) _ ht (by decide);have hd:eW dZ (.string x.text) (some (.func (.func 156) #[] #[])):=by
    have:=aDX x.text;rw [ht] at this ⊢;exact this
   refine aK.lookup (some (.func (.func 156) #[] #[])) mpT stT fnZ (hd) zP ?_;refine squ ?_;refine sqs ?_;refine aA.callN (aOB src L (x::q) hq hLn KT V s.plants (List.cons_ne_nil _ _)) [4,3,6,7,8,9,10,11,12,13] ?_ sH ?CNa8;case CNa8=>rfl
   rintro (⟨a,r2⟩|⟨r2,e2⟩) h2<;>conv=>whnf
   rotate_left
   ·have hd2:mX s.bare (x::q)=.bad r2 e2:=by
     rw [aEG (s:=s.bare) (r:=q) hk1 ht];rw [rM] at h2;exact aV (aPZ h2.symm)
    exact (badC hok hJ hd2).elim
   rw [rM] at h2;obtain ⟨a,h3,rfl⟩:=fm_ok h2.symm;have hs2:=aAX aUZ.g h3;have hd2:mX s.bare (x::q)=.ok {s with plants:=s.plants++[a]}.bare r2:=by
    rw [aEG (s:=s.bare) (r:=q) hk1 ht];exact aJ h3
   refine zQ 15 [(2,.ptr 0 0),(3,.ptr 1 0),(4,.ptr 2 0),(6,.ptr 4 0),(7,.buf 5)] [(0,.cells 31 yM),(1,.cells 3 [nV 0]),(2,.cells 36 [nV 0]),(3,.own 158 4 (L.map Tok.row)),(4,.cells 152 [.v (.string src),.buf 3,nV (ix L r2),.buf 6,.buf 7,.buf 14,.buf 9,.buf 10,.buf 11,.buf 12,.buf 13]),(5,.map .string dZ),(6,.own 100 8 (rws Un.row {s with plants:=s.plants++[a]}.units)),(7,.own 85 6 (rws It.row {s with plants:=s.plants++[a]}.items)),(14,.own 9 1 (rws xZ (s.plants++[a]))),(9,.own 136 4 (rws Mc.row {s with plants:=s.plants++[a]}.machines)),(10,.own 102 2 (rws OpV.row {s with plants:=s.plants++[a]}.options)),(11,.own 45 1 (rws FbV.row {s with plants:=s.plants++[a]}.forbids)),(12,.own 49 17 (rws RcV.row {s with plants:=s.plants++[a]}.recipes)),(13,.own 142 4 (rws Sw.row {s with plants:=s.plants++[a]}.swaps))] ?_;refine sqs ?_;exact zb (back (({s with plants:=s.plants++[a]},r2,F',G',h')) ((⟨⟨⟨N1,hsub.o,hsub.f,hsub.r⟩,hs2.trans hqq⟩,hJ.trans (xA hs2.length_le hd2)⟩)) ((Nat.lt_succ_of_le hs2.length_le))) [(8,14)]
  ·exact absurd ht (hw x (hq.subset (List.mem_cons_self ..))).1
  ·exact absurd ht (hw x (hq.subset (List.mem_cons_self ..))).2.1
  ·exact absurd ht (hw x (hq.subset (List.mem_cons_self ..))).2.2.1
  ·have hk1:=wk x (hq.subset (List.mem_cons_self ..)) _ ht (by decide);have hd:eW dZ (.string x.text) (some (.func (.func 168) #[] #[])):=by
    have:=aDX x.text;rw [ht] at this ⊢;exact this
   refine aK.lookup (some (.func (.func 168) #[] #[])) mpT stT fnZ (hd) zP ?_;refine squ ?_;refine sqs ?_;refine aA.callY (N1.gsub) (aQT src L (x::q) hq hLn KT V hIf s.recipes (List.cons_ne_nil _ _)) (fun _ _=>trivial) [4,3,6,7,8,9,10,11,12,13] sH ?CNa10 ?_;case CNa10=>rfl
   rintro _ y G2 h2' N2 ⟨h2,J2⟩
   cases y with
   |bad r2 e2=>
    conv=>whnf
    have hd2:mX s.bare (x::q)=.bad r2 e2:=by
     rw [aCU (s:=s.bare) (r:=q) hk1 ht];exact aV (by simpa [aG.bare,Rs.fm] using h2.symm)
    exact (badC hok hJ hd2).elim
   |ok a r2=>
    conv=>whnf
    have h2:nO aDF 64 s.bare.recipes.length (x::q)=.ok a.bare r2:=by simpa [aG.bare,Rs.fm] using h2.symm
    have hs2:=aAX rec_g.g h2;have hd2:mX s.bare (x::q)=.ok {s with recipes:=s.recipes++[a]}.bare r2:=by
     rw [aCU (s:=s.bare) (r:=q) hk1 ht,aJ h2];show Rs.ok _ _=Rs.ok _ _
     simp [aG.bare]
    have hsub2:=hsub.up (Now.step N1.gsub N2);refine zQ 15 [(2,.ptr 0 0),(3,.ptr 1 0),(4,.ptr 2 0),(6,.ptr 4 0),(7,.buf 5)] [(0,.cells 31 yM),(1,.cells 3 [nV 0]),(2,.cells 36 [nV 0]),(3,.own 158 4 (L.map Tok.row)),(4,.cells 152 [.v (.string src),.buf 3,nV (ix L r2),.buf 6,.buf 7,.buf 8,.buf 9,.buf 10,.buf 11,.buf 14,.buf 13]),(5,.map .string dZ),(6,.own 100 8 (rws Un.row s.units)),(7,.own 85 6 (rws It.row s.items)),(8,.own 9 1 (rws xZ s.plants)),(9,.own 136 4 (rws Mc.row s.machines)),(10,.own 102 2 (rws OpV.row s.options)),(11,.own 45 1 (rws FbV.row s.forbids)),(14,.own 49 17 (rws RcV.row (s.recipes++[a]))),(13,.own 142 4 (rws Sw.row s.swaps))] ?_;refine sqs ?_;exact zb (back (({s with recipes:=s.recipes++[a]},r2,_,G2,h2')) ((⟨⟨⟨N1.trans N2,⟨hsub2.o,hsub2.f,bAR hsub2.r J2⟩⟩,hs2.trans hqq⟩,hJ.trans (xA hs2.length_le hd2)⟩)) ((Nat.lt_succ_of_le hs2.length_le))) [(12,14)]
  ·exact absurd ht (hw x (hq.subset (List.mem_cons_self ..))).2.2.2.1
  exact (badC hok hJ (aYX (.inr ht))).elim
 have hq0':q=[]:=by
  cases q with
  |nil=>rfl
  |cons x q=>have:=vH hq;omega
 subst hq0';rw [hJ,bBZ] at hok;have hz:s.bare=z:=(Rs.ok.inj hok).1;refine aA.concY (n:=s.units.length) (N1.gsub) 6 ?_ (hlen:=aE _ _);intro F2 a2 c2 G2 h2 N2 R2;conv=>whnf
 refine aA.concY (n:=s.items.length) (N2.gsub) 7 ?_ (hlen:=aE _ _);intro F3 a3 c3 G3 h3 N3 R3;conv=>whnf
 refine aA.concY (n:=s.plants.length) (N3.gsub) 8 ?_ (hlen:=aE _ _);intro F4 a4 c4 G4 h4 N4 R4;conv=>whnf
 refine aA.concY (n:=s.machines.length) (N4.gsub) 9 ?_ (hlen:=aE _ _);intro F5 a5 c5 G5 h5 N5 R5;conv=>whnf
 refine aA.concY (n:=s.options.length) (N5.gsub) 10 ?_ (hlen:=aE _ _);intro F6 a6 c6 G6 h6 N6 R6;conv=>whnf
 refine aA.concY (n:=s.forbids.length) (N6.gsub) 11 ?_ (hlen:=aE _ _);intro F7 a7 c7 G7 h7 N7 R7;conv=>whnf
 refine aA.concY (n:=s.recipes.length) (N7.gsub) 12 ?_ (hlen:=aE _ _);intro F8 a8 c8 G8 h8 N8 R8;conv=>whnf
 refine aA.concY (n:=s.swaps.length) (N8.gsub) 13 ?_ (hlen:=aE _ _);intro F9 a9 c9 G9 h9 N9 R9;conv=>whnf
 have T9:pW G9 h9 (.slice a2 s.units.length c2) (.slice a3 s.items.length c3) (.slice a4 s.plants.length c4) (.slice a5 s.machines.length c5) (.slice a6 s.options.length c6) (.slice a7 s.forbids.length c7) (.slice a8 s.recipes.length c8) (.slice a9 s.swaps.length c9) s:=
  ⟨(((((((R2).up (Now.step N2.gsub N3)).up (Now.step N3.gsub N4)).up (Now.step N4.gsub N5)).up (Now.step N5.gsub N6)).up (Now.step N6.gsub N7)).up (Now.step N7.gsub N8)).up (Now.step N8.gsub N9),((((((R3).up (Now.step N3.gsub N4)).up (Now.step N4.gsub N5)).up (Now.step N5.gsub N6)).up (Now.step N6.gsub N7)).up (Now.step N7.gsub N8)).up (Now.step N8.gsub N9),(((((R4).up (Now.step N4.gsub N5)).up (Now.step N5.gsub N6)).up (Now.step N6.gsub N7)).up (Now.step N7.gsub N8)).up (Now.step N8.gsub N9),((((R5).up (Now.step N5.gsub N6)).up (Now.step N6.gsub N7)).up (Now.step N7.gsub N8)).up (Now.step N8.gsub N9),(((R6).up (Now.step N6.gsub N7)).up (Now.step N7.gsub N8)).up (Now.step N8.gsub N9),((R7).up (Now.step N7.gsub N8)).up (Now.step N8.gsub N9),(R8).up (Now.step N8.gsub N9),R9,((((((((hsub).up (Now.step N1.gsub N2)).up (Now.step N2.gsub N3)).up (Now.step N3.gsub N4)).up (Now.step N4.gsub N5)).up (Now.step N5.gsub N6)).up (Now.step N6.gsub N7)).up (Now.step N7.gsub N8)).up (Now.step N8.gsub N9)⟩
 refine sqs ?_;refine aA.retU ?_;refine aB.deferN aQB [0,1,2] ?_ trivial rfl (fun e=>by cases e);intro _ _;conv=>whnf
 refine aB.ret tab Tryz.func54 rfl (jP.mk (((((((((N1).trans N2).trans N3).trans N4).trans N5).trans N6).trans N7).trans N8).trans N9) (⟨s,0,0,_,_,_,_,_,_,_,_⟩:PsX) (fun h U=>⟨T9.up U,hz,rfl,rfl⟩) [] (by exact trivial) rfl rfl (bH rfl rfl))
end Go.Proofs.YthjedpdedjhndaaGreatDoor

namespace Go.SrcM
open Go Go.Fw Go.NatM Go.RatM
def aBQ {α β:Type} (z:β) (x:α×Int) (f:α->β×Int):β×Int:=if x.2=0 then f x.1 else (z,x.2)
theorem iO {α β:Type} {z:β} {x:α×Int} {f:α->β×Int} (h:x.2=0):aBQ z x f=f x.1:=if_pos h
theorem gX {α β:Type} {z:β} {x:α×Int} {f:α->β×Int} (h:¬x.2=0):aBQ z x f=(z,x.2):=if_neg h
def vL (s:aG):List Am->List Rt->Rt×Int
 | [],m=>aHO m
 |a::l,m=>aBQ zr (nR s a) fun x=>vL s l (m++[x])
def fY (s:aG) (l:List Am):Rt×Int:=vL s l []
def ofR (s:aG) (r:RcV):(Rt×Rt)×Int:=aBQ (zr,zr) (fY s r.inn) fun a=>aBQ (zr,zr) (fY s r.out) fun b=>((a,b),0)
def ofT (s:aG) (k:Int):(Rt×Rt)×Int:=if bE s=0 then (match at? s.recipes k with
 |some r=>ofR s r
 |none=>((zr,zr),1)) else ((zr,zr),bE s)
def bBM (a:Rt):Rt:=⟨false,a.n,a.d⟩
def qD (n d:Int) (r:Rt):Rt×Int:=aBQ zr (eU n d) fun x=>fI x r
abbrev zx:Rt×Bool:=(zr,false)
def exT (r:RcV) (p:Rt×Rt):(Rt×Bool)×Int:=aBQ zx (qD r.yN r.yD p.1) fun w=>aBQ zx (subR p.2 w) fun b=>aBQ zx (qD r.tN r.tD p.1) fun t=>aBQ zx (lE (bBM b) t) fun n=>((b,decide (0<n)),0)
def exR (s:aG) (r:RcV):(Rt×Bool)×Int:=aBQ zx (ofR s r) (exT r)
abbrev WR:=(Int×Rt×Bool)×Int
abbrev zw:Int×Rt×Bool:=(0,zr,false)
def wrF (s:aG):List RcV->Nat->WR
 | [],_=>(zw,0)
 |r::l,k=>if (exR s r).2=0 then (if (exR s r).1.2=true then ((k,(exR s r).1.1,true),0) else wrF s l (k+1)) else (zw,(exR s r).2)
def wrT (s:aG):WR:=if bE s=0 then wrF s s.recipes 0 else (zw,bE s)
def fV (s:aG):Int:=if (wrT s).2=0 then (if (wrT s).1.2.2=true then 140 else 0) else (wrT s).2
def aHK (s:aG):Prop:=FewT s/\s.recipes.length<=12
instance (s:aG):Decidable (aHK s):=by unfold aHK;infer_instance
/-! comparing with a size -/
theorem aAQ {a b:Q} (ha:a.Ok) (hb:b.Ok) (la:a.le 256) (lb:b.le 256):lE (aN a) (aN b)=if dJ (a.n*b.d)/\dJ (b.n*a.d) then (aAU a b,0) else (0,2):=by
 unfold lE;rw [if_pos ⟨sG ha la,sG hb lb⟩,gB,gB]
def aDH (a:Q):Q:=⟨false,a.n,a.d⟩
theorem yW {a:Q} (h:a.Ok):(aDH a).Ok:=⟨h.1,h.2.1,fun e=>by cases e⟩
theorem abs_enc (a:Q):bBM (aN a)=aN (aDH a):=rfl
theorem aNW {a:Q}:(aDH a).val=a.val\/(aDH a).val = -a.val:=by
 obtain ⟨s,n,d⟩:=a
 cases s with
 |false=>exact .inl rfl
 |true=>
  refine .inr ?_;have:=aGI ⟨true,n,d⟩;rw [<-this];unfold Q.val aDH kE sg
  cases hn:n with
  |zero=>rfl
  |succ m=>rfl
theorem absQ_nn (a:Q) (h:a.Ok):0<=(aDH a).val:=Rat.num_nonneg.1 (by rw [Q.num (yW h)];exact Int.natCast_nonneg _)
theorem cmp_abs {b t:Q} (hb:b.Ok) (ht:t.Ok) (lb:b.le 256) (lt:t.le 256):
  (lE (aN b) (aN t)).2=(lE (bBM (aN b)) (aN t)).2/\(lE (aN (kE b)) (aN t)).2=(lE (bBM (aN b)) (aN t)).2 /\
  ((lE (bBM (aN b)) (aN t)).2=0->(0<(lE (bBM (aN b)) (aN t)).1↔0<(lE (aN b) (aN t)).1\/0<(lE (aN (kE b)) (aN t)).1)):=by
 rw [abs_enc,aAQ hb ht lb lt,aAQ (wV hb) ht (aLR lb) lt,aAQ (yW hb) ht lb lt];have e1:(kE b).n=b.n:=rfl;have e2:(kE b).d=b.d:=rfl;have e3:(aDH b).n=b.n:=rfl;have e4:(aDH b).d=b.d:=rfl;rw [e1,e2,e3,e4];by_cases hf:dJ (b.n*t.d)/\dJ (t.n*b.d)
 ·simp only [if_pos hf];refine ⟨trivial,trivial,fun _=>?_⟩;have key:∀a:Q,a.Ok->(0<aAU a t↔t.val<a.val):=fun a ha=>by
   obtain ⟨h1,h2,h3⟩:=aDN ha ht;rw [<-h2];rcases h3 with h|h|h<;>rw [h]<;>decide
  rw [key _ hb,key _ (wV hb),key _ (yW hb),aGI];have h0:=absQ_nn b hb;rcases aNW (a:=b) with h|h<;>rw [h] at h0 ⊢ <;> grind
 simp only [if_neg hf];exact ⟨trivial,trivial,fun h=>by simp at h⟩

theorem addL_le {a b c:Q} (h:aBP a b=some c):c.le 256:=by
 unfold aBP at h;split at h
 ·rename_i hf
  split at h
  ·split at h
   ·rename_i h2
    cases h;exact aCG h2 hf.2.2
   cases h
  split at h
  ·cases h;exact aCG (Nat.le_trans (bGN (Nat.sub_le _ _)) hf.2.1) hf.2.2
  cases h;exact aCG (Nat.le_trans (bGN (Nat.sub_le _ _)) hf.1) hf.2.2
 cases h
theorem mulL_le {a b c:Q} (h:aCK a b=some c):c.le 256:=by
 unfold aCK at h;split at h
 ·rename_i hf
  cases h;exact aCG hf.1 hf.2
 cases h
structure Is (c:Q) (v:Rat):Prop where
 ok:c.Ok
 le:c.le 256
 val:c.val=v
def Res (x:Rt×Int) (v:Rat):Prop:=x=(zr,2) \/ ∃c,x=(aN c,0)/\Is c v
theorem Is.inj {a b:Q} {v:Rat} (ha:Is a v) (hb:Is b v):a=b:=Q.inj ha.ok hb.ok (ha.val.trans hb.val.symm)
theorem Res.ok {x:Rt×Int} {v:Rat} (h:Res x v) (h0:x.2=0):∃c,x=(aN c,0)/\Is c v:=h.elim (fun e=>by rw [e] at h0;cases h0) id
/-! a recipe -/
structure RecB (s:aG) (r:RcV):Prop where
 i:∀a∈r.inn,fX s a
 o:∀a∈r.out,fX s a
 y:lJ r.yN r.yD
 t:lJ r.tN r.tD
theorem rec_b {s:aG} {r:RcV} (h:mY s r):RecB s r:=by
 obtain ⟨_,_,_,_,h1,⟨_,h2,_⟩,_,h3,h4,_⟩:=h;exact ⟨h1,fun a ha=>(h2 a ha).1,h3,h4⟩
theorem recs_b {s:aG} (h:bE s=0) {r:RcV} (hr:r∈s.recipes):RecB s r:=rec_b ((fU.1 h).2.2.R r hr)
def shv (n d:Int):Rat:=(n:Rat)*(d:Rat)⁻¹
theorem pO {n d:Int} (h:lJ n d):∃q,eU n d=(aN q,0)/\Is q (shv n d)/\0<=shv n d:=by
 obtain ⟨h1,h2⟩:=h;unfold bt at h1 h2;have hpw:(256:Nat)^3=16777216:=by decide
 obtain ⟨n1,n2,n3,n4⟩:=newQ_in (n:=n) (d:=d) (k:=3) (by omega) (by omega) (by omega);refine ⟨_,n1,⟨n2,n3.mono (by omega),n4⟩,?_⟩;have a1:(0:Rat)<=(n:Rat):=by
  have:=(Rat.intCast_le_intCast (a:=0) (b:=n)).2 (by omega)
  simpa using this
 have a2:(0:Rat)<(d:Rat):=by
  have:=(Rat.intCast_lt_intCast (a:=0) (b:=d)).2 (by omega)
  simpa using this
 exact Rat.mul_nonneg a1 (Rat.le_of_lt (Rat.inv_pos.2 a2))

/-! the first wrong recipe -/
/-! within -/
/-! the other way round -/
theorem bAB {q:Q} (h:q.Ok) (hl:q.le 256):subR aLK (aN q)=(aN (kE q),0):=by
 have e:aLK=aN zq:=rfl;rw [e];have hn:(kE q).n=q.n:=rfl;have hd:(kE q).d=q.d:=rfl;have key:∃c,aBP zq (kE q)=some c:=by
  have f1:dJ (zq.n*(kE q).d):=by show nb (0*_)<=256;rw [Nat.zero_mul];decide
  have f2:dJ ((kE q).n*zq.d):=by show nb (q.n*1)<=256;rw [Nat.mul_one];exact hl.1
  have f3:dJ (zq.d*(kE q).d):=by show nb (1*q.d)<=256;rw [Nat.one_mul];exact hl.2
  unfold aBP;rw [if_pos ⟨f1,f2,f3⟩];split
  ·rw [if_pos (by show nb (0*q.d+q.n*1)<=256;rw [Nat.zero_mul,Nat.zero_add,Nat.mul_one];exact hl.1)];exact ⟨_,rfl⟩
  split<;>exact ⟨_,rfl⟩
 obtain ⟨c,hc⟩:=key;obtain ⟨h1,h2⟩:=bGK zq_ok.1 (wV h).1 hc;have:c=kE q:=Q.inj h1 (wV h) (by rw [h2,aKA,Rat.zero_add]);unfold subR;rw [opR_e zq_ok h (zq_le.mono (by omega)) hl];unfold subL;rw [hc,this];rfl
theorem sub_okR {a b c:Rt} (h:subR a b=(c,0)):∃q,c=aN q/\q.Ok/\q.le 256:=by
 unfold subR opR at h;split at h
 ·rename_i hok
  obtain ⟨p,rfl,pa,la⟩:=uS hok.1;obtain ⟨q,rfl,pb,lb⟩:=uS hok.2;rw [gB,gB] at h;unfold subL at h
  cases hc:aBP p (kE q) with
  |none=>rw [hc] at h;cases h
  |some x=>
   rw [hc] at h;cases h;exact ⟨x,rfl,(bGK pa.1 (wV pb).1 hc).1,addL_le hc⟩
 cases h
theorem mul_okR {a b c:Rt} (h:fI a b=(c,0)):∃q,c=aN q/\q.Ok/\q.le 256:=by
 unfold fI opR at h;split at h
 ·rename_i hok
  obtain ⟨p,rfl,pa,la⟩:=uS hok.1;obtain ⟨q,rfl,pb,lb⟩:=uS hok.2;rw [gB,gB] at h
  cases hc:aCK p q with
  |none=>rw [hc] at h;cases h
  |some x=>
   rw [hc] at h;cases h;exact ⟨x,rfl,(bGG pa.1 pb.1 hc).1,mulL_le hc⟩
 cases h
theorem aNI:eU 0 1=(aLK,0):=by kernel_rfl

end Go.SrcM

namespace Go.Proofs.YthjedpdedjhndaaGreatDoor
open Go Go.Fw Go.NatM Go.RatM Go.SrcM
def aBV (e:Int):List PanicEntry:=[{v:=.iface 104 (.agg #[.int .i64 e]),recovered:=false}]
theorem iJ {h:Array Obj} (r:Rt) (e:Int):FnO Tryz.prog (aBV e) 57 #[r.v,.int .i64 0] h (some r.v):=by
 refine zO Tryz.func57 Tryz.ntmps57 (args:=[.agg #[.bool r.neg,.string r.n,.string r.d],.int .i64 0]) fun w0 cs=>?_;refine sqA ?_;refine aA.retU (aB.ret tab Tryz.func57 rfl fun Ez Hz Az Sz K=>⟨rfl,K.keeps⟩)
theorem qL {h:Array Obj} (r:Rt) {e:Int} (he:e≠0):FnO Tryz.prog (aBV e) 57 #[r.v,.int .i64 e] h none:=by
 refine zO Tryz.func57 Tryz.ntmps57 (args:=[.agg #[.bool r.neg,.string r.n,.string r.d],.int .i64 e]) fun w0 cs=>?_;refine sqA ?_;refine aA.panicX (v:=.agg #[.int .i64 e]) ?_ (fun _=>rfl);refine aB.pan Tryz.func57 fun Ez Hz Az Sz K=>⟨rfl,K.keeps⟩
theorem aRU {h:Array Obj} (e:Int):FV 30 #[.iface 104 (.agg #[.int .i64 e])] h (.int .i64 e):=by
 refine zO Tryz.func30 Tryz.ntmps30 (args:=[.iface 104 (.agg #[.int .i64 e])]) fun w0 cs=>?_;refine aA.effV (fun E h=>xR Tryz.underlying104 (fun _ e=>by cases e)) ?_;refine sqs ?_;exact zR Tryz.func30
def grO (x:Int×Int):Option Value:=if x.2=0 then some (.bool (decide (0<x.1))) else none
theorem oQ {h:Array Obj} (a b:Rt) (hT:gN h):FnO Tryz.prog (aBV (lE a b).2) 104 #[a.v,b.v] h (grO (lE a b)):=by
 obtain ⟨x,hx⟩:∃x,x=lE a b:=⟨_,rfl⟩;rw [<-hx];refine zO Tryz.func104 Tryz.ntmps104 (args:=[.agg #[.bool a.neg,.string a.n,.string a.d],.agg #[.bool b.neg,.string b.n,.string b.d]]) fun w0 cs=>?_;refine aA.callV (fun _ _ _ _ K=>pR a b (hT.keeps ⟨K.size,K.same⟩)) ?_;conv=>whnf
 rw [<-hx];refine sqs ?_;obtain ⟨n,e⟩:=x;unfold grO;by_cases he:e=0
 ·subst he;refine aA.callS (fun _ _ _ _ _=>iJ a 0) ?_;refine sqv ?_;refine aA.retU (aB.ret tab Tryz.func104 rfl fun Ez Hz Az Sz K=>⟨rfl,K.keeps⟩)
 rw [if_neg he];refine aA.callF (fun _ _ _ _ _=>qL a he) ?_;refine aB.pan Tryz.func104 fun Ez Hz Az Sz K=>⟨rfl,K.keeps⟩
theorem gr_y {x:Int×Int} (h:x.2=0) {b:Bool} (hb:decide (0<x.1)=b):grO x=some (.bool b):=by rw [<-hb];exact if_pos h
theorem gr_n {x:Int×Int} (h:¬x.2=0):grO x=none:=if_neg h
/-! the mass of a list -/
def aEW (s:aG) (F:Nat->Prop) (h:Array Obj):Prop:=s.sub F h/\rW F h
theorem aIW (s:aG):TOk (aEW s):=⟨fun _ _ _ hs H=>⟨(aG.sub.tok s).mono _ _ _ hs H.1,dE.mono _ _ _ hs H.2⟩,fun _ _ _ H K=>⟨(aG.sub.tok s).keep _ _ _ H.1 K,dE.keep _ _ _ H.2 K⟩⟩
theorem Up.self {F:Nat->Prop} {h0 h:Array Obj} (K:Kp F h0 h):Up F h (fun k=>k<h.size) h:=⟨fun i hi=>Nat.lt_of_lt_of_le (K.lt i hi) K.size,fun _ _=>rfl⟩
abbrev dQ (b:Nat):Nat×Fw.Blk:=(b,.cells 31 [.buf 0,.buf 1,.buf 2,.buf 3,.buf 4,.buf 5,.buf 6,.buf 7])
abbrev fnM (b:Nat):SV:=.fn (.func 56) [] [.ptr b 0]
theorem aFE (s:aG):FnS Tryz.prog 31 8 [.agg [.buf 0,.buf 1,.buf 2,.buf 3,.buf 4,.buf 5,.buf 6,.buf 7]] (bFM s) (fun _:Unit=>True) (fun _=>.ret (fnM 8) 9 [dQ 8]):=by
 refine zS Tryz.func31 Tryz.ntmps31 fun E0 F h w0 cs=>?_;exact zI Tryz.func31 () trivial
def aUT (x:Rt×Int):eR:=if x.2=0 then .ret (.agg [.v (.bool x.1.neg),.v (.string x.1.n),.v (.string x.1.d)]) 9 [dQ 8] else .pan (aBV x.2) 9 [dQ 8]
theorem aVY (m:List Rt) (x:Rt):kV m++[[.bool x.neg,.string x.n,.string x.d]]=kV (m++[x]):=by simp [kV,aQE]
theorem aTP (s:aG) (hw:s.wf) (l:List Am) (hl:∀x∈l,x.wf) (hb:l.length<=1000000) (a:Option Addr) (c:Nat):FnT Tryz.prog (fun F h=>RoF F h (.slice a l.length c) 7 (rws Am.row l)/\aEW s F h) 56 9 [.v (.slice a l.length c),.ptr 8 0] (dQ 8::bFM s) (fun _:Unit=>True) (fun _=>aUT (fY s l)):=by
 obtain ⟨y,hy⟩:∃y,y=fY s l:=⟨_,rfl⟩;rw [<-hy];have ll:=aE Am.row l;refine zT Tryz.func56 Tryz.ntmps56 fun E0 F h hT w0 cs=>?_;have hm:=hT.1.len;refine aA.nameAt (fun _ x=>x) 7 (by exact hT.1) ?_;refine sqv ?_;refine zQ 11 [(9,nV 0),(8,nV l.length),(7,.buf 10),(4,.v (.slice none 0 0)),(3,.ptr 9 0),(1,.ptr 8 0)] ((10,.ro 7 (rws Am.row l))::zrC 9::dQ 8::bFM s) ?_;refine aA.nilOwn (l':=[(9,nV 0),(8,nV l.length),(7,.buf 10),(4,.buf 11),(3,.ptr 9 0),(1,.ptr 8 0)]) (H':=((10,.ro 7 (rws Am.row l))::zrC 9::dQ 8::bFM s)) 35 3 ?_ (by rfl) (by rfl) (by rfl);refine zL (fun (⟨k,m⟩:Nat×List Rt)=>[(9,nV k),(8,nV l.length),(7,.buf 10),(4,.buf 11),(3,.ptr 9 0),(1,.ptr 8 0)]) (fun ⟨k,m⟩=>((11,.own 35 3 (kV m))::(10,.ro 7 (rws Am.row l))::zrC 9::dQ 8::bFM s)) 12 (fun ⟨k,m⟩=>k<=l.length/\vL s (l.drop k) m=y/\m.length=k) (fun ⟨k,m⟩=>l.length - k) ((0,[])) (⟨Nat.zero_le _,hy.symm,rfl⟩) ?_;rintro ⟨k,m⟩ hJ back;try dsimp only at hJ back
 conv=>whnf
 try dsimp only
 refine gS ?_;conv=>whnf
 have lm:=aBO m;refine ⟨fun hk=>?_,fun hk=>?_⟩<;>conv=>whnf
 ·have hk:k<l.length:=by omega
  have hJ2:=hJ.2.1;rw [List.drop_eq_getElem_cons hk] at hJ2;unfold vL at hJ2;refine dB ?_;refine ⟨_,bA hk,?_⟩;conv=>whnf
  try (refine oN ?_;conv=>whnf)
  have hwf:=hl _ (List.getElem_mem hk);by_cases e:(nR s l[k]).2=0
  ·obtain ⟨M,hM⟩:∃M,nR s l[k]=(M,0):=⟨_,Prod.ext rfl e⟩;rw [hM,iO rfl] at hJ2;refine aA.callV (fun _ _ _ Sz K=>aFK s ⟨Sz.ro (b:=0) rfl,Sz.ro (b:=1) rfl,Sz.ro (b:=2) rfl,Sz.ro (b:=3) rfl,Sz.ro (b:=4) rfl,Sz.ro (b:=5) rfl,Sz.ro (b:=6) rfl,Sz.ro (b:=7) rfl,(aIW s |>.at hT.2 K).1.up (Up.self K)⟩ hw l[k] hwf (dE.keep _ _ _ hT.2.2 K).1) ?_;conv=>whnf
   rw [hM];refine sqs ?_;refine aA.callS (fun _ _ _ _ _=>iJ M 0) ?_;refine sqv ?_;refine And.intro (aOS (by rw [lm];omega)) ?_;conv=>whnf
   refine sqA ?_;refine aA.rowsEq (14) (aVY m M) ?_;conv=>whnf
   exact zb (back ((k+1,m++[M])) ((⟨hk,hJ2,by rw [List.length_append,hJ.2.2];rfl⟩)) (by (try dsimp only);omega)) [(11,14)]
  refine aA.callV (fun _ _ _ Sz K=>aFK s ⟨Sz.ro (b:=0) rfl,Sz.ro (b:=1) rfl,Sz.ro (b:=2) rfl,Sz.ro (b:=3) rfl,Sz.ro (b:=4) rfl,Sz.ro (b:=5) rfl,Sz.ro (b:=6) rfl,Sz.ro (b:=7) rfl,(aIW s |>.at hT.2 K).1.up (Up.self K)⟩ hw l[k] hwf (dE.keep _ _ _ hT.2.2 K).1) ?_;refine sqv ?_;rw [gX e] at hJ2;rw [<-hJ2,show aUT (zr,(nR s l[k]).2)=.pan (aBV (nR s l[k]).2) 9 [dQ 8] from if_neg e];refine aA.callF (fun _ _ _ _ _=>qL (nR s l[k]).1 e) ?_;exact zV Tryz.func56 (()) (trivial)
 have hk:k=l.length:=by omega
 have hJ2:=hJ.2.1;rw [hk,List.drop_length] at hJ2;unfold vL at hJ2;clear back hJ;conv=>whnf
 by_cases e:(aHO m).2=0
 ·obtain ⟨M,hM⟩:∃M,aHO m=(M,0):=⟨_,Prod.ext rfl e⟩;refine aA.callV (fun _ _ _ Sz K=>aZK m (Sz.ro (b:=11) rfl) (dE.keep _ _ _ hT.2.2 K).1) ?_;conv=>whnf
  rw [hM];refine sqs ?_;refine aA.callS (fun _ _ _ _ _=>iJ M 0) ?_;refine sqv ?_;rw [<-hJ2,hM];exact zI Tryz.func56 () trivial
 refine aA.callV (fun _ _ _ Sz K=>aZK m (Sz.ro (b:=11) rfl) (dE.keep _ _ _ hT.2.2 K).1) ?_;refine sqv ?_;rw [<-hJ2,show aUT (aHO m)=.pan (aBV (aHO m).2) 9 [dQ 8] from if_neg e];refine aA.callF (fun _ _ _ _ _=>qL (aHO m).1 e) ?_;exact zV Tryz.func56 (()) (trivial)

theorem aGN {s:aG} (hw:s.wf) {l:List Am} (hl:∀x∈l,x.wf) (hb:l.length<=1000000) (a:Option Addr) (c:Nat) {M:Rt} (h:fY s l=(M,0)):FnT Tryz.prog (fun F h=>RoF F h (.slice a l.length c) 7 (rws Am.row l)/\aEW s F h) 56 9 [.v (.slice a l.length c),.ptr 8 0] (dQ 8::bFM s) (fun _:Unit=>True) (fun _=>.ret (.agg [.v (.bool M.neg),.v (.string M.n),.v (.string M.d)]) 9 [dQ 8]):=by
 have:=aTP s hw l hl hb a c;rw [h] at this;exact this
theorem aLW {s:aG} (hw:s.wf) {l:List Am} (hl:∀x∈l,x.wf) (hb:l.length<=1000000) (a:Option Addr) (c:Nat) {e:Int} (h:(fY s l).2=e) (he:e≠0):FnT Tryz.prog (fun F h=>RoF F h (.slice a l.length c) 7 (rws Am.row l)/\aEW s F h) 56 9 [.v (.slice a l.length c),.ptr 8 0] (dQ 8::bFM s) (fun _:Unit=>True) (fun _=>.pan (aBV e) 9 [dQ 8]):=by
 subst h;have:=aTP s hw l hl hb a c;rw [show aUT (fY s l)=.pan (aBV (fY s l).2) 9 [dQ 8] from if_neg he] at this;exact this
theorem zY (s:aG) (l:List Am) (v:Value):TOk (fun F h=>RoF F h v 7 (rws Am.row l)/\aEW s F h):=⟨fun _ _ _ hs H=>⟨H.1.up ⟨hs,fun _ _=>rfl⟩,(aIW s).mono _ _ _ hs H.2⟩,fun _ _ _ H K=>⟨H.1.up ⟨fun _ x=>x,K.same⟩,(aIW s).keep _ _ _ H.2 K⟩⟩
def exO (x:(Rt×Bool)×Int):eR:=if x.2=0 then .ret (.agg [.v (.bool x.1.1.neg),.v (.string x.1.1.n),.v (.string x.1.1.d),.v (.bool x.1.2)]) 9 [dQ 8] else .pan (aBV x.2) 9 [dQ 8]
theorem aJB {x:(Rt×Bool)×Int} {e:Int} (h:x=(zx,e)) (he:e≠0):exO x=.pan (aBV e) 9 [dQ 8]:=by rw [h];exact if_neg he
abbrev devC (b:Nat) (x:Rt) (w:Bool):Nat×Fw.Blk:=(b,.cells 75 [.v (.bool x.neg),.v (.string x.n),.v (.string x.d),.v (.bool w)])
theorem aUL (s:aG) (hw:s.wf) (r:RcV) (hr:r.wf) (hb:r.inn.length<=1000000/\r.out.length<=1000000) {Y T:Rt} (hY:eU r.yN r.yD=(Y,0)) (hTo:eU r.tN r.tD=(T,0)):
  FnT Tryz.prog (fun F h=>r.ok F h/\aEW s F h) 64 9 [.agg (toV r.row),fnM 8] (dQ 8::bFM s) (fun _:Unit=>True) (fun _=>exO (exR s r)):=by
 obtain ⟨y,hy⟩:∃y,y=exR s r:=⟨_,rfl⟩;rw [<-hy];unfold exR at hy;refine zT Tryz.func64 Tryz.ntmps64 fun E0 F h hT w0 cs=>?_;by_cases e1:(fY s r.inn).2=0
 rotate_left
 ·rw [show ofR s r=((zr,zr),(fY s r.inn).2) from gX e1,gX (x:=((zr,zr),(fY s r.inn).2)) e1] at hy;rw [aJB hy e1];refine zH (fls 0 3 (fls 4 3 (.e3 3 [6] (.e3 7 [] (.e2 8 [2,6] (.e1 9 [2,6] (.e1 10 [] (.e1 11 [] .done))) 9 [2,6] (.e1 8 [2,6] (.e1 10 [] (.e1 11 [] .done)))) 8 [2,6] (.e2 7 [] (.e1 9 [2,6] (.e1 10 [] (.e1 11 [] .done))) 9 [2,6] (.e1 7 [] (.e1 10 [] (.e1 11 [] .done)))) 9 [2,6] (.e2 7 [] (.e1 8 [2,6] (.e1 10 [] (.e1 11 [] .done))) 8 [2,6] (.e1 7 [] (.e1 10 [] (.e1 11 [] .done))))) 8 [2,6] (.e2 3 [6] (.e2 7 [] (.e1 9 [2,6] (.e1 10 [] (.e1 11 [] .done))) 9 [2,6] (.e1 7 [] (.e1 10 [] (.e1 11 [] .done)))) 9 [2,6] (.e1 3 [6] (.e1 7 [] (.e1 10 [] (.e1 11 [] .done))))) 9 [2,6] (.e2 3 [6] (.e2 7 [] (.e1 8 [2,6] (.e1 10 [] (.e1 11 [] .done))) 8 [2,6] (.e1 7 [] (.e1 10 [] (.e1 11 [] .done)))) 8 [2,6] (.e1 3 [6] (.e1 7 [] (.e1 10 [] (.e1 11 [] .done)))))))) ?_;refine squ ?_
  repeat' first
   |(guard_target=_/\_
     refine And.intro ?_ ?_;all_goals conv=>whnf
     all_goals repeat ((first|(guard_target=_/\_;(first|refine oL ?_|refine oR ?_|refine oB ?_))|(guard_target=Exists _;refine oM ?_));(try intro _);conv=>whnf))
   |(refine aK.callT (zY s _ _) (⟨hT.1.i,hT.2⟩) (aLW hw hr.i hb.1 _ _ rfl e1) [0,1,2,3,4,5,6,7,8] ?_ sH ?_
     rotate_left
     ·rfl
     intro _ _;conv=>whnf
     exact aB.pan Tryz.func64 (aT.mk (()) (trivial) [] sH rfl rfl (aQ rfl)))
 obtain ⟨I,hI⟩:∃M,fY s r.inn=(M,0):=⟨_,Prod.ext rfl e1⟩;by_cases e2:(fY s r.out).2=0
 rotate_left
 ·rw [show ofR s r=((zr,zr),(fY s r.out).2) from (iO e1).trans (gX e2),gX (x:=((zr,zr),(fY s r.out).2)) e2] at hy;rw [aJB hy e2];refine zH (fls 0 3 (fls 4 3 (.e3 3 [6] (.e3 7 [] (.e2 8 [2,6] (.e1 9 [2,6] (.e1 10 [] (.e1 11 [] .done))) 9 [2,6] (.e1 8 [2,6] (.e1 10 [] (.e1 11 [] .done)))) 8 [2,6] (.e2 7 [] (.e1 9 [2,6] (.e1 10 [] (.e1 11 [] .done))) 9 [2,6] (.e1 7 [] (.e1 10 [] (.e1 11 [] .done)))) 9 [2,6] (.e2 7 [] (.e1 8 [2,6] (.e1 10 [] (.e1 11 [] .done))) 8 [2,6] (.e1 7 [] (.e1 10 [] (.e1 11 [] .done))))) 8 [2,6] (.e2 3 [6] (.e2 7 [] (.e1 9 [2,6] (.e1 10 [] (.e1 11 [] .done))) 9 [2,6] (.e1 7 [] (.e1 10 [] (.e1 11 [] .done)))) 9 [2,6] (.e1 3 [6] (.e1 7 [] (.e1 10 [] (.e1 11 [] .done))))) 9 [2,6] (.e2 3 [6] (.e2 7 [] (.e1 8 [2,6] (.e1 10 [] (.e1 11 [] .done))) 8 [2,6] (.e1 7 [] (.e1 10 [] (.e1 11 [] .done)))) 8 [2,6] (.e1 3 [6] (.e1 7 [] (.e1 10 [] (.e1 11 [] .done)))))))) ?_;refine squ ?_
  repeat' first
   |(guard_target=_/\_
     refine And.intro ?_ ?_;all_goals conv=>whnf
     all_goals repeat ((first|(guard_target=_/\_;(first|refine oL ?_|refine oR ?_|refine oB ?_))|(guard_target=Exists _;refine oM ?_));(try intro _);conv=>whnf))
   |(refine aK.callT (zY s _ _) (⟨hT.1.i,hT.2⟩) (aGN hw hr.i hb.1 _ _ hI) [0,1,2,3,4,5,6,7,8] ?_ sH ?_
     rotate_left
     ·rfl
     intro _ _;conv=>whnf
     try refine oB ?_
     refine sqr ?_;repeat ((first|(guard_target=_/\_;(first|refine oL ?_|refine oR ?_))|(guard_target=Exists _;refine oM ?_));(try intro _);conv=>whnf))
   |(refine aK.callT (zY s _ _) (⟨hT.1.o,hT.2⟩) (aLW hw hr.o hb.2 _ _ rfl e2) [0,1,2,3,4,5,6,7,8] ?_ sH ?_
     rotate_left
     ·rfl
     intro _ _;conv=>whnf
     exact aB.pan Tryz.func64 (aT.mk (()) (trivial) [] sH rfl rfl (aQ rfl)))
 obtain ⟨O,hO⟩:∃M,fY s r.out=(M,0):=⟨_,Prod.ext rfl e2⟩;rw [show ofR s r=((I,O),0) by unfold ofR;rw [hI,hO];rfl,iO (x:=((I,O),0)) rfl] at hy;refine aA.join (fun (_:Unit)=>[(6,.ptr 12 0),(5,.ptr 11 0),(4,.ptr 10 0),(2,.ptr 9 0)]) (fun (_:Unit)=>(rtB 11 I::rtB 12 O::devC 10 ⟨false,⟨#[]⟩,⟨#[]⟩⟩ false::(9,.cells 49 (toV r.row))::dQ 8::bFM s)) 13 (fun (_:Unit)=>True) ?_ (fun meet=>?_);rotate_left
 ·refine zH (fls 0 3 (fls 4 3 (.e3 3 [6] (.e3 7 [] (.e2 8 [2,6] (.e1 9 [2,6] (.e1 10 [] (.e1 11 [] .done))) 9 [2,6] (.e1 8 [2,6] (.e1 10 [] (.e1 11 [] .done)))) 8 [2,6] (.e2 7 [] (.e1 9 [2,6] (.e1 10 [] (.e1 11 [] .done))) 9 [2,6] (.e1 7 [] (.e1 10 [] (.e1 11 [] .done)))) 9 [2,6] (.e2 7 [] (.e1 8 [2,6] (.e1 10 [] (.e1 11 [] .done))) 8 [2,6] (.e1 7 [] (.e1 10 [] (.e1 11 [] .done))))) 8 [2,6] (.e2 3 [6] (.e2 7 [] (.e1 9 [2,6] (.e1 10 [] (.e1 11 [] .done))) 9 [2,6] (.e1 7 [] (.e1 10 [] (.e1 11 [] .done)))) 9 [2,6] (.e1 3 [6] (.e1 7 [] (.e1 10 [] (.e1 11 [] .done))))) 9 [2,6] (.e2 3 [6] (.e2 7 [] (.e1 8 [2,6] (.e1 10 [] (.e1 11 [] .done))) 8 [2,6] (.e1 7 [] (.e1 10 [] (.e1 11 [] .done)))) 8 [2,6] (.e1 3 [6] (.e1 7 [] (.e1 10 [] (.e1 11 [] .done)))))))) ?_;refine squ ?_
  repeat' first
   |(guard_target=_/\_
     refine And.intro ?_ ?_;all_goals conv=>whnf
     all_goals repeat ((first|(guard_target=_/\_;(first|refine oL ?_|refine oR ?_|refine oB ?_))|(guard_target=Exists _;refine oM ?_));(try intro _);conv=>whnf))
   |(refine aK.callT (zY s _ _) (⟨hT.1.i,hT.2⟩) (aGN hw hr.i hb.1 _ _ hI) [0,1,2,3,4,5,6,7,8] ?_ sH ?_
     rotate_left
     ·rfl
     intro _ _;conv=>whnf
     try refine oB ?_
     refine sqr ?_;repeat ((first|(guard_target=_/\_;(first|refine oL ?_|refine oR ?_))|(guard_target=Exists _;refine oM ?_));(try intro _);conv=>whnf))
   |(refine aK.callT (zY s _ _) (⟨hT.1.o,hT.2⟩) (aGN hw hr.o hb.2 _ _ hO) [0,1,2,3,4,5,6,7,8] ?_ sH ?_
     rotate_left
     ·rfl
     intro _ _;conv=>whnf
     try refine oB ?_
     refine fA ?_;refine sqs ?_;repeat ((first|(guard_target=_/\_;(first|refine oL ?_|refine oR ?_))|(guard_target=Exists _;refine oM ?_));(try intro _);conv=>whnf))
   |(refine aA.subR [] (meet (()) ?_) ?_ ?_
     ·first|trivial|omega|((try dsimp only);omega)
     ·repeat (first|exact trivial|refine ⟨by rfl,?_⟩)
     repeat (first|exact trivial|refine ⟨by rfl,?_⟩))
   |(refine aA.subR [(11,12),(12,11)] (meet (()) ?_) ?_ ?_
     ·first|trivial|omega|((try dsimp only);omega)
     ·repeat (first|exact trivial|refine ⟨by rfl,?_⟩)
     repeat (first|exact trivial|refine ⟨by rfl,?_⟩))
 intro _ _;refine sqs ?_;obtain ⟨_,_,_,_,n1,n2,n3,n4,_⟩:=hr.n;unfold exT at hy;have t1:qD r.yN r.yD I=fI Y I:=by unfold qD;rw [hY];rfl
 have t2:qD r.tN r.tD I=fI T I:=by unfold qD;rw [hTo];rfl
 simp only [t1,t2] at hy;by_cases e3:(fI Y I).2=0
 rotate_left
 ·rw [gX e3] at hy;rw [aJB hy e3];refine zH (fls 0 4 (.fl 8 (.e2 4 [8] (fls 5 2 (.e2 7 [8] (.e2 9 [] (fls 10 2 (.e2 12 [] (.e1 13 [1,3,8] (.e1 14 [] .done)) 13 [1,3,8] (.e1 12 [] (.e1 14 [] .done)))) 13 [1,3,8] (.e1 9 [] (fls 10 2 (.e1 12 [] (.e1 14 [] .done))))) 13 [1,3,8] (.e1 7 [8] (.e1 9 [] (fls 10 2 (.e1 12 [] (.e1 14 [] .done))))))) 13 [1,3,8] (.e1 4 [8] (fls 5 2 (.e1 7 [8] (.e1 9 [] (fls 10 2 (.e1 12 [] (.e1 14 [] .done)))))))))) ?_;refine squ ?_
  repeat' first
   |(guard_target=_/\_
     refine And.intro ?_ ?_;all_goals conv=>whnf
     all_goals repeat ((first|(guard_target=_/\_;(first|refine oL ?_|refine oR ?_|refine oB ?_))|(guard_target=Exists _;refine oM ?_));(try intro _);conv=>whnf))
   |(refine aK.callV (fun _ _ _ _ K=>iC r.yN r.yD n1 n2 (dE.keep _ _ _ hT.2.2 K).1) zP ?_
     conv=>whnf
     rw [hY];try dsimp only
     refine sqr ?_;repeat ((first|(guard_target=_/\_;(first|refine oL ?_|refine oR ?_))|(guard_target=Exists _;refine oM ?_));(try intro _);conv=>whnf))
   |(refine aK.callS (fun _ _ _ _ _=>iJ Y 0) zP ?_
     refine squ ?_;repeat ((first|(guard_target=_/\_;(first|refine oL ?_|refine oR ?_))|(guard_target=Exists _;refine oM ?_));(try intro _);conv=>whnf))
   |(refine aK.callV (fun _ _ _ _ K=>nT Y I (dE.keep _ _ _ hT.2.2 K).1) zP ?_
     refine squ ?_;repeat ((first|(guard_target=_/\_;(first|refine oL ?_|refine oR ?_))|(guard_target=Exists _;refine oM ?_));(try intro _);conv=>whnf))
   |(refine aK.callF (fun _ _ _ _ _=>qL (fI Y I).1 e3) zP ?_
     exact aB.pan Tryz.func64 (aT.mk (()) (trivial) [] sH rfl rfl (aQ rfl)))
 obtain ⟨W,hW⟩:∃M,fI Y I=(M,0):=⟨_,Prod.ext rfl e3⟩;rw [hW,iO (x:=(W,0)) rfl] at hy;refine aA.join (fun (_:Unit)=>[(7,.ptr 13 0),(6,.ptr 12 0),(5,.ptr 11 0),(4,.ptr 10 0),(2,.ptr 9 0)]) (fun (_:Unit)=>(rtB 11 I::rtB 12 O::rtB 13 W::devC 10 ⟨false,⟨#[]⟩,⟨#[]⟩⟩ false::(9,.cells 49 (toV r.row))::dQ 8::bFM s)) 14 (fun (_:Unit)=>True) ?_ (fun meet=>?_);rotate_left
 ·refine zH (fls 0 4 (.fl 8 (.e2 4 [8] (fls 5 2 (.e2 7 [8] (.e2 9 [] (fls 10 2 (.e2 12 [] (.e1 13 [1,3,8] (.e1 14 [] .done)) 13 [1,3,8] (.e1 12 [] (.e1 14 [] .done)))) 13 [1,3,8] (.e1 9 [] (fls 10 2 (.e1 12 [] (.e1 14 [] .done))))) 13 [1,3,8] (.e1 7 [8] (.e1 9 [] (fls 10 2 (.e1 12 [] (.e1 14 [] .done))))))) 13 [1,3,8] (.e1 4 [8] (fls 5 2 (.e1 7 [8] (.e1 9 [] (fls 10 2 (.e1 12 [] (.e1 14 [] .done)))))))))) ?_;refine squ ?_
  repeat' first
   |(guard_target=_/\_
     refine And.intro ?_ ?_;all_goals conv=>whnf
     all_goals repeat ((first|(guard_target=_/\_;(first|refine oL ?_|refine oR ?_|refine oB ?_))|(guard_target=Exists _;refine oM ?_));(try intro _);conv=>whnf))
   |(refine aK.callV (fun _ _ _ _ K=>iC r.yN r.yD n1 n2 (dE.keep _ _ _ hT.2.2 K).1) zP ?_
     conv=>whnf
     rw [hY];try dsimp only
     refine sqr ?_;repeat ((first|(guard_target=_/\_;(first|refine oL ?_|refine oR ?_))|(guard_target=Exists _;refine oM ?_));(try intro _);conv=>whnf))
   |(refine aK.callS (fun _ _ _ _ _=>iJ Y 0) zP ?_
     refine squ ?_;repeat ((first|(guard_target=_/\_;(first|refine oL ?_|refine oR ?_))|(guard_target=Exists _;refine oM ?_));(try intro _);conv=>whnf))
   |(refine aK.callV (fun _ _ _ _ K=>nT Y I (dE.keep _ _ _ hT.2.2 K).1) zP ?_
     conv=>whnf
     rw [hW];try dsimp only
     refine sqr ?_;repeat ((first|(guard_target=_/\_;(first|refine oL ?_|refine oR ?_))|(guard_target=Exists _;refine oM ?_));(try intro _);conv=>whnf))
   |(refine aK.callS (fun _ _ _ _ _=>iJ W 0) zP ?_
     refine bFN ?_;refine sqs ?_;repeat ((first|(guard_target=_/\_;(first|refine oL ?_|refine oR ?_))|(guard_target=Exists _;refine oM ?_));(try intro _);conv=>whnf))
   |(refine aA.subR [] (meet (()) ?_) ?_ ?_
     ·first|trivial|omega|((try dsimp only);omega)
     ·repeat (first|exact trivial|refine ⟨by rfl,?_⟩)
     repeat (first|exact trivial|refine ⟨by rfl,?_⟩))
 intro _ _;refine sqs ?_;by_cases e4:(subR O W).2=0
 rotate_left
 ·rw [gX e4] at hy;rw [aJB hy e4];refine aA.callV (fun _ _ _ _ K=>aDV O W (dE.keep _ _ _ hT.2.2 K).1) ?_;refine sqv ?_;refine aA.callF (fun _ _ _ _ _=>qL (subR O W).1 e4) ?_;exact zV Tryz.func64 (()) (trivial)
 obtain ⟨D,hD⟩:∃M,subR O W=(M,0):=⟨_,Prod.ext rfl e4⟩;rw [hD,iO (x:=(D,0)) rfl] at hy;refine aA.callV (fun _ _ _ _ K=>aDV O W (dE.keep _ _ _ hT.2.2 K).1) ?_;conv=>whnf
 rw [hD];refine sqs ?_;refine aA.callS (fun _ _ _ _ _=>iJ D 0) ?_;refine sqv ?_;by_cases e5:(fI T I).2=0
 rotate_left
 ·rw [gX e5] at hy;rw [aJB hy e5];refine zH (fls 0 4 (.fl 8 (.e2 4 [8] (fls 5 2 (.e2 7 [8] (.e2 9 [] (fls 10 2 (.e2 12 [] (.e1 13 [1,3,8] (.e1 14 [] .done)) 13 [1,3,8] (.e1 12 [] (.e1 14 [] .done)))) 13 [1,3,8] (.e1 9 [] (fls 10 2 (.e1 12 [] (.e1 14 [] .done))))) 13 [1,3,8] (.e1 7 [8] (.e1 9 [] (fls 10 2 (.e1 12 [] (.e1 14 [] .done))))))) 13 [1,3,8] (.e1 4 [8] (fls 5 2 (.e1 7 [8] (.e1 9 [] (fls 10 2 (.e1 12 [] (.e1 14 [] .done)))))))))) ?_;refine squ ?_
  repeat' first
   |(guard_target=_/\_
     refine And.intro ?_ ?_;all_goals conv=>whnf
     all_goals repeat ((first|(guard_target=_/\_;(first|refine oL ?_|refine oR ?_|refine oB ?_))|(guard_target=Exists _;refine oM ?_));(try intro _);conv=>whnf))
   |(refine aK.callV (fun _ _ _ _ K=>iC r.tN r.tD n3 n4 (dE.keep _ _ _ hT.2.2 K).1) zP ?_
     conv=>whnf
     rw [hTo];try dsimp only
     refine sqr ?_;repeat ((first|(guard_target=_/\_;(first|refine oL ?_|refine oR ?_))|(guard_target=Exists _;refine oM ?_));(try intro _);conv=>whnf))
   |(refine aK.callS (fun _ _ _ _ _=>iJ T 0) zP ?_
     refine squ ?_;repeat ((first|(guard_target=_/\_;(first|refine oL ?_|refine oR ?_))|(guard_target=Exists _;refine oM ?_));(try intro _);conv=>whnf))
   |(refine aK.callV (fun _ _ _ _ K=>nT T I (dE.keep _ _ _ hT.2.2 K).1) zP ?_
     refine squ ?_;repeat ((first|(guard_target=_/\_;(first|refine oL ?_|refine oR ?_))|(guard_target=Exists _;refine oM ?_));(try intro _);conv=>whnf))
   |(refine aK.callF (fun _ _ _ _ _=>qL (fI T I).1 e5) zP ?_
     exact aB.pan Tryz.func64 (aT.mk (()) (trivial) [] sH rfl rfl (aQ rfl)))
 obtain ⟨Z,hZ⟩:∃M,fI T I=(M,0):=⟨_,Prod.ext rfl e5⟩;rw [hZ,iO (x:=(Z,0)) rfl] at hy;refine aA.join (fun (_:Unit)=>[(8,.ptr 14 0),(4,.ptr 10 0),(2,.ptr 9 0)]) (fun (_:Unit)=>(rtB 14 Z::devC 10 D false::(9,.cells 49 (toV r.row))::dQ 8::bFM s)) 15 (fun (_:Unit)=>True) ?_ (fun meet=>?_);rotate_left
 ·refine zH (fls 0 4 (.fl 8 (.e2 4 [8] (fls 5 2 (.e2 7 [8] (.e2 9 [] (fls 10 2 (.e2 12 [] (.e1 13 [1,3,8] (.e1 14 [] .done)) 13 [1,3,8] (.e1 12 [] (.e1 14 [] .done)))) 13 [1,3,8] (.e1 9 [] (fls 10 2 (.e1 12 [] (.e1 14 [] .done))))) 13 [1,3,8] (.e1 7 [8] (.e1 9 [] (fls 10 2 (.e1 12 [] (.e1 14 [] .done))))))) 13 [1,3,8] (.e1 4 [8] (fls 5 2 (.e1 7 [8] (.e1 9 [] (fls 10 2 (.e1 12 [] (.e1 14 [] .done)))))))))) ?_;refine squ ?_
  repeat' first
   |(guard_target=_/\_
     refine And.intro ?_ ?_;all_goals conv=>whnf
     all_goals repeat ((first|(guard_target=_/\_;(first|refine oL ?_|refine oR ?_|refine oB ?_))|(guard_target=Exists _;refine oM ?_));(try intro _);conv=>whnf))
   |(refine aK.callV (fun _ _ _ _ K=>iC r.tN r.tD n3 n4 (dE.keep _ _ _ hT.2.2 K).1) zP ?_
     conv=>whnf
     rw [hTo];try dsimp only
     refine sqr ?_;repeat ((first|(guard_target=_/\_;(first|refine oL ?_|refine oR ?_))|(guard_target=Exists _;refine oM ?_));(try intro _);conv=>whnf))
   |(refine aK.callS (fun _ _ _ _ _=>iJ T 0) zP ?_
     refine squ ?_;repeat ((first|(guard_target=_/\_;(first|refine oL ?_|refine oR ?_))|(guard_target=Exists _;refine oM ?_));(try intro _);conv=>whnf))
   |(refine aK.callV (fun _ _ _ _ K=>nT T I (dE.keep _ _ _ hT.2.2 K).1) zP ?_
     conv=>whnf
     rw [hZ];try dsimp only
     refine sqr ?_;repeat ((first|(guard_target=_/\_;(first|refine oL ?_|refine oR ?_))|(guard_target=Exists _;refine oM ?_));(try intro _);conv=>whnf))
   |(refine aK.callS (fun _ _ _ _ _=>iJ Z 0) zP ?_
     refine bFN ?_;refine sqs ?_;repeat ((first|(guard_target=_/\_;(first|refine oL ?_|refine oR ?_))|(guard_target=Exists _;refine oM ?_));(try intro _);conv=>whnf))
   |(refine aA.subR [] (meet (()) ?_) ?_ ?_
     ·first|trivial|omega|((try dsimp only);omega)
     ·repeat (first|exact trivial|refine ⟨by rfl,?_⟩)
     repeat (first|exact trivial|refine ⟨by rfl,?_⟩))
 intro _ _;refine sqs ?_;obtain ⟨q,rfl,oq,lq⟩:=sub_okR hD;obtain ⟨z,rfl,oz,lz⟩:=mul_okR hZ;have hN:=bAB oq lq;refine aA.join (fun (_:Unit)=>[(9,.ptr 15 0),(8,.ptr 14 0),(4,.ptr 10 0),(2,.ptr 9 0)]) (fun (_:Unit)=>(rtB 15 (aN (kE q))::rtB 14 (aN z)::devC 10 (aN q) false::(9,.cells 49 (toV r.row))::dQ 8::bFM s)) 16 (fun (_:Unit)=>True) ?_ (fun meet=>?_);rotate_left
 ·refine zH (fls 4 2 (.e2 0 [5] (fls 1 2 (.e2 3 [5] (.e2 6 [] (fls 7 2 (.e2 9 [] (.e1 10 [5] (.e1 11 [] .done)) 10 [5] (.e1 9 [] (.e1 11 [] .done)))) 10 [5] (.e1 6 [] (fls 7 2 (.e1 9 [] (.e1 11 [] .done))))) 10 [5] (.e1 3 [5] (.e1 6 [] (fls 7 2 (.e1 9 [] (.e1 11 [] .done))))))) 10 [5] (.e1 0 [5] (fls 1 2 (.e1 3 [5] (.e1 6 [] (fls 7 2 (.e1 9 [] (.e1 11 [] .done))))))))) ?_;refine squ ?_
  repeat' first
   |(guard_target=_/\_
     refine And.intro ?_ ?_;all_goals conv=>whnf
     all_goals repeat ((first|(guard_target=_/\_;(first|refine oL ?_|refine oR ?_|refine oB ?_))|(guard_target=Exists _;refine oM ?_));(try intro _);conv=>whnf))
   |(refine aK.callV (fun _ _ _ _ K=>iC 0 1 (by decide) (by decide) (dE.keep _ _ _ hT.2.2 K).1) zP ?_
     conv=>whnf
     rw [aNI];refine sqr ?_;repeat ((first|(guard_target=_/\_;(first|refine oL ?_|refine oR ?_))|(guard_target=Exists _;refine oM ?_));(try intro _);conv=>whnf))
   |(refine aK.callS (fun _ _ _ _ _=>iJ aLK 0) zP ?_
     refine squ ?_;repeat ((first|(guard_target=_/\_;(first|refine oL ?_|refine oR ?_))|(guard_target=Exists _;refine oM ?_));(try intro _);conv=>whnf))
   |(refine aK.callV (fun _ _ _ _ K=>aDV aLK (aN q) (dE.keep _ _ _ hT.2.2 K).1) zP ?_
     conv=>whnf
     rw [hN];try dsimp only
     refine sqr ?_;repeat ((first|(guard_target=_/\_;(first|refine oL ?_|refine oR ?_))|(guard_target=Exists _;refine oM ?_));(try intro _);conv=>whnf))
   |(refine aK.callS (fun _ _ _ _ _=>iJ (aN (kE q)) 0) zP ?_
     refine bFN ?_;refine sqs ?_;repeat ((first|(guard_target=_/\_;(first|refine oL ?_|refine oR ?_))|(guard_target=Exists _;refine oM ?_));(try intro _);conv=>whnf))
   |(refine aA.subR [] (meet (()) ?_) ?_ ?_
     ·first|trivial|omega|((try dsimp only);omega)
     ·repeat (first|exact trivial|refine ⟨by rfl,?_⟩)
     repeat (first|exact trivial|refine ⟨by rfl,?_⟩))
 intro _ _;refine sqs ?_;obtain ⟨c1,c2,c3⟩:=cmp_abs oq oz lq lz;by_cases e6:(lE (bBM (aN q)) (aN z)).2=0
 rotate_left
 ·rw [gX e6] at hy;rw [aJB hy e6];refine aA.callF (fun _ _ _ _ K=>rZ (c1▸oQ (aN q) (aN z) (dE.keep _ _ _ hT.2.2 K).1) (gr_n (c1.symm▸e6))) ?_;exact zV Tryz.func64 (()) (trivial)
 rw [iO e6] at hy;have c3:=c3 e6;by_cases g1:0<(lE (aN q) (aN z)).1
 ·refine aA.callS (fun _ _ _ _ K=>rZ (oQ (aN q) (aN z) (dE.keep _ _ _ hT.2.2 K).1) (gr_y (c1.trans e6) (decide_eq_true g1))) ?_;refine sqv ?_;rw [hy,decide_eq_true (c3.2 (.inl g1))];exact zI Tryz.func64 () trivial
 refine aA.callS (fun _ _ _ _ K=>rZ (oQ (aN q) (aN z) (dE.keep _ _ _ hT.2.2 K).1) (gr_y (c1.trans e6) (decide_eq_false g1))) ?_;refine sqv ?_;by_cases g2:0<(lE (aN (kE q)) (aN z)).1
 ·refine aA.callS (fun _ _ _ _ K=>rZ (oQ (aN (kE q)) (aN z) (dE.keep _ _ _ hT.2.2 K).1) (gr_y (c2.trans e6) (decide_eq_true g2))) ?_;refine sqv ?_;rw [hy,decide_eq_true (c3.2 (.inr g2))];exact zI Tryz.func64 () trivial
 refine aA.callS (fun _ _ _ _ K=>rZ (oQ (aN (kE q)) (aN z) (dE.keep _ _ _ hT.2.2 K).1) (gr_y (c2.trans e6) (decide_eq_false g2))) ?_;refine sqv ?_;rw [hy,decide_eq_false (fun h=>(c3.1 h).elim g1 g2)];exact zI Tryz.func64 () trivial
end Go.Proofs.YthjedpdedjhndaaGreatDoor
