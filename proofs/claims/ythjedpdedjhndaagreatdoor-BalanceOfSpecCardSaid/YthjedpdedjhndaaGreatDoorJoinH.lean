/- Texts of this seat, joined: Package balance: Of. Package balance: Wrong, Check. Package names: where lists lie does not matter; plain. The statements  -/
import Derived.Test.YthjedpdedjhndaaGreatDoorJoinG
set_option linter.unusedVariables false
set_option linter.unusedSimpArgs false
set_option maxRecDepth 100000
set_option maxHeartbeats 99999999
namespace Go.Proofs.YthjedpdedjhndaaGreatDoor
open Go Go.Fw Go.NatM Go.RatM Go.SrcM
def limBR (e:Int):List PanicEntry:=[{v:=.iface 104 (.agg #[.int .i64 e]),recovered:=true}]
abbrev RecB (e:Int) (g k:Nat) (l:List SV) (W W':SH):Prop:=mW Tryz.prog g k l W (.panicking (aBV e)) (fun _:Unit=>True) (fun _=>⟨.panicking (limBR e),k,W'⟩)
abbrev intC (b:Nat) (n:Int):Nat×Fw.Blk:=(b,.cells 3 [nV n])
abbrev booC (b:Nat) (n:Bool):Nat×Fw.Blk:=(b,.cells 4 [.v (.bool n)])
theorem bDN:RecN 29 3 [.ptr 0 0,.ptr 1 0,.ptr 2 0]/\RecN 34 4 [.ptr 0 0,.ptr 1 0,.ptr 2 0,.ptr 3 0]:=by
 refine ⟨mW.of Tryz.func29 (by kernel_rfl) rfl Tryz.ntmps29 rfl fun E0 F h w0 c0 cs=>?_,mW.of Tryz.func34 (by kernel_rfl) rfl Tryz.ntmps34 rfl fun E0 F h w0 c0 cs=>?_⟩
 all_goals
  refine sqs ?_;refine aA.recoverN ?_;refine sqs ?_;refine aA.effV (fun E h=>pG Tryz.underlying20) ?_;refine sqs ?_;refine aA.finU (aB.retD tab (by first|exact Tryz.func29|exact Tryz.func34) rfl (zJ.mk () trivial [] trivial rfl rfl rfl))
theorem bDP (e:Int):RecB e 29 3 [.ptr 0 0,.ptr 1 0,.ptr 2 0] [zC 0,zC 1,eC 2 0] [zC 0,zC 1,eC 2 e]/\RecB e 34 4 [.ptr 0 0,.ptr 1 0,.ptr 2 0,.ptr 3 0] [intC 0 0,zC 1,booC 2 false,eC 3 0] [intC 0 0,zC 1,booC 2 false,eC 3 e]:=by
 refine ⟨mW.of Tryz.func29 (by kernel_rfl) rfl Tryz.ntmps29 rfl fun E0 F h w0 c0 cs=>?_,mW.of Tryz.func34 (by kernel_rfl) rfl Tryz.ntmps34 rfl fun E0 F h w0 c0 cs=>?_⟩
 all_goals
  refine sqs ?_;refine aA.recoverP ?_;refine sqs ?_;refine zc (fun _ _=>aRU e) ?_;refine sqv ?_;refine aA.finU (aB.retD tab (by first|exact Tryz.func29|exact Tryz.func34) rfl (zJ.mk () trivial [] sH rfl rfl rfl))
def ofV (x:(Rt×Rt)×Int):Value:=.tuple #[x.1.1.v,x.1.2.v,.int .i64 x.2]
theorem sS {h:Array Obj} (s:aG) {vU vI vP vM vO vF vR vS:Value} (hs:Top h vU vI vP vM vO vF vR vS s) (hw:s.wf) (k:Int) (hT:gN h):FV 11 #[xY vU vI vP vM vO vF vR vS,.int .i64 k] h (ofV (ofT s k)):=by
 have lU:=aZ s.units;have lI:=aE It.row s.items;have lP:=cK s.plants;have lM:=aE Mc.row s.machines;have lO:=aE OpV.row s.options;have lF:=aE FbV.row s.forbids;have lR:=aE RcV.row s.recipes;have lS:=aE Sw.row s.swaps;have hB:aEW s (fun k=>k<h.size) h:=⟨hs.below,hT.t⟩;obtain ⟨y,hy⟩:∃y,y=ofT s k:=⟨_,rfl⟩;rw [<-hy];unfold ofT at hy;refine zG 8 (zA hs (vs:=[]) (l:=[]) trivial) [.agg [.buf 0,.buf 1,.buf 2,.buf 3,.buf 4,.buf 5,.buf 6,.buf 7],nV k] Tryz.func11 Tryz.ntmps11 fun w0 cs=>?_;by_cases hc:bE s=0
 rotate_left
 ·rw [if_neg hc] at hy;subst hy;refine aA.callV (fun _ _ _ Sz K=>qI s (zB Sz K hs) hw (hT.keeps ⟨K.size,K.same⟩)) ?_;refine bGF ?_;exact zR Tryz.func11
 rw [if_pos hc] at hy;refine aA.callV (fun _ _ _ Sz K=>qI s (zB Sz K hs) hw (hT.keeps ⟨K.size,K.same⟩)) ?_;conv=>whnf
 rw [hc];try dsimp only
 refine bZ ?_;by_cases hk:idx k s.recipes.length
 rotate_left
 ·rw [at?_none hk] at hy;subst hy;refine ⟨fun h1=>?_,fun h1=>?_⟩<;>conv=>whnf
  ·conv=>whnf
   exact zR Tryz.func11
  refine dB ?_;exact zR Tryz.func11
 obtain ⟨j,rfl,hj,e3⟩:=at?_idx hk;rw [e3] at hy;dsimp only at hy;refine dB ?_;refine aA.deferU ?_;refine sqs ?_;refine zN (aFE s) [0,1,2,3,4,5,6,7] ?_;refine sqs ?_;refine zQ 13 [(8,fnM 12),(6,.ptr 11 0),(5,.ptr 10 0),(4,.ptr 9 0),(2,.ptr 8 0),(1,nV j)] (dQ 12::eC 11 0::zC 10::zC 9::dQ 8::bFM s) ?_;have hm:=List.getElem_mem hj;have hr:=hw.R _ hm;have hok:=hB.1.r _ hm;have hsm:=(fU.1 hc).2.1.2.1 _ hm;have hi:s.recipes[j].inn.length<=1000000:=by omega
 have ho:s.recipes[j].out.length<=1000000:=by omega
 unfold ofR at hy;refine zH (fls 0 7 (fls 8 7 (.e1 7 [10,14] (.e1 15 [] (.e1 16 [] (.e1 17 [] (.e1 18 [] .done))))))) ?_;refine bFN ?_;conv=>whnf
 refine ⟨_,bA hj,?_⟩;conv=>whnf
 try (refine And.intro (by first|omega|exact Nat.le_of_ble_eq_true rfl) ?_;(try intro _);conv=>whnf)
 conv=>whnf
 refine ⟨_,bA hj,?_⟩;conv=>whnf
 by_cases e1:(fY s s.recipes[j].inn).2=0
 ·obtain ⟨I,hI⟩:∃M,fY s s.recipes[j].inn=(M,0):=⟨_,Prod.ext rfl e1⟩;rw [hI,iO (x:=(I,0)) rfl] at hy;refine aK.callT (zY s _ _) (⟨hok.i,hB⟩) (aGN hw hr.i hi _ _ hI) [0,1,2,3,4,5,6,7,12] ?_ sH ?_;rotate_left
  ·rfl
  intro _ _;conv=>whnf
  try refine oB ?_
  refine sqr ?_;by_cases e2:(fY s s.recipes[j].out).2=0
  ·obtain ⟨O,hO⟩:∃M,fY s s.recipes[j].out=(M,0):=⟨_,Prod.ext rfl e2⟩;rw [hO,iO (x:=(O,0)) rfl] at hy;subst hy;refine aK.callT (zY s _ _) (⟨hok.o,hB⟩) (aGN hw hr.o ho _ _ hO) [0,1,2,3,4,5,6,7,12] ?_ sH ?_;rotate_left
   ·rfl
   intro _ _;conv=>whnf
   try refine oB ?_
   refine fA ?_;refine sqs ?_;refine aA.retU ?_;refine aB.deferN bDN.1 [9,10,11] ?_ trivial rfl (fun e=>by cases e);intro _ _;conv=>whnf
   exact aB.ret tab Tryz.func11 rfl fun _ _ _ _ K=>⟨_,rfl,rfl,K.keeps⟩
  rw [gX e2] at hy;subst hy;refine aK.callT (zY s _ _) (⟨hok.o,hB⟩) (aLW hw hr.o ho _ _ rfl e2) [0,1,2,3,4,5,6,7,12] ?_ sH ?_;rotate_left
  ·rfl
  intro _ _;conv=>whnf
  refine aB.deferN (bDP _).1 [9,10,11] ?_ ⟨by rfl,by rfl,by rfl,trivial⟩ rfl (fun e=>by cases e);intro _ _;conv=>whnf
  exact aB.ret tab Tryz.func11 rfl fun _ _ _ _ K=>⟨_,rfl,rfl,K.keeps⟩
 rw [gX e1] at hy;subst hy;refine aK.callT (zY s _ _) (⟨hok.i,hB⟩) (aLW hw hr.i hi _ _ rfl e1) [0,1,2,3,4,5,6,7,12] ?_ sH ?_;rotate_left
 ·rfl
 intro _ _;conv=>whnf
 refine aB.deferN (bDP _).1 [9,10,11] ?_ ⟨by rfl,by rfl,by rfl,trivial⟩ rfl (fun e=>by cases e);intro _ _;conv=>whnf
 exact aB.ret tab Tryz.func11 rfl fun _ _ _ _ K=>⟨_,rfl,rfl,K.keeps⟩

theorem devs_fn (s:aG):FnS Tryz.prog 35 8 [.agg [.buf 0,.buf 1,.buf 2,.buf 3,.buf 4,.buf 5,.buf 6,.buf 7]] (bFM s) (fun _:Unit=>True) (fun _=>.ret (.fn (.func 63) [] [.ptr 8 0]) 9 [dQ 8]):=by
 refine zS Tryz.func35 Tryz.ntmps35 fun E0 F h w0 cs=>?_;exact zI Tryz.func35 () trivial
theorem exam_y {s:aG} (hw:s.wf) {r:RcV} (hr:r.wf) (hb:r.inn.length<=1000000/\r.out.length<=1000000) {Y T:Rt} (hY:eU r.yN r.yD=(Y,0)) (hTo:eU r.tN r.tD=(T,0)) {b:Rt} {w:Bool} (h:exR s r=((b,w),0)):
  FnT Tryz.prog (fun F h=>r.ok F h/\aEW s F h) 64 9 [.agg (toV r.row),fnM 8] (dQ 8::bFM s) (fun _:Unit=>True) (fun _=>.ret (.agg [.v (.bool b.neg),.v (.string b.n),.v (.string b.d),.v (.bool w)]) 9 [dQ 8]):=by
 have:=aUL s hw r hr hb hY hTo;rw [h] at this;exact this
theorem exam_n {s:aG} (hw:s.wf) {r:RcV} (hr:r.wf) (hb:r.inn.length<=1000000/\r.out.length<=1000000) {Y T:Rt} (hY:eU r.yN r.yD=(Y,0)) (hTo:eU r.tN r.tD=(T,0)) {e:Int} (h:(exR s r).2=e) (he:e≠0):
  FnT Tryz.prog (fun F h=>r.ok F h/\aEW s F h) 64 9 [.agg (toV r.row),fnM 8] (dQ 8::bFM s) (fun _:Unit=>True) (fun _=>.pan (aBV e) 9 [dQ 8]):=by
 subst h;have:=aUL s hw r hr hb hY hTo;rw [show exO (exR s r)=.pan (aBV (exR s r).2) 9 [dQ 8] from if_neg he] at this;exact this
theorem aSN (s:aG) (r:RcV):TOk (fun F h=>r.ok F h/\aEW s F h):=⟨fun _ _ _ hs H=>⟨H.1.up ⟨hs,fun _ _=>rfl⟩,(aIW s).mono _ _ _ hs H.2⟩,fun _ _ _ H K=>⟨H.1.up ⟨fun _ x=>x,K.same⟩,(aIW s).keep _ _ _ H.2 K⟩⟩
def wrV (x:WR):Value:=.tuple #[.int .i64 x.1.1,x.1.2.1.v,.bool x.1.2.2,.int .i64 x.2]
theorem lY {h:Array Obj} (s:aG) {vU vI vP vM vO vF vR vS:Value} (hs:Top h vU vI vP vM vO vF vR vS s) (hw:s.wf) (hT:gN h):FV 13 #[xY vU vI vP vM vO vF vR vS] h (wrV (wrT s)):=by
 have lU:=aZ s.units;have lI:=aE It.row s.items;have lP:=cK s.plants;have lM:=aE Mc.row s.machines;have lO:=aE OpV.row s.options;have lF:=aE FbV.row s.forbids;have lR:=aE RcV.row s.recipes;have lS:=aE Sw.row s.swaps;have mR:=hs.R.len;have hB:aEW s (fun k=>k<h.size) h:=⟨hs.below,hT.t⟩;obtain ⟨y,hy⟩:∃y,y=wrT s:=⟨_,rfl⟩;rw [<-hy];unfold wrT at hy;refine zG 8 (zA hs (vs:=[]) (l:=[]) trivial) [.agg [.buf 0,.buf 1,.buf 2,.buf 3,.buf 4,.buf 5,.buf 6,.buf 7]] Tryz.func13 Tryz.ntmps13 fun w0 cs=>?_;by_cases hc:bE s=0
 rotate_left
 ·rw [if_neg hc] at hy;subst hy;refine aA.callV (fun _ _ _ Sz K=>qI s (zB Sz K hs) hw (hT.keeps ⟨K.size,K.same⟩)) ?_;refine bGF ?_;exact zR Tryz.func13
 rw [if_pos hc] at hy;refine aA.callV (fun _ _ _ Sz K=>qI s (zB Sz K hs) hw (hT.keeps ⟨K.size,K.same⟩)) ?_;conv=>whnf
 rw [hc];try dsimp only
 refine bZ ?_;refine aA.deferU ?_;refine sqs ?_;refine zN (devs_fn s) [0,1,2,3,4,5,6,7] ?_;refine sqs ?_;refine zQ 14 [(17,.fn (.func 63) [] [.ptr 13 0]),(2,.ptr 9 0),(3,.ptr 10 0),(4,.ptr 11 0),(5,.ptr 12 0)] (dQ 13::eC 12 0::booC 11 false::zC 10::intC 9 0::dQ 8::bFM s) ?_;refine aA.range Tryz.func63 (by kernel_rfl) rfl Tryz.ntmps63 fun E1 D yy r hrec hA1 w1 cs1=>?_;refine sqs ?_;refine zN (aFE s) [0,1,2,3,4,5,6,7] ?_;refine sqs ?_;refine zL (fun (k:Nat)=>[(11,nV k),(10,nV ((rws RcV.row s.recipes).length)),(9,.buf 6),(3,fnM 16),(0,.v (.func (.yield yy) #[] #[]))]) (fun k=>(dQ 16::(15,.raw yy (.loop (lp r .ready none)))::(14,.raw D (.deferred (some [])))::dQ 13::eC 12 0::booC 11 false::zC 10::intC 9 0::dQ 8::bFM s)) 17 (fun k=>k<=s.recipes.length/\wrF s (s.recipes.drop k) k=y) (fun k=>s.recipes.length - k) (0) (⟨Nat.zero_le _,hy.symm⟩) ?_;rintro k hJ back;try dsimp only at hJ back
 conv=>whnf
 try dsimp only
 refine gS ?_;conv=>whnf
 refine ⟨fun hk=>?_,fun hk=>?_⟩<;>conv=>whnf
 ·have hk:k<s.recipes.length:=by omega
  have hJ2:=hJ.2;rw [List.drop_eq_getElem_cons hk] at hJ2;unfold wrF at hJ2;have hm:=List.getElem_mem hk;have hrw:=hw.R _ hm;have hok:=hB.1.r _ hm;have hsm:=(fU.1 hc).2.1.2.1 _ hm;have hb:s.recipes[k].inn.length<=1000000/\s.recipes[k].out.length<=1000000:=by omega
  have hrb:=recs_b hc hm;obtain ⟨Y,hY,_⟩:=pO hrb.y;obtain ⟨T,hTo,_⟩:=pO hrb.t;refine dB ?_;refine ⟨_,bA hk,?_⟩;conv=>whnf
  try (refine oN ?_;conv=>whnf)
  by_cases e:(exR s s.recipes[k]).2=0
  rotate_left
  ·rw [if_neg e] at hJ2;refine zM (aSN s _) (⟨hok,hB⟩) (exam_n hw hrw hb hY hTo rfl e) [0,1,2,3,4,5,6,7,16] ?_;refine aB.pan Tryz.func63 (qG.pan (nx':=20) hA1 ?_);refine aB.collected (dn:=14) ?_ (fun e=>by cases e);refine aB.deferN (bDP _).2 [9,10,11,12] ?_ ⟨by rfl,by rfl,by rfl,by rfl,trivial⟩ rfl (fun e=>by cases e);intro _ _;conv=>whnf
   exact aB.ret tab Tryz.func13 rfl fun Ez Hz Az Sz K=>⟨_,rfl,by rw [<-hJ2];rfl,K.keeps⟩
  rw [if_pos e] at hJ2;obtain ⟨⟨b,w⟩,hx⟩:∃x,exR s s.recipes[k]=(x,0):=⟨_,Prod.ext rfl e⟩;rw [hx] at hJ2;refine zM (aSN s _) (⟨hok,hB⟩) (exam_y hw hrw hb hY hTo hx) [0,1,2,3,4,5,6,7,16] ?_;refine sqs ?_;refine zQ 18 [(20,.agg [.v (.bool b.neg),.v (.string b.n),.v (.string b.d),.v (.bool w)]),(17,nV k),(16,.v (.func (.yield yy) #[] #[])),(11,nV k),(10,nV ((rws RcV.row s.recipes).length)),(9,.buf 6),(3,fnM 16),(0,.v (.func (.yield yy) #[] #[]))] (dQ 16::(15,.raw yy (.loop (lp r .ready none)))::(14,.raw D (.deferred (some [])))::dQ 13::eC 12 0::booC 11 false::zC 10::intC 9 0::dQ 8::bFM s) ?_;refine aA.yield hrec 15 fun E2 hA2 w2 fr2 cs2=>?_;refine sqs ?_;refine aA.beginRound 15 ?_;refine sqs ?_
  cases w with
  |false=>
   conv=>whnf
   refine aA.endRound 15 hA2 ?_;refine bZ ?_;exact zb (back (k+1) ((⟨hk,hJ2⟩)) (by (try dsimp only);omega))
  |true=>
   refine sqs ?_;refine zH (fls 0 3 (.e1 3 [2] (.e1 4 [] (.e1 5 [] (.e1 6 [] .done))))) ?_;refine bFN ?_;refine sqs ?_;refine aA.roundRet 15 hA2 ?_;refine sqs ?_;refine aA.retU (aB.ret tab Tryz.func63 rfl (qG.ret (nx':=20) hA1 (yn:=15) ?_));conv=>whnf
   refine aA.retU ?_;refine aB.collected (dn:=14) ?_ (fun e=>by cases e);refine aB.deferN bDN.2 [9,10,11,12] ?_ trivial rfl (fun e=>by cases e);intro _ _;conv=>whnf
   exact aB.ret tab Tryz.func13 rfl fun Ez Hz Az Sz K=>⟨_,rfl,by rw [<-hJ2];rfl,K.keeps⟩
 have hk:k=s.recipes.length:=by omega
 have hJ2:=hJ.2;rw [hk,List.drop_length] at hJ2;clear back hJ;refine aA.finU (aB.ret tab Tryz.func63 rfl (qG.ret (nx':=20) hA1 (yn:=15) ?_));refine sqv ?_;refine aA.retU ?_;refine aB.collected (dn:=14) ?_ (fun e=>by cases e);refine aB.deferN bDN.2 [9,10,11,12] ?_ trivial rfl (fun e=>by cases e);intro _ _;conv=>whnf
 exact aB.ret tab Tryz.func13 rfl fun Ez Hz Az Sz K=>⟨_,rfl,by rw [<-hJ2];rfl,K.keeps⟩
theorem fO {h:Array Obj} (s:aG) {vU vI vP vM vO vF vR vS:Value} (hs:Top h vU vI vP vM vO vF vR vS s) (hw:s.wf) (hT:gN h):FV 15 #[xY vU vI vP vM vO vF vR vS] h (.int .i64 (fV s)):=by
 obtain ⟨y,hy⟩:∃y,y=fV s:=⟨_,rfl⟩;rw [<-hy];unfold fV at hy;refine zG 8 (zA hs (vs:=[]) (l:=[]) trivial) [.agg [.buf 0,.buf 1,.buf 2,.buf 3,.buf 4,.buf 5,.buf 6,.buf 7]] Tryz.func15 Tryz.ntmps15 fun w0 cs=>?_;obtain ⟨⟨⟨n,b,w⟩,e⟩,hx⟩:∃x,wrT s=x:=⟨_,rfl⟩;rw [hx] at hy;refine aA.callV (fun _ _ _ Sz K=>lY s (zB Sz K hs) hw (hT.keeps ⟨K.size,K.same⟩)) ?_;conv=>whnf
 rw [hx];try dsimp only
 refine sqs ?_;refine ⟨fun he=>?_,fun he=>?_⟩<;>conv=>whnf
 ·have he:e=0:=he;rw [if_pos he] at hy
  cases w with
  |true=>
   conv=>whnf
   subst hy;exact zR Tryz.func15
  |false=>
   conv=>whnf
   subst hy;exact zR Tryz.func15
 conv=>whnf
 have he:¬e=0:=he;rw [if_neg he] at hy;subst hy;exact zR Tryz.func15
end Go.Proofs.YthjedpdedjhndaaGreatDoor

namespace Go.SrcM
open Go Go.Fw Go.RatM
theorem aBD {α β:Type} {f:α->Option β} {f':α->Option β} {p:α->α} {q:β->β} (h:∀a,f' (p a)=(f a).map q):∀l:List α,cH f' (l.map p)=(cH f l).map (List.map q)
 | []=>rfl
 |a::l=>by
  simp only [List.map_cons,cH,h]
  cases ha:f a with
  |none=>rfl
  |some b=>
   simp only [Option.map_some,aBD h l]
   cases cH f l with
   |none=>rfl
   |some m=>rfl
section
variable (s:aG)
theorem aIM:s.bare.options.map OpV.name=s.options.map OpV.name:=by
 show (s.options.map OpV.bare).map OpV.name=_;rw [List.map_map];rfl
theorem aPU (c:It):oI s.bare c=oI s c:=rfl
theorem aRG (c:Mc):pH s.bare c=pH s c:=rfl
theorem aFI (c:Am):lK s.bare c=lK s c:=rfl
theorem aRH (c:Rn):pQ s.bare c=pQ s c:=rfl
theorem aRF (c:Sw):nS s.bare c=nS s c:=rfl
theorem aEJ (c:Cd):jV s.bare c=jV s c:=by
 unfold jV;rw [aIM]
 cases cZ (s.options.map OpV.name) c.opt with
 |none=>rfl
 |some o=>
  have e:s.bare.options[o]? = (s.options[o]?).map OpV.bare:=List.getElem?_map ..;dsimp only;rw [e]
  generalize s.options[o]? = z
  cases z with
  |none=>rfl
  |some q=>rfl
theorem aSA (f:FbV):pS s.bare f.bare=(pS s f).map FbV.bare:=by
 unfold pS;rw [jB (aEJ s)];show (cH (jV s) f.cs).map _=_
 cases cH (jV s) f.cs with
 |none=>rfl
 |some m=>rfl
theorem aPV (r:RcV):nP s.bare r.bare=(nP s r).map RcV.bare:=by
 unfold nP;rw [jB (aEJ s),jB (aFI s),jB (aFI s),jB (aRH s)];show (match cZ (s.items.map It.name) r.item with|some i=>_|none=>_)=_
 cases cZ (s.items.map It.name) r.item with
 |none=>rfl
 |some i=>
  show (match cZ s.plants r.plant with|some i=>_|none=>_)=_
  cases cZ s.plants r.plant with
  |none=>rfl
  |some p=>
   show (match cH (jV s) r.cs with|some i=>_|none=>_)=_
   cases cH (jV s) r.cs with
   |none=>rfl
   |some cs=>
    show (match cH (lK s) r.inn with|some i=>_|none=>_)=_
    cases cH (lK s) r.inn with
    |none=>rfl
    |some inn=>
     show (match cH (lK s) r.out with|some i=>_|none=>_)=_
     cases cH (lK s) r.out with
     |none=>rfl
     |some out=>
      show (match cH (pQ s) r.runs with|some i=>_|none=>_)=_
      cases cH (pQ s) r.runs with
      |none=>rfl
      |some runs=>rfl
theorem aXB:resS s.bare=(resS s).map aG.bare:=by
 unfold resS;rw [jB (aPU s),jB (aRG s),jB (aRF s)];show (match cH (oI s) s.items with|some i=>_|none=>_)=_
 cases cH (oI s) s.items with
 |none=>rfl
 |some a=>
  show (match cH (pH s) s.machines with|some i=>_|none=>_)=_
  cases cH (pH s) s.machines with
  |none=>rfl
  |some b=>
   show (match cH (pS s.bare) (s.forbids.map FbV.bare) with|some i=>_|none=>_)=_;rw [aBD (aSA s)]
   cases cH (pS s) s.forbids with
   |none=>rfl
   |some c=>
    show (match cH (nP s.bare) (s.recipes.map RcV.bare) with|some i=>_|none=>_)=_;rw [aBD (aPV s)]
    cases cH (nP s) s.recipes with
    |none=>rfl
    |some d=>
     show (cH (nS s) s.swaps).map _=_
     cases cH (nS s) s.swaps with
     |none=>rfl
     |some e=>rfl
theorem aCL:nH s.bare↔nH s:=by
 unfold nH;rw [aIM];have:(∀o∈s.bare.options,o.ch.Nodup) ↔ ∀o∈s.options,o.ch.Nodup:=by
  show (∀o∈s.options.map OpV.bare,o.ch.Nodup)↔_;exact ⟨fun h o ho=>h o.bare (List.mem_map_of_mem (f:=OpV.bare) ho),fun h o ho=>by obtain ⟨q,hq,rfl⟩:=List.mem_map.1 ho;exact h q hq⟩
 rw [this];exact Iff.rfl
theorem aFN:eL s.bare=((eL s).1.bare,(eL s).2):=by
 unfold eL;by_cases ht:nH s
 ·rw [if_pos ht,if_pos ((aCL s).2 ht)];rfl
 rw [if_neg ht,if_neg (fun h=>ht ((aCL s).1 h))];show (match dA s.units with | .inr e=>_ | .inl u=>_)=_
 cases dA s.units with
 |inr e=>rfl
 |inl u=>
  dsimp only;rw [aXB]
  cases resS s with
  |none=>rfl
  |some t=>rfl
end
end Go.SrcM

namespace Go.SynM
open Go Go.Fw Go.RatM Go.SrcM
open Go.Proofs.YthjedpdedjhndaaGreatDoor (Tok)
def rcH (c:RcV) (x:Hd×Hd×Hd×Hd):RcV:={c with hc:=x.1,hi:=x.2.1,ho:=x.2.2.1,hr:=x.2.2.2}
theorem aIG {t:aG} {U:List Un} {I:List It} {P:List ByteArray} {c1 c2:RcV} (h:t.bare=⟨U,I,P,[],[],[],[c1,c2],[]⟩):∃a b,t=⟨U,I,P,[],[],[],[rcH c1 a,rcH c2 b],[]⟩:=by
 have h1:t.units=U:=congrArg aG.units h;have h2:t.items=I:=congrArg aG.items h;have h3:t.plants=P:=congrArg aG.plants h;have h4:t.machines=[]:=congrArg aG.machines h;have h5:t.options=[]:=List.map_eq_nil_iff.1 (show t.options.map OpV.bare=[] from congrArg aG.options h);have h6:t.forbids=[]:=List.map_eq_nil_iff.1 (show t.forbids.map FbV.bare=[] from congrArg aG.forbids h);have h7:t.recipes.map RcV.bare=[c1,c2]:=congrArg aG.recipes h;have h8:t.swaps=[]:=congrArg aG.swaps h;obtain ⟨u,i,p,m,o,f,r,x⟩:=t;subst h1 h2 h3 h4 h5 h6 h8
 cases r with
 |nil=>cases h7
 |cons a l=>
  cases l with
  |nil=>exact absurd (congrArg List.length h7) (by simp)
  |cons b l=>
   cases l with
   |cons _ _=>exact absurd (congrArg List.length h7) (by simp)
   |nil=>
    have e1:a.bare=c1:=(List.cons.inj h7).1;have e2:b.bare=c2:=(List.cons.inj (List.cons.inj h7).2).1;subst e1 e2;exact ⟨(a.hc,a.hi,a.ho,a.hr),(b.hc,b.hi,b.ho,b.hr),rfl⟩
def preB:ByteArray:=⟨#[117,110,105,116,32,103,59,32,117,110,105,116,32,107,103,32,61,32,49,48,48,48,47,49,32,103,59,32,105,116,101,109,32,97,32,105,110,32,107,103,32,109,97,115,115,32,49,47,49,59,32,105,116,101,109,32,98,32,105,110,32,103,32,109,97,115,115,32,49,47,49,48,48,48,59,32,112,108,97,110,116,32,112,59,32,109,97,107,101,32,97,32,97,116,32,112,32,102,114,111,109,32,48,32,116,111,32,53,32,123,32,111,117,116,32,49,47,49,32,107,103,32,97,59,32,114,101,119,111,114,107,32,49,47,50,59,32,121,105,101,108,100,32,48,47,49,32,119,105,116,104,105,110,32,49,47,49,59,32,108,101,97,100,32,48,59,32,125,32,109,97,107,101,32,97,32,97,116,32,112,32,102,114,111,109,32,53,32,116,111,32,57,32,123,32,105,110,32,52,47,49,32,107,103,32,98,59,32,105,110,32,98,97,99,107,32,54,48,48,48,47,49,32,103,32,98,59,32,111,117,116,32,56,47,49,32,107,103,32,97,59,32,111,117,116,32,49,47,49,32,107,103,32,98,59,32,114,101,119,111,114,107,32,49,47,50,59,32,121,105,101,108,100,32,49,47,49,32,119,105,116,104,105,110,32]⟩
def postB:ByteArray:=⟨#[47,49,48,59,32,108,101,97,100,32,48,59,32,125]⟩
def srcE (t:ByteArray):ByteArray:=(preB++t)++postB
end Go.SynM
namespace Go.Proofs.YthjedpdedjhndaaGreatDoor
open Go Go.Fw Go.NatM Go.RatM Go.SrcM Go.SynM
def NB (t:ByteArray):Prop:=cls (aY t 0)=2
instance (t:ByteArray):Decidable (NB t):=by unfold NB;infer_instance
def tlE (t:ByteArray):List (Nat×Tk):=match aHL (bs (srcE t)) 0 with
 | .inl l=>l
 | .inr _=>[]
def zE (t:ByteArray):aG:=match tQ noS (uD (tlE t)) with
 | .ok z _=>z
 | .bad _ _=>lL
theorem rW.upX {G G':Nat->Prop} {h h':Array Obj} (H:rW G h) (U:Up G h G' h'):rW G' h':=by
 refine ⟨fun j hj=>?_,U.sub _ H.2⟩;have e:=U.same _ H.2;have:=H.1 j hj;unfold bL at this ⊢;rw [e];exact this
theorem wQ {G:Nat->Prop} {h:Array Obj} {vU vI vP vM vO vF vR vS:Value} {s:aG} (H:pW G h vU vI vP vM vO vF vR vS s):∃aU cU aI cI aP cP aM cM aO cO aF cF aR cR aS cS,vU=.slice aU s.units.length cU/\vI=.slice aI s.items.length cI/\vP=.slice aP s.plants.length cP/\vM=.slice aM s.machines.length cM/\vO=.slice aO s.options.length cO/\vF=.slice aF s.forbids.length cF/\vR=.slice aR s.recipes.length cR/\vS=.slice aS s.swaps.length cS:=by
 obtain ⟨aU,cU,e1⟩:=RoF.sli H.U (aZ s.units);obtain ⟨aI,cI,e2⟩:=RoF.sli H.I (aE It.row s.items);obtain ⟨aP,cP,e3⟩:=RoF.sli H.P (cK s.plants);obtain ⟨aM,cM,e4⟩:=RoF.sli H.M (aE Mc.row s.machines);obtain ⟨aO,cO,e5⟩:=RoF.sli H.O (aE OpV.row s.options);obtain ⟨aF,cF,e6⟩:=RoF.sli H.F (aE FbV.row s.forbids);obtain ⟨aR,cR,e7⟩:=RoF.sli H.R (aE RcV.row s.recipes);obtain ⟨aS,cS,e8⟩:=RoF.sli H.S (aE Sw.row s.swaps);exact ⟨aU,cU,aI,cI,aP,cP,aM,cM,aO,cO,aF,cF,aR,cR,aS,cS,e1,e2,e3,e4,e5,e6,e7,e8⟩
theorem aWN {s:aG} (h:Lens s.bare):Lens s where
 U:=h.U
 I:=h.I
 P:=h.P
 M:=h.M
 O:=by have:=h.O;rwa [show s.bare.options.length=s.options.length from List.length_map _] at this
 F:=by have:=h.F;rwa [show s.bare.forbids.length=s.forbids.length from List.length_map _] at this
 R:=by have:=h.R;rwa [show s.bare.recipes.length=s.recipes.length from List.length_map _] at this
 S:=h.S
 o:=fun a ha=>h.o a.bare (List.mem_map_of_mem (f:=OpV.bare) ha)
 f:=fun a ha=>h.f a.bare (List.mem_map_of_mem (f:=FbV.bare) ha)
 r:=fun a ha=>h.r a.bare (List.mem_map_of_mem (f:=RcV.bare) ha)
def t0:ByteArray:=⟨#[48]⟩
def t1:ByteArray:=⟨#[49]⟩
def rE (t:ByteArray):aG:=(eL (zE t)).1
structure GdE (t:ByteArray):Prop where
 sz:t.size=1
 lx:aHL (bs (srcE t)) 0=.inl (tlE t)
 rs:tQ noS (uD (tlE t))=.ok (zE t) []
 kl:KL NB (uD (tlE t))
 hw:∀x∈uD (tlE t),x.text≠B gJ/\x.text≠B jS/\x.text≠B jR/\x.text≠B rA/\x.text≠B wIf/\(x.kind=1\/x.text.size<=1)
 ln:(uD (tlE t)).length<=65536
 lz:Lens (zE t)
 wf:∀u∈(zE t).units,i64 u.n/\i64 u.d
 rv:eL (zE t)=(rE t,0)
theorem gd0:GdE t0 where
 sz:=rfl
 lx:=by kernel_rfl
 rs:=by kernel_rfl
 kl:=⟨by decide +kernel⟩
 hw:=by decide +kernel
 ln:=by decide +kernel
 lz:=⟨by decide +kernel,by decide +kernel,by decide +kernel,by decide +kernel,by decide +kernel,by decide +kernel,by decide +kernel,by decide +kernel,by decide +kernel,by decide +kernel,by decide +kernel⟩
 wf:=by decide +kernel
 rv:=by kernel_rfl
theorem gd1:GdE t1 where
 sz:=rfl
 lx:=by kernel_rfl
 rs:=by kernel_rfl
 kl:=⟨by decide +kernel⟩
 hw:=by decide +kernel
 ln:=by decide +kernel
 lz:=⟨by decide +kernel,by decide +kernel,by decide +kernel,by decide +kernel,by decide +kernel,by decide +kernel,by decide +kernel,by decide +kernel,by decide +kernel,by decide +kernel,by decide +kernel⟩
 wf:=by decide +kernel
 rv:=by kernel_rfl
theorem vocB:aDJ NB:=⟨by decide,by decide⟩
def srO (y:PsX):eR:=.ret (.tup [srcA y.U y.I y.P y.M y.O y.F y.R y.S,.v (.bool true)]) 0 []
theorem aFR (t:ByteArray) (g:GdE t):FnX Tryz.prog 26 0 [.v (.string t)] [] (fun G h=>rW G h) (fun (y:PsX) G h=>pW G h y.U y.I y.P y.M y.O y.F y.R y.S y.s/\y.s.bare=rE t) srO:=by
 have ht:=g.sz;have p1:preB.size=285:=by kernel_rfl
 have p2:postB.size=14:=by kernel_rfl
 refine zX Tryz.func26 Tryz.ntmps26 fun E0 F G h N hP w0 cs=>?_;refine And.intro (show preB.size+t.size<=9223372036854775807 by omega) ?_;conv=>whnf
 refine And.intro (show (preB++t).size+postB.size<=9223372036854775807 by rw [ByteArray.size_append];omega) ?_;refine sqs ?_;refine aA.callY (N.gsub) (aVV (srcE t) (by unfold srcE;rw [ByteArray.size_append,ByteArray.size_append];omega) g.lx rfl g.ln g.kl vocB g.hw g.rs) (fun _ _=>trivial) [] sH ?CNa1 ?_;case CNa1=>rfl
 rintro _ ⟨s1,a1,e1,u1,u2,u3,u4,u5,u6,u7,u8⟩ G1 h1 N1 J1;have V1:=Now.step N.gsub N1;obtain ⟨hz,rfl,rfl⟩:s1.bare=zE t/\a1=0/\e1=0:=J1.res;have T1:pW G1 h1 u1 u2 u3 u4 u5 u6 u7 u8 s1:=J1.top;obtain ⟨aU,cU,aI,cI,aP,cP,aM,cM,aO,cO,aF,cF,aR,cR,aS,cS,rfl,rfl,rfl,rfl,rfl,rfl,rfl,rfl⟩:=wQ T1;refine sqv ?_;have w1:∀u∈s1.units,i64 u.n/\i64 u.d:=by rw [show s1.units=(zE t).units from (congrArg aG.units hz :)];exact g.wf
 refine aA.callY (N1.gsub) (aMQ s1 _ _ _ _ _ _ _ _ (aWN (by rw [hz];exact g.lz)) w1) (fun h U=>⟨T1.up U,hP.upX (V1.trans U)⟩) [] sH ?CNa2 ?_;case CNa2=>rfl
 rintro _ ⟨t2,x2,y1,y2,y3,y4,y5,y6,y7,y8⟩ G2 h2 N2 J2;have hr:=aFN s1;rw [hz,g.rv] at hr;obtain rfl:0=x2:=(Prod.mk.inj hr).2.trans J2.e;have hb:t2.bare=rE t:=(J2.t.symm.trans (Prod.mk.inj hr).1.symm);have T2:pW G2 h2 y1 y2 y3 y4 y5 y6 y7 y8 t2:=J2.top;obtain ⟨bU,dU,bI,dI,bP,dP,bM,dM,bO,dO,bF,dF,bR,dR,bS,dS,rfl,rfl,rfl,rfl,rfl,rfl,rfl,rfl⟩:=wQ T2;refine sqv ?_;refine And.intro (fun _=>?_) (fun hn=>absurd (rfl) hn);refine sqv ?_;exact zU (aB.ret tab Tryz.func26 rfl (eX ((N.trans N1).trans N2) ((⟨t2,0,0,.slice bU t2.units.length dU,.slice bI t2.items.length dI,.slice bP t2.plants.length dP,.slice bM t2.machines.length dM,.slice bO t2.options.length dO,.slice bF t2.forbids.length dF,.slice bR t2.recipes.length dR,.slice bS t2.swaps.length dS⟩:PsX)) (fun h U=>⟨T2.up U,hb⟩)))
end Go.Proofs.YthjedpdedjhndaaGreatDoor

namespace Go.Proofs.YthjedpdedjhndaaGreatDoor
open Go Go.Fw Go.NatM Go.RatM Go.SrcM Go.SynM
def dRc:RcV:=⟨⟨#[]⟩,⟨#[]⟩,0,0,⟨none,0⟩,[],⟨none,0⟩,[],⟨none,0⟩,[],0,0,0,0,0,0,0,⟨none,0⟩,[],0,0⟩
def rcE (t:ByteArray) (k:Nat):RcV:=(rE t).recipes.getD k dRc
abbrev HD:=Hd×Hd×Hd×Hd
def exE (t:ByteArray) (l:List RcV):aG:=⟨(rE t).units,(rE t).items,(rE t).plants,[],[],[],l,[]⟩
def exE2 (t:ByteArray) (a b:HD):aG:=exE t [rcH (rcE t 0) a,rcH (rcE t 1) b]
def exE1 (t:ByteArray) (b:HD):aG:=exE t [rcH (rcE t 1) b]
theorem shp0:rE t0=exE t0 [rcE t0 0,rcE t0 1]:=by kernel_rfl
theorem shp1:rE t1=exE t1 [rcE t1 0,rcE t1 1]:=by kernel_rfl
theorem exf1 (a b:HD):ofT (exE2 t0 a b) 1=((⟨false,⟨#[10]⟩,⟨#[1]⟩⟩,⟨false,⟨#[9]⟩,⟨#[1]⟩⟩),0):=by kernel_rfl
theorem exf2 (a b:HD):ofT (exE2 t0 a b) 0=((⟨false,⟨#[]⟩,⟨#[1]⟩⟩,⟨false,⟨#[1]⟩,⟨#[1]⟩⟩),0):=by kernel_rfl
theorem exf3 (a b:HD):ofT (exE2 t0 a b) 2=((zr,zr),1):=by kernel_rfl
theorem exf4 (a b:HD):wrT (exE2 t0 a b)=((0,⟨false,⟨#[1]⟩,⟨#[1]⟩⟩,true),0):=by kernel_rfl
theorem exf5:ofT lL 0=((zr,zr),1):=by kernel_rfl
theorem exf6 (b:HD):wrT (exE1 t0 b)=((0,⟨true,⟨#[1]⟩,⟨#[1]⟩⟩,true),0):=by kernel_rfl
theorem exf7 (b:HD):wrT (exE1 t1 b)=((0,zr,false),0):=by kernel_rfl
theorem exf8 (b:HD):fV (exE1 t0 b)=140:=by kernel_rfl
theorem exf9 (b:HD):fV (exE1 t1 b)=0:=by kernel_rfl
theorem exf10:fV lL=0:=by kernel_rfl
theorem aNM {h:Array Obj} (x:Rt) (n d:Int) (hn: -9223372036854775808<=n/\n<=9223372036854775807) (hd: -9223372036854775808<=d/\d<=9223372036854775807) (hx:eU n d=(x,0)) (hT:gN h):FV 27 #[x.v,.int .i64 n,.int .i64 d] h (.bool true):=by
 refine zO Tryz.func27 Tryz.ntmps27 (args:=[.agg #[.bool x.neg,.string x.n,.string x.d],.int .i64 n,.int .i64 d]) fun w0 cs=>?_;refine aA.callV (fun _ _ _ _ K=>iC n d hn hd (hT.keeps ⟨K.size,K.same⟩)) ?_;conv=>whnf
 rw [hx];try dsimp only
 refine bZ ?_;refine zW Tryz.func27 fun Ez=>?_;exact congrArg Value.bool (decide_eq_true ⟨rfl,rfl,rfl⟩)
theorem bGD {h:Array Obj} {vU vI vP vM vO vF vR vS:Value} {s:aG} (H:pW (fun k=>k<h.size) h vU vI vP vM vO vF vR vS s):Top h vU vI vP vM vO vF vR vS s:=⟨H.U,H.I,H.P,H.M,H.O,H.F,H.R,H.S,H.below⟩
theorem noTop {h:Array Obj}:Top h cD cD cD cD cD cD cD cD lL:=bGD (pW.none _ _)
instance (a:Am):Decidable a.wf:=by unfold Am.wf;infer_instance
instance (a:It):Decidable a.wf:=by unfold It.wf;infer_instance
instance (a:Cd):Decidable a.wf:=by unfold Cd.wf;infer_instance
instance (a:Rn):Decidable a.wf:=by unfold Rn.wf;infer_instance
theorem aKC {c:RcV} (h:c.wf) (x:HD):(rcH c x).wf:=⟨h.c,h.i,h.o,h.rn,h.n⟩
theorem rcE_wf:(rcE t0 0).wf/\(rcE t0 1).wf/\(rcE t1 0).wf/\(rcE t1 1).wf:=⟨⟨by decide +kernel,by decide +kernel,by decide +kernel,by decide +kernel,by decide +kernel⟩,⟨by decide +kernel,by decide +kernel,by decide +kernel,by decide +kernel,by decide +kernel⟩,⟨by decide +kernel,by decide +kernel,by decide +kernel,by decide +kernel,by decide +kernel⟩,⟨by decide +kernel,by decide +kernel,by decide +kernel,by decide +kernel,by decide +kernel⟩⟩
theorem lG {α:Type} {p:α->Prop}:∀x∈([]:List α),p x:=fun x hx=>absurd hx List.not_mem_nil
theorem exE0_wf {l:List RcV} (h:∀r∈l,r.wf):(exE t0 l).wf:=⟨(by decide +kernel:∀u∈(rE t0).units,i64 u.n/\i64 u.d),(by decide +kernel:∀u∈(rE t0).items,u.wf),lG,lG,h,lG⟩
theorem exE1_wf {l:List RcV} (h:∀r∈l,r.wf):(exE t1 l).wf:=⟨(by decide +kernel:∀u∈(rE t1).units,i64 u.n/\i64 u.d),(by decide +kernel:∀u∈(rE t1).items,u.wf),lG,lG,h,lG⟩
theorem no_wf:lL.wf:=⟨lG,lG,lG,lG,lG,lG⟩
structure ExD (U:List Un) (I:List It) (P:List ByteArray) (r0 r1:RcV) (V:List Un) (J:List It) (Q:List ByteArray) (q0 q1:RcV):Prop where
 sh0:rE t0=⟨U,I,P,[],[],[],[r0,r1],[]⟩
 sh1:rE t1=⟨V,J,Q,[],[],[],[q0,q1],[]⟩
 f1:∀a b,ofT ⟨U,I,P,[],[],[],[rcH r0 a,rcH r1 b],[]⟩ 1=((⟨false,⟨#[10]⟩,⟨#[1]⟩⟩,⟨false,⟨#[9]⟩,⟨#[1]⟩⟩),0)
 f2:∀a b,ofT ⟨U,I,P,[],[],[],[rcH r0 a,rcH r1 b],[]⟩ 0=((⟨false,⟨#[]⟩,⟨#[1]⟩⟩,⟨false,⟨#[1]⟩,⟨#[1]⟩⟩),0)
 f3:∀a b,ofT ⟨U,I,P,[],[],[],[rcH r0 a,rcH r1 b],[]⟩ 2=((zr,zr),1)
 f4:∀a b,wrT ⟨U,I,P,[],[],[],[rcH r0 a,rcH r1 b],[]⟩=((0,⟨false,⟨#[1]⟩,⟨#[1]⟩⟩,true),0)
 f6:∀b,wrT ⟨U,I,P,[],[],[],[rcH r1 b],[]⟩=((0,⟨true,⟨#[1]⟩,⟨#[1]⟩⟩,true),0)
 f7:∀b,wrT ⟨V,J,Q,[],[],[],[rcH q1 b],[]⟩=((0,zr,false),0)
 f8:∀b,fV ⟨U,I,P,[],[],[],[rcH r1 b],[]⟩=140
 f9:∀b,fV ⟨V,J,Q,[],[],[],[rcH q1 b],[]⟩=0
 w1:∀l:List RcV,(∀r∈l,r.wf)->(aG.mk U I P [] [] [] l []).wf
 w2:∀l:List RcV,(∀r∈l,r.wf)->(aG.mk V J Q [] [] [] l []).wf
 w3:r0.wf/\r1.wf/\q0.wf/\q1.wf
theorem exD:∃U I P r0 r1 V J Q q0 q1,ExD U I P r0 r1 V J Q q0 q1:=⟨_,_,_,_,_,_,_,_,_,_,⟨shp0,shp1,exf1,exf2,exf3,exf4,exf6,exf7,exf8,exf9,fun _ h=>exE0_wf h,fun _ h=>exE1_wf h,rcE_wf⟩⟩

abbrev exC (b:Nat) (u i p m o f r x:Value):Nat×Fw.Blk:=(b,.cells 31 [.v u,.v i,.v p,.v m,.v o,.v f,.v r,.v x])
theorem aDP {h:Array Obj} {vU vI vP vM vO vF vR vS v:Value} {U:List Un} {I:List It} {P:List ByteArray} {x y:RcV} (H:Top h vU vI vP vM vO vF vR vS ⟨U,I,P,[],[],[],[x,y],[]⟩) (hv:Ro h v 17 (rws RcV.row [y])):Top h vU vI vP vM vO vF v vS ⟨U,I,P,[],[],[],[y],[]⟩:=
 ⟨H.U,H.I,H.P,H.M,H.O,H.F,hv,H.S,⟨lG,lG,fun r hr=>H.below.r r (List.mem_cons_of_mem _ hr)⟩⟩
theorem aVN:FnX Tryz.prog 9 0 [] [] (fun G h=>rW G h) (fun (_:Unit) _ _=>True) (fun _=>.ret (.v (.bool true)) 0 []):=by
 obtain ⟨U0,I0,P0,r0,r1,V0,J0,Q0,q0,q1,D⟩:=exD;refine zX Tryz.func9 Tryz.ntmps9 fun E0 F G h N hP w0 cs=>?_;refine aA.callY (N.gsub) (aFR t0 gd0) (fun h U=>hP.upX U) [] sH ?CNa1 ?_;case CNa1=>rfl
 rintro _ ⟨s1,z1,z2,u1,u2,u3,u4,u5,u6,u7,u8⟩ G1 h1 N1 ⟨T1,B1⟩;have V1:=Now.step N.gsub N1;have T1:pW G1 h1 u1 u2 u3 u4 u5 u6 u7 u8 s1:=T1;have B1:s1.bare=rE t0:=B1;obtain ⟨a,b,rfl⟩:=aIG (B1.trans D.sh0);clear B1;obtain ⟨aU,cU,aI,cI,aP,cP,aM,cM,aO,cO,aF,cF,aR,cR,aS,cS,rfl,rfl,rfl,rfl,rfl,rfl,rfl,rfl⟩:=wQ T1;dsimp only [srO] at T1 ⊢;refine sqv ?_;refine zQ 1 [(2,.v (.bool true)),(1,.ptr 0 0)] [exC 0 (.slice aU U0.length cU) (.slice aI I0.length cI) (.slice aP P0.length cP) (.slice aM 0 cM) (.slice aO 0 cO) (.slice aF 0 cF) (.slice aR 2 cR) (.slice aS 0 cS)] ?_;refine sqs ?_;refine aA.callY (N1.gsub) (aFR t1 gd1) (fun h U=>hP.upX (V1.trans U)) [] sH ?CNa2 ?_;case CNa2=>rfl
 rintro _ ⟨s2,z3,z4,w1,w2,w3,w4,w5,w6,w7,w8⟩ G2 h2 N2 ⟨T2,B2⟩;have V2:=V1.trans (Now.step N1.gsub N2);have T1:=T1.up (Now.step N1.gsub N2);have T2:pW G2 h2 w1 w2 w3 w4 w5 w6 w7 w8 s2:=T2;have B2:s2.bare=rE t1:=B2;obtain ⟨c,d,rfl⟩:=aIG (B2.trans D.sh1);clear B2;obtain ⟨bU,dU,bI,dI,bP,dP,bM,dM,bO,dO,bF,dF,bR,dR,bS,dS,rfl,rfl,rfl,rfl,rfl,rfl,rfl,rfl⟩:=wQ T2;have UK:=fun (Hz:Array Obj) (K:Kp _ h2 Hz)=>(N2.up K).trans (Up.below N2.gsub K);have TB:=fun (Hz:Array Obj) (K:Kp _ h2 Hz)=>(hP.upX (V2.trans (UK Hz K))).1;dsimp only [srO] at T2 ⊢;conv=>whnf
 refine zQ 1 [(34,.tup [srcA (.slice bU V0.length dU) (.slice bI J0.length dI) (.slice bP Q0.length dP) (.slice bM 0 dM) (.slice bO 0 dO) (.slice bF 0 dF) (.slice bR 2 dR) (.slice bS 0 dS),.v (.bool true)]),(2,.v (.bool true)),(1,.ptr 0 0)] [exC 0 (.slice aU U0.length cU) (.slice aI I0.length cI) (.slice aP P0.length cP) (.slice aM 0 cM) (.slice aO 0 cO) (.slice aF 0 cF) (.slice aR 2 cR) (.slice aS 0 cS)] ?_;refine bZ ?_;have W1:=D.w1 [rcH r0 a,rcH r1 b] fun r hr=>by
  rcases List.mem_cons.1 hr with rfl|hr
  ·exact aKC D.w3.1 _
  rw [List.mem_singleton.1 hr];exact aKC D.w3.2.1 _
 have W2:=D.w1 [rcH r1 b] fun r hr=>by rw [List.mem_singleton.1 hr];exact aKC D.w3.2.1 _
 have W3:=D.w2 [rcH q1 d] fun r hr=>by rw [List.mem_singleton.1 hr];exact aKC D.w3.2.2.2 _
 refine aA.callV (fun _ _ _ _ K=>sS _ (bGD (T1.up (UK _ K))) W1 1 (TB _ K)) ?_;conv=>whnf
 rw [D.f1];try dsimp only
 refine sqs ?_;refine aA.callV (fun _ _ _ _ K=>sS _ (bGD (T1.up (UK _ K))) W1 0 (TB _ K)) ?_;conv=>whnf
 rw [D.f2];try dsimp only
 refine sqs ?_;refine aA.callV (fun _ _ _ _ K=>sS _ (bGD (T1.up (UK _ K))) W1 2 (TB _ K)) ?_;conv=>whnf
 rw [D.f3];try dsimp only
 refine sqs ?_;refine aA.callV (fun _ _ _ _ K=>lY _ (bGD (T1.up (UK _ K))) W1 (TB _ K)) ?_;conv=>whnf
 rw [D.f4];try dsimp only
 refine sqs ?_;refine aA.callV (fun _ _ _ _ K=>sS lL noTop no_wf 0 (TB _ K)) ?_;conv=>whnf
 rw [exf5];try dsimp only
 refine sqs ?_;refine zQ 11 [(20,nV 1),(17,nV 0),(16,.v (.bool true)),(14,nV 0),(15,.ptr 8 0),(13,nV 1),(10,nV 0),(8,.ptr 4 0),(7,nV 0),(6,.ptr 3 0),(5,.ptr 2 0),(3,.ptr 1 0),(1,.ptr 0 0)] [exC 1 (.slice bU V0.length dU) (.slice bI J0.length dI) (.slice bP Q0.length dP) (.slice bM 0 dM) (.slice bO 0 dO) (.slice bF 0 dF) (.slice bR 2 dR) (.slice bS 0 dS),exC 0 (.slice aU U0.length cU) (.slice aI I0.length cI) (.slice aP P0.length cP) (.slice aM 0 cM) (.slice aO 0 cO) (.slice aF 0 cF) (.slice aR 2 cR) (.slice aS 0 cS),rtB 2 ⟨false,⟨#[10]⟩,⟨#[1]⟩⟩,rtB 3 ⟨false,⟨#[9]⟩,⟨#[1]⟩⟩,rtB 4 ⟨false,⟨#[]⟩,⟨#[1]⟩⟩,rtB 8 ⟨false,⟨#[1]⟩,⟨#[1]⟩⟩] ?_;refine aA.nameCell N2.gsub 0 6 (by exact T1.R) ?_;conv=>whnf
 refine aA.nameCell N2.gsub 1 6 (by exact T2.R) ?_;refine sqv ?_;refine zH (fls 0 7 (.e1 7 [4] (.fl 8 (.e1 9 [] .done)))) ?_;refine squ ?_;refine And.intro (show (0:Int)<=1/\(1:Int)<=2 from by decide) ?_;conv=>whnf
 refine And.intro (show (0:Int)<=1/\(1:Int)<=2 from by decide) ?_;refine sqwB ?_;refine sqs ?_;refine aA.callV (fun _ _ _ Sz K=>lY _ (aDP (bGD (T1.up (UK _ K))) (Sz.ro (b:=13) rfl)) W2 (TB _ K)) ?_;conv=>whnf
 rw [D.f6];try dsimp only
 refine sqs ?_;refine aA.callV (fun _ _ _ Sz K=>lY _ (aDP (bGD (T2.up (UK _ K))) (Sz.ro (b:=14) rfl)) W3 (TB _ K)) ?_;conv=>whnf
 rw [D.f7];try dsimp only
 refine bZ ?_;refine aA.callV (fun _ _ _ _ K=>aNM ⟨false,⟨#[10]⟩,⟨#[1]⟩⟩ 10 1 (by decide) (by decide) (by kernel_rfl) (TB _ K)) ?_;refine sqv ?_;refine aA.callV (fun _ _ _ _ K=>aNM ⟨false,⟨#[9]⟩,⟨#[1]⟩⟩ 9 1 (by decide) (by decide) (by kernel_rfl) (TB _ K)) ?_;refine sqv ?_;refine aA.callV (fun _ _ _ _ K=>aNM ⟨false,⟨#[]⟩,⟨#[1]⟩⟩ 0 1 (by decide) (by decide) (by kernel_rfl) (TB _ K)) ?_;refine bGF ?_;refine aA.callV (fun _ _ _ _ K=>aNM ⟨false,⟨#[1]⟩,⟨#[1]⟩⟩ 1 1 (by decide) (by decide) (by kernel_rfl) (TB _ K)) ?_;refine bGF ?_;refine aA.callV (fun _ _ _ _ K=>aNM ⟨true,⟨#[1]⟩,⟨#[1]⟩⟩ (-1) 1 (by decide) (by decide) (by kernel_rfl) (TB _ K)) ?_;refine sqv ?_;refine aA.callV (fun _ _ _ Sz K=>fO _ (aDP (bGD (T1.up (UK _ K))) (Sz.ro (b:=13) rfl)) W2 (TB _ K)) ?_;conv=>whnf
 rw [D.f8];try dsimp only
 refine bZ ?_;refine aA.callV (fun _ _ _ Sz K=>fO _ (aDP (bGD (T2.up (UK _ K))) (Sz.ro (b:=14) rfl)) W3 (TB _ K)) ?_;conv=>whnf
 rw [D.f9];refine bZ ?_;refine aA.callV (fun _ _ _ _ K=>fO lL noTop no_wf (TB _ K)) ?_;conv=>whnf
 rw [exf10];refine sqs ?_;exact zU (aB.ret tab Tryz.func9 rfl (eX (N1.trans N2) (()) (fun _ _=>trivial)))
end Go.Proofs.YthjedpdedjhndaaGreatDoor

namespace Go.Proofs.YthjedpdedjhndaaGreatDoor
open Go Go.Fw Go.NatM Go.RatM Go.SrcM
theorem lawG {f:FuncId} {args:List SV} {Pre:(Nat->Prop)->Array Obj->Prop} (C:FnX Tryz.prog f 0 args [] Pre (fun (_:Unit) _ _=>True) (fun _=>.ret (.v (.bool true)) 0 [])) {h:Array Obj} (hp:Pre (fun k=>k<h.size) h) {vs:Array Value} (e:(SV.gs (fun _=>undef) args).toArray=vs):
  FnV Tryz.prog f vs h fun r h'=>r=.bool true/\aH h.size h h':=by
 subst e;refine Fn.mono (C.call (fun _=>undef) (fun k=>k<h.size) (fun k=>k<h.size) h (fun _ x=>x) (fun _ x=>x) hp Sat.nil) fun e h' hx=>?_;obtain ⟨x,E',F',G',N,_,_,_,he⟩:=hx;exact ⟨.bool true,he,rfl,N.kp.keeps⟩
theorem aDY {h:Array Obj} (hT:gN h):FV 9 #[] h (.bool true):=lawG aVN hT.t rfl
theorem pP {h:Array Obj} (s:aG) {vU vI vP vM vO vF vR vS:Value} (hs:Top h vU vI vP vM vO vF vR vS s):FV 10 #[xY vU vI vP vM vO vF vR vS] h (.bool (decide (aHK s))):=by
 have lU:=aZ s.units;have lI:=aE It.row s.items;have lP:=cK s.plants;have lM:=aE Mc.row s.machines;have lO:=aE OpV.row s.options;have lF:=aE FbV.row s.forbids;have lR:=aE RcV.row s.recipes;have lS:=aE Sw.row s.swaps;have mR:=hs.R.len;obtain ⟨r,hr⟩:∃r,r=decide (aHK s):=⟨_,rfl⟩;rw [<-hr];refine zG 8 (zA hs (vs:=[]) (l:=[]) trivial) [.agg [.buf 0,.buf 1,.buf 2,.buf 3,.buf 4,.buf 5,.buf 6,.buf 7]] Tryz.func10 Tryz.ntmps10 fun w0 cs=>?_;by_cases hf:FewT s
 rotate_left
 ·refine aA.callV (fun _ _ _ Sz K=>aTB s (zB Sz K hs)) ?_;conv=>whnf
  rw [decide_eq_false hf];try dsimp only
  refine sqs ?_;rw [decide_eq_false fun x:aHK s=>hf x.1] at hr;subst hr;exact zR Tryz.func10
 refine aA.callV (fun _ _ _ Sz K=>aTB s (zB Sz K hs)) ?_;conv=>whnf
 rw [decide_eq_true hf];try dsimp only
 refine sqs ?_;have hr:r=decide (s.recipes.length<=12):=by rw [hr];unfold aHK;simp [hf]
 subst hr;refine zW Tryz.func10 fun Ez=>?_;exact congrArg Value.bool (decide_eq_decide.2 (by rw [aE];omega))
end Go.Proofs.YthjedpdedjhndaaGreatDoor

namespace Go.Proofs.YthjedpdedjhndaaGreatDoor
open Go Go.Fw Go.NatM Go.RatM
theorem bFI {h:Array Obj} (l:List Rt) {v:Value} (hv:Ro h v 3 (kV l)):FV 103 #[v] h (rev (aHO l)):=by
 have hl:=aBO l;have hm:=hv.len;obtain ⟨r,hr⟩:∃r,r=aHO l:=⟨_,rfl⟩;rw [<-hr];unfold aHO at hr;refine zG 1 (show Ros _ [v] [(3,kV l)] from ⟨hv,trivial⟩) [.buf 0] Tryz.func103 Tryz.ntmps103 fun w0 cs=>?_;refine sqC ?_;refine zL (fun (k:Nat)=>[(4,nV k),(2,.ptr 1 0),(0,.buf 0)]) (fun k=>[(1,.cells 35 [.v (.bool false),.v (.string ⟨#[]⟩),.v (.string ⟨#[]⟩)]),(0,.ro 3 (kV l))]) 2 (fun k=>k<=l.length /\ ∀a∈l.take k,okR a) (fun k=>l.length - k) (0) (⟨by omega,by simp⟩) ?_;rintro k hJ back;try dsimp only at hJ back
 conv=>whnf
 try dsimp only
 refine sqtC ?_;refine ⟨fun hk=>?_,fun hk=>?_⟩<;>conv=>whnf
 ·have hk:k<l.length:=by omega
  refine cG ?_;refine ⟨_,aCD hk,?_⟩;conv=>whnf
  try (refine oN ?_;conv=>whnf)
  refine sqC ?_;refine zc (fun _ _=>qM l[k]) ?_;refine bFP ?_;refine ⟨fun o1=>?_,fun o1=>?_⟩<;>conv=>whnf
  ·refine cG ?_;have o1:=iL.1 o1;exact zb (back (k+1) ((⟨by omega,vD hk hJ.2 o1⟩)) (by (try dsimp only);omega))
  refine cG ?_;rw [if_neg (fun o=>o1 (iL.2 (o _ (List.getElem_mem hk))))] at hr;subst hr;exact zR Tryz.func103
 have hk:k=l.length:=by omega
 have hall:∀a∈l,okR a:=by have:=hJ.2;rw [hk,List.take_length] at this;exact this
 rw [if_pos hall] at hr;refine cG ?_;refine zL (fun (⟨k,acc⟩:Nat×Rt)=>[(7,nV k),(5,.ptr 2 0),(2,.ptr 1 0),(0,.buf 0)]) (fun ⟨k,acc⟩=>[(2,.cells 35 [.v (.bool acc.neg),.v (.string acc.n),.v (.string acc.d)]),(1,.cells 35 [.v (.bool false),.v (.string ⟨#[]⟩),.v (.string ⟨#[]⟩)]),(0,.ro 3 (kV l))]) 3 (fun ⟨k,acc⟩=>k<=l.length/\r=sumF (l.drop k) acc) (fun ⟨k,acc⟩=>l.length - k) ((0,aLK)) (⟨by omega,hr⟩) ?_;rintro ⟨k,acc⟩ hJ back;try dsimp only at hJ back
 conv=>whnf
 try dsimp only
 refine sqtC ?_;refine ⟨fun hk=>?_,fun hk=>?_⟩<;>conv=>whnf
 ·have hk:k<l.length:=by omega
  have hd:l.drop k=l[k]::l.drop (k+1):=List.drop_eq_getElem_cons hk;rw [hd] at hJ;unfold sumF at hJ;refine cG ?_;refine zH (fls 0 5 (.e1 5 [] (fls 6 3 (.e1 9 [] (.fl 10 .done))))) ?_;refine aBF ?_;refine dT ?_;refine ⟨_,aCD hk,?_⟩;conv=>whnf
  try (refine oN ?_;conv=>whnf)
  refine sqC ?_;refine zk (fun _ _=>bDT acc l[k]) ?_;refine aBF ?_;refine dT ?_;refine ⟨fun o1=>?_,fun o1=>?_⟩<;>conv=>whnf
  ·refine cG ?_;rw [if_pos o1] at hJ;exact zb (back ((k+1,(xC acc l[k]).1)) ((⟨by omega,hJ.2⟩)) (by (try dsimp only);omega))
  refine cG ?_;rw [if_neg o1] at hJ;rw [hJ.2];exact zR Tryz.func103
 have hk:k=l.length:=by omega
 rw [hk,List.drop_length] at hJ;refine cG ?_;rw [hJ.2];exact zR Tryz.func103
end Go.Proofs.YthjedpdedjhndaaGreatDoor

namespace Go.Proofs.YthjedpdedjhndaaGreatDoor
open Go Go.Fw Go.NatM Go.RatM Go.SrcM
theorem bDW {h:Array Obj} (s:aG) {vU vI vP vM vO vF vR vS:Value} (hs:Top h vU vI vP vM vO vF vR vS s) (hw:s.wf) (l:List Am) (hl:∀x∈l,x.wf) (hb:l.length<=1000000) {v:Value} (hv:RoF (fun k=>k<h.size) h v 7 (rws Am.row l)):
  FV 62 #[xY vU vI vP vM vO vF vR vS,v] h (rev (fY s l)):=by
 obtain ⟨y,hy⟩:∃y,y=fY s l:=⟨_,rfl⟩;rw [<-hy];have ll:=aE Am.row l;refine zG 8 (zA hs (vs:=[]) (l:=[]) trivial) [.agg [.buf 0,.buf 1,.buf 2,.buf 3,.buf 4,.buf 5,.buf 6,.buf 7],.v v] Tryz.func62 Tryz.ntmps62 fun w0 cs=>?_;refine sqA ?_;refine aA.nameAt (fun _ x=>x) 1 (by exact hv) ?_;refine bGF ?_;refine aA.rowsEq 10 (rows':=kV []) rfl ?_;conv=>whnf
 refine zL (fun (⟨k,m⟩:Nat×List Rt)=>[(7,nV k),(6,.buf 10),(5,nV 0),(4,.ptr 9 0),(2,.ptr 8 0),(1,.buf 11)]) (fun ⟨k,m⟩=>((11,.ro 7 (rws Am.row l))::(10,.own 35 3 (kV m))::zrC 9::dQ 8::bFM s)) 12 (fun ⟨k,m⟩=>k<=l.length/\vL s (l.drop k) m=y/\m.length=k) (fun ⟨k,m⟩=>l.length - k) ((0,[])) (⟨Nat.zero_le _,hy.symm,rfl⟩) ?_;rintro ⟨k,m⟩ hJ back;try dsimp only at hJ back
 conv=>whnf
 try dsimp only
 refine sqtA ?_;have lm:=aBO m;refine ⟨fun hk=>?_,fun hk=>?_⟩<;>conv=>whnf
 ·have hk:k<l.length:=by omega
  have hJ2:=hJ.2.1;rw [List.drop_eq_getElem_cons hk] at hJ2;unfold vL at hJ2;obtain ⟨⟨x,e⟩,hx⟩:∃x,nR s l[k]=x:=⟨_,rfl⟩;rw [hx] at hJ2;have hwf:=hl _ (List.getElem_mem hk);refine dB ?_;refine aA.join (fun (_:Unit)=>[(9,nV e),(8,.ptr 12 0),(7,nV k),(6,.buf 10),(5,nV 0),(4,.ptr 9 0),(2,.ptr 8 0),(1,.buf 11)]) (fun (_:Unit)=>(rtB 12 x::(11,.ro 7 (rws Am.row l))::(10,.own 35 3 (kV m))::zrC 9::dQ 8::bFM s)) 13 (fun (_:Unit)=>True) ?_ (fun meet=>?_);rotate_left
  ·refine zH (fls 0 5 (.e2 5 [] (fls 6 3 (.e1 9 [0,4] (.e1 10 [] (.fl 11 .done)))) 9 [0,4] (.e1 5 [] (fls 6 3 (.e1 10 [] (.fl 11 .done)))))) ?_;refine bFN ?_;refine bZ ?_;refine ⟨_,bA hk,?_⟩;conv=>whnf
   try (refine And.intro (by first|omega|exact Nat.le_of_ble_eq_true rfl) ?_;(try intro _);conv=>whnf)
   refine fA ?_;refine bZ ?_
   repeat' first
    |(guard_target=_/\_
      refine And.intro ?_ ?_;all_goals conv=>whnf
      all_goals repeat ((first|(guard_target=_/\_;(first|refine oL ?_|refine oR ?_|refine oB ?_))|(guard_target=Exists _;refine oM ?_));(try intro _);conv=>whnf))
    |(refine aK.callV (fun _ _ _ Sz K=>bFJ s (zB Sz K hs) hw l[k] hwf) zP ?_
      conv=>whnf
      rw [hx];try dsimp only
      refine fA ?_;refine sqs ?_;repeat ((first|(guard_target=_/\_;(first|refine oL ?_|refine oR ?_))|(guard_target=Exists _;refine oM ?_));(try intro _);conv=>whnf))
    |(refine aA.subR [] (meet (()) ?_) ?_ ?_
      ·first|trivial|omega|((try dsimp only);omega)
      ·repeat (first|exact trivial|refine ⟨by rfl,?_⟩)
      repeat (first|exact trivial|refine ⟨by rfl,?_⟩))
  intro _ _;by_cases he:e=0
  ·subst he;rw [iO (x:=(x,0)) rfl] at hJ2;refine bZ ?_;refine And.intro (aOS (by rw [lm];omega)) ?_;refine bGF ?_;refine aA.rowsEq (14) (aVY m x) ?_;conv=>whnf
   exact zb (back ((k+1,m++[x])) ((⟨hk,hJ2,by rw [List.length_append,hJ.2.2];rfl⟩)) (by (try dsimp only);omega)) [(10,14)]
  rw [gX (x:=(x,e)) he] at hJ2;subst hJ2;refine bZ ?_;exact zR Tryz.func62
 have hk:k=l.length:=by omega
 have hJ2:=hJ.2.1;rw [hk,List.drop_length] at hJ2;unfold vL at hJ2;clear back hJ;refine bZ ?_;refine aA.callV (fun _ _ _ Sz _=>bFI m (Sz.ro (b:=10) rfl)) ?_;refine bGF ?_;rw [<-hJ2];exact zR Tryz.func62

theorem bEM {h:Array Obj} (s:aG) {vU vI vP vM vO vF vR vS:Value} (hs:Top h vU vI vP vM vO vF vR vS s) (hw:s.wf) (r:RcV) (hr:r.wf) (hb:r.inn.length<=1000000/\r.out.length<=1000000) (hok:r.ok (fun k=>k<h.size) h):
  FnV Tryz.prog 33 #[xY vU vI vP vM vO vF vR vS,.agg r.row.toArray] h fun v h'=>v=ofV (ofR s r)/\aH h.size h h':=by
 obtain ⟨y,hy⟩:∃y,y=ofR s r:=⟨_,rfl⟩;rw [<-hy];unfold ofR at hy;refine zG 8 (zA hs (vs:=[]) (l:=[]) trivial) [.agg [.buf 0,.buf 1,.buf 2,.buf 3,.buf 4,.buf 5,.buf 6,.buf 7],.agg (toV r.row)] Tryz.func33 Tryz.ntmps33 fun w0 cs=>?_;refine sqA ?_;obtain ⟨⟨x,e⟩,hx⟩:∃x,fY s r.inn=x:=⟨_,rfl⟩;obtain ⟨⟨z,f⟩,hz⟩:∃x,fY s r.out=x:=⟨_,rfl⟩;rw [hx,hz] at hy;refine aA.callV (fun _ _ _ Sz K=>bDW s (zB Sz K hs) hw r.inn hr.i hb.1 (hok.i.up (Up.kp K))) ?_;conv=>whnf
 rw [hx];try dsimp only
 refine bZ ?_;by_cases he:e=0
 rotate_left
 ·rw [gX (x:=(x,e)) he] at hy;subst hy;refine dB ?_;exact zR Tryz.func33
 subst he;rw [iO (x:=(x,0)) rfl] at hy;refine dB ?_;refine aA.callV (fun _ _ _ Sz K=>bDW s (zB Sz K hs) hw r.out hr.o hb.2 (hok.o.up (Up.kp K))) ?_;conv=>whnf
 rw [hz];try dsimp only
 refine bZ ?_;by_cases hf:f=0
 rotate_left
 ·rw [gX (x:=(z,f)) hf] at hy;subst hy;refine dB ?_;exact zR Tryz.func33
 subst hf;rw [iO (x:=(z,0)) rfl] at hy;subst hy;refine dB ?_;refine zH (fls 0 2 (.e1 2 [1] (.e1 3 [] (.fl 4 .done)))) ?_;refine bFN ?_;refine bZ ?_;exact zR Tryz.func33
theorem zOf_fn {h:Array Obj} (s:aG) {vU vI vP vM vO vF vR vS:Value} (hs:Top h vU vI vP vM vO vF vR vS s) (hw:s.wf) (k:Int):FnV Tryz.prog 12 #[xY vU vI vP vM vO vF vR vS,.int .i64 k] h fun v h'=>v=ofV (ofT s k)/\aH h.size h h':=by
 have lU:=aZ s.units;have lI:=aE It.row s.items;have lP:=cK s.plants;have lM:=aE Mc.row s.machines;have lO:=aE OpV.row s.options;have lF:=aE FbV.row s.forbids;have lR:=aE RcV.row s.recipes;have lS:=aE Sw.row s.swaps;obtain ⟨y,hy⟩:∃y,y=ofT s k:=⟨_,rfl⟩;rw [<-hy];unfold ofT at hy;refine zG 8 (zA hs (vs:=[]) (l:=[]) trivial) [.agg [.buf 0,.buf 1,.buf 2,.buf 3,.buf 4,.buf 5,.buf 6,.buf 7],nV k] Tryz.func12 Tryz.ntmps12 fun w0 cs=>?_;refine sqA ?_;by_cases hc:bE s=0
 rotate_left
 ·rw [if_neg hc] at hy;subst hy;refine aA.callV (fun _ _ _ Sz K=>aOU s (zB Sz K hs) hw) ?_;refine bGF ?_;exact zR Tryz.func12
 rw [if_pos hc] at hy;refine aA.callV (fun _ _ _ Sz K=>aOU s (zB Sz K hs) hw) ?_;conv=>whnf
 rw [hc];try dsimp only
 refine bZ ?_;by_cases hk:idx k s.recipes.length
 rotate_left
 ·rw [at?_none hk] at hy;subst hy;refine ⟨fun h1=>?_,fun h1=>?_⟩<;>conv=>whnf
  ·refine dB ?_;exact zR Tryz.func12
  refine dB ?_;exact zR Tryz.func12
 obtain ⟨j,rfl,hj,e3⟩:=at?_idx hk;rw [e3] at hy;dsimp only at hy;subst hy;have hm:=List.getElem_mem hj;have hsm:=(fU.1 hc).2.1.2.1 _ hm;refine dB ?_;refine zH (fls 0 6 (.e1 6 [] (fls 7 3 (.e1 10 [] (.e1 11 [] (.fl 12 .done)))))) ?_;refine bFN ?_;refine bZ ?_;refine ⟨_,bA hj,?_⟩;conv=>whnf
 try (refine And.intro (by first|omega|exact Nat.le_of_ble_eq_true rfl) ?_;(try intro _);conv=>whnf)
 refine fA ?_;refine bZ ?_;refine aK.callV (fun _ _ _ Sz K=>bEM s (zB Sz K hs) hw s.recipes[j] (hw.R _ hm) ⟨by omega,by omega⟩ ((hs.below.r _ hm).up (Up.kp K))) zP ?_;refine bFN ?_;refine bZ ?_;exact zR Tryz.func12

theorem aZZ {h:Array Obj} (n d:Int) (hn: -9223372036854775808<=n/\n<=9223372036854775807) (hd: -9223372036854775808<=d/\d<=9223372036854775807) (a:Rt):FnV Tryz.prog 65 #[.int .i64 n,.int .i64 d,a.v] h fun v h'=>v=rev (qD n d a)/\aH h.size h h':=by
 obtain ⟨y,hy⟩:∃y,y=qD n d a:=⟨_,rfl⟩;rw [<-hy];unfold qD at hy;obtain ⟨⟨x,e⟩,hx⟩:∃x,eU n d=x:=⟨_,rfl⟩;rw [hx] at hy;refine zO Tryz.func65 Tryz.ntmps65 (args:=[.int .i64 n,.int .i64 d,.agg #[.bool a.neg,.string a.n,.string a.d]]) fun w0 cs=>?_;refine sqA ?_;refine zc (fun _ _=>aKX n d hn hd) ?_;conv=>whnf
 rw [hx];try dsimp only
 refine bZ ?_;by_cases he:e=0
 rotate_left
 ·rw [gX (x:=(x,e)) he] at hy;subst hy;refine dB ?_;exact zR Tryz.func65
 subst he;rw [iO (x:=(x,0)) rfl] at hy;refine dB ?_;refine zc (fun _ _=>aKV x a) ?_;refine bGF ?_;rw [hy];exact zR Tryz.func65
def exV (x:(Rt×Bool)×Int):Value:=.tuple #[x.1.1.v,.bool x.1.2,.int .i64 x.2]
theorem bFL {h:Array Obj} (s:aG) {vU vI vP vM vO vF vR vS:Value} (hs:Top h vU vI vP vM vO vF vR vS s) (hw:s.wf) (r:RcV) (hr:r.wf) (hb:r.inn.length<=1000000/\r.out.length<=1000000) (hok:r.ok (fun k=>k<h.size) h):
  FnV Tryz.prog 36 #[xY vU vI vP vM vO vF vR vS,.agg r.row.toArray] h fun v h'=>v=exV (exR s r)/\aH h.size h h':=by
 obtain ⟨_,_,_,_,n1,n2,n3,n4,_⟩:=hr.n;obtain ⟨y,hy⟩:∃y,y=exR s r:=⟨_,rfl⟩;rw [<-hy];unfold exR at hy;refine zG 8 (zA hs (vs:=[]) (l:=[]) trivial) [.agg [.buf 0,.buf 1,.buf 2,.buf 3,.buf 4,.buf 5,.buf 6,.buf 7],.agg (toV r.row)] Tryz.func36 Tryz.ntmps36 fun w0 cs=>?_;refine sqA ?_;obtain ⟨⟨⟨I,O⟩,e⟩,hx⟩:∃x,ofR s r=x:=⟨_,rfl⟩;rw [hx] at hy;refine aA.callV (fun _ _ _ Sz K=>bEM s (zB Sz K hs) hw r hr hb (hok.up (Up.kp K))) ?_;conv=>whnf
 rw [hx];try dsimp only
 refine bZ ?_;by_cases he:e=0
 rotate_left
 ·rw [gX (x:=((I,O),e)) he] at hy;subst hy;refine dB ?_;exact zR Tryz.func36
 subst he;rw [iO (x:=((I,O),0)) rfl] at hy;unfold exT at hy;dsimp only at hy;obtain ⟨⟨w,e1⟩,h1⟩:∃x,qD r.yN r.yD I=x:=⟨_,rfl⟩;obtain ⟨⟨t,e3⟩,h3⟩:∃x,qD r.tN r.tD I=x:=⟨_,rfl⟩;rw [h1,h3] at hy;refine dB ?_;refine zc (fun _ _=>aZZ r.yN r.yD n1 n2 I) ?_;conv=>whnf
 rw [h1];try dsimp only
 refine bZ ?_;by_cases he:e1=0
 rotate_left
 ·rw [gX (x:=(w,e1)) he] at hy;subst hy;refine dB ?_;exact zR Tryz.func36
 subst he;rw [iO (x:=(w,0)) rfl] at hy;refine dB ?_;obtain ⟨⟨b,e2⟩,h2⟩:∃x,subR O w=x:=⟨_,rfl⟩;dsimp only at hy;rw [h2] at hy;refine zc (fun _ _=>bFH O w) ?_;conv=>whnf
 rw [h2];try dsimp only
 refine bZ ?_;by_cases he:e2=0
 rotate_left
 ·rw [gX (x:=(b,e2)) he] at hy;subst hy;refine dB ?_;exact zR Tryz.func36
 subst he;rw [iO (x:=(b,0)) rfl] at hy;refine dB ?_;refine zc (fun _ _=>aZZ r.tN r.tD n3 n4 I) ?_;conv=>whnf
 rw [h3];try dsimp only
 refine bZ ?_;by_cases he:e3=0
 rotate_left
 ·rw [gX (x:=(t,e3)) he] at hy;subst hy;refine dB ?_;exact zR Tryz.func36
 subst he;rw [iO (x:=(t,0)) rfl] at hy;refine dB ?_;obtain ⟨⟨n,e4⟩,h4⟩:∃x,lE (bBM b) t=x:=⟨_,rfl⟩;dsimp only at hy;rw [h4] at hy;refine zc (fun _ _=>bDD (bBM b) t) ?_;conv=>whnf
 rw [h4];try dsimp only
 refine bZ ?_;by_cases he:e4=0
 rotate_left
 ·rw [gX (x:=(n,e4)) he] at hy;subst hy;refine dB ?_;exact zR Tryz.func36
 subst he;rw [iO (x:=(n,0)) rfl] at hy;subst hy;refine dB ?_;exact zR Tryz.func36

theorem bAF {h:Array Obj} (s:aG) {vU vI vP vM vO vF vR vS:Value} (hs:Top h vU vI vP vM vO vF vR vS s) (hw:s.wf):FnV Tryz.prog 14 #[xY vU vI vP vM vO vF vR vS] h fun v h'=>v=wrV (wrT s)/\aH h.size h h':=by
 have lU:=aZ s.units;have lI:=aE It.row s.items;have lP:=cK s.plants;have lM:=aE Mc.row s.machines;have lO:=aE OpV.row s.options;have lF:=aE FbV.row s.forbids;have lR:=aE RcV.row s.recipes;have lS:=aE Sw.row s.swaps;have mR:=hs.R.len;obtain ⟨y,hy⟩:∃y,y=wrT s:=⟨_,rfl⟩;rw [<-hy];unfold wrT at hy;refine zG 8 (zA hs (vs:=[]) (l:=[]) trivial) [.agg [.buf 0,.buf 1,.buf 2,.buf 3,.buf 4,.buf 5,.buf 6,.buf 7]] Tryz.func14 Tryz.ntmps14 fun w0 cs=>?_;refine sqA ?_;by_cases hc:bE s=0
 rotate_left
 ·rw [if_neg hc] at hy;subst hy;refine aA.callV (fun _ _ _ Sz K=>aOU s (zB Sz K hs) hw) ?_;refine bGF ?_;exact zR Tryz.func14
 rw [if_pos hc] at hy;refine aA.callV (fun _ _ _ Sz K=>aOU s (zB Sz K hs) hw) ?_;conv=>whnf
 rw [hc];try dsimp only
 refine bZ ?_;refine zL (fun (k:Nat)=>[(7,nV k),(5,nV 0),(4,.v (.bool false)),(3,.ptr 9 0),(2,nV 0),(1,.ptr 8 0)]) (fun k=>(zrC 9::dQ 8::bFM s)) 10 (fun k=>k<=s.recipes.length/\wrF s (s.recipes.drop k) k=y) (fun k=>s.recipes.length - k) (0) (⟨Nat.zero_le _,hy.symm⟩) ?_;rintro k hJ back;try dsimp only at hJ back
 conv=>whnf
 try dsimp only
 refine sqtA ?_;have hJ2:=hJ.2;refine ⟨fun hk=>?_,fun hk=>?_⟩<;>conv=>whnf
 ·have hk:k<s.recipes.length:=by omega
  rw [List.drop_eq_getElem_cons hk] at hJ2;unfold wrF at hJ2;have hm:=List.getElem_mem hk;have hsm:=(fU.1 hc).2.1.2.1 _ hm;obtain ⟨⟨⟨b,w⟩,e⟩,hx⟩:∃x,exR s s.recipes[k]=x:=⟨_,rfl⟩;rw [hx] at hJ2;dsimp only at hJ2;refine dB ?_;refine aA.join (fun (_:Unit)=>[(10,nV e),(9,.v (.bool w)),(8,.ptr 10 0),(7,nV k),(5,nV 0),(4,.v (.bool false)),(3,.ptr 9 0),(2,nV 0),(1,.ptr 8 0)]) (fun (_:Unit)=>(rtB 10 b::zrC 9::dQ 8::bFM s)) 11 (fun (_:Unit)=>True) ?_ (fun meet=>?_);rotate_left
  ·refine zH (fls 0 6 (.e2 6 [] (fls 7 4 (.e1 11 [0,2,5] (.e1 12 [] (fls 13 2 .done)))) 11 [0,2,5] (.e1 6 [] (fls 7 4 (.e1 12 [] (fls 13 2 .done)))))) ?_;refine bFN ?_;refine bZ ?_;refine ⟨_,bA hk,?_⟩;conv=>whnf
   try (refine And.intro (by first|omega|exact Nat.le_of_ble_eq_true rfl) ?_;(try intro _);conv=>whnf)
   refine fA ?_;refine bZ ?_
   repeat' first
    |(guard_target=_/\_
      refine And.intro ?_ ?_;all_goals conv=>whnf
      all_goals repeat ((first|(guard_target=_/\_;(first|refine oL ?_|refine oR ?_|refine oB ?_))|(guard_target=Exists _;refine oM ?_));(try intro _);conv=>whnf))
    |(refine aK.callV (fun _ _ _ Sz K=>bFL s (zB Sz K hs) hw s.recipes[k] (hw.R _ hm) ⟨by omega,by omega⟩ ((hs.below.r _ hm).up (Up.kp K))) zP ?_
      conv=>whnf
      rw [hx];try dsimp only
      refine fA ?_;refine sqs ?_;repeat ((first|(guard_target=_/\_;(first|refine oL ?_|refine oR ?_))|(guard_target=Exists _;refine oM ?_));(try intro _);conv=>whnf))
    |(refine aA.subR [] (meet (()) ?_) ?_ ?_
      ·first|trivial|omega|((try dsimp only);omega)
      ·repeat (first|exact trivial|refine ⟨by rfl,?_⟩)
      repeat (first|exact trivial|refine ⟨by rfl,?_⟩))
  intro _ _;by_cases he:e=0
  rotate_left
  ·rw [if_neg he] at hJ2;subst hJ2;refine bZ ?_;exact zR Tryz.func14
  subst he;rw [if_pos rfl] at hJ2
  cases w with
  |false=>
   rw [if_neg (by decide)] at hJ2;refine bZ ?_;refine dB ?_;exact zb (back (k+1) ((⟨hk,hJ2⟩)) (by (try dsimp only);omega))
  |true=>
   rw [if_pos rfl] at hJ2;subst hJ2;refine bZ ?_;refine zH (fls 0 3 (.e1 3 [] (fls 4 2 .done))) ?_;refine bFN ?_;refine bZ ?_;exact zR Tryz.func14
 have hk:k=s.recipes.length:=by omega
 rw [hk,List.drop_length] at hJ2;unfold wrF at hJ2;clear back hJ;subst hJ2;refine dB ?_;exact zR Tryz.func14
theorem bEQ {h:Array Obj} (s:aG) {vU vI vP vM vO vF vR vS:Value} (hs:Top h vU vI vP vM vO vF vR vS s) (hw:s.wf):FV 16 #[xY vU vI vP vM vO vF vR vS] h (.int .i64 (fV s)):=by
 obtain ⟨y,hy⟩:∃y,y=fV s:=⟨_,rfl⟩;rw [<-hy];unfold fV at hy;obtain ⟨⟨⟨n,b,w⟩,e⟩,hx⟩:∃x,wrT s=x:=⟨_,rfl⟩;rw [hx] at hy;dsimp only at hy;refine zG 8 (zA hs (vs:=[]) (l:=[]) trivial) [.agg [.buf 0,.buf 1,.buf 2,.buf 3,.buf 4,.buf 5,.buf 6,.buf 7]] Tryz.func16 Tryz.ntmps16 fun w0 cs=>?_;refine sqA ?_;refine aA.callV (fun _ _ _ Sz K=>bAF s (zB Sz K hs) hw) ?_;conv=>whnf
 rw [hx];try dsimp only
 refine bZ ?_;by_cases he:e=0
 rotate_left
 ·rw [if_neg he] at hy;subst hy;refine dB ?_;exact zR Tryz.func16
 subst he;rw [if_pos rfl] at hy
 cases w with
 |false=>
  rw [if_neg (by decide)] at hy;subst hy;refine dB ?_;exact zR Tryz.func16
 |true=>
  rw [if_pos rfl] at hy;subst hy;refine dB ?_;exact zR Tryz.func16

theorem bCV {h:Array Obj} (s:aG) {vU vI vP vM vO vF vR vS:Value} (hs:Top h vU vI vP vM vO vF vR vS s) (hw:s.wf) (k:Int) (hk:i64 k) (hT:gN h):FV 3 #[xY vU vI vP vM vO vF vR vS,.int .i64 k] h (.bool true):=by
 refine zG 8 (zA hs (vs:=[]) (l:=[]) trivial) [.agg [.buf 0,.buf 1,.buf 2,.buf 3,.buf 4,.buf 5,.buf 6,.buf 7],nV k] Tryz.func3 Tryz.ntmps3 fun w0 cs=>?_;refine sqA ?_;refine aA.callV (fun _ _ _ _ K=>aDY (hT.keeps ⟨K.size,K.same⟩)) ?_;refine bGF ?_;by_cases hf:aHK s
 rotate_left
 ·refine aA.callV (fun _ _ _ Sz K=>pP s (zB Sz K hs)) ?_;conv=>whnf
  rw [decide_eq_false hf];try dsimp only
  refine bZ ?_;exact zR Tryz.func3
 refine aA.callV (fun _ _ _ Sz K=>pP s (zB Sz K hs)) ?_;conv=>whnf
 rw [decide_eq_true hf];try dsimp only
 refine bZ ?_;obtain ⟨⟨⟨I,O⟩,e⟩,hx⟩:∃x,ofT s k=x:=⟨_,rfl⟩;refine aA.callV (fun _ _ _ Sz K=>sS s (zB Sz K hs) hw k (hT.keeps ⟨K.size,K.same⟩)) ?_;conv=>whnf
 rw [hx];try dsimp only
 refine bZ ?_;refine aA.callV (fun _ _ _ Sz K=>zOf_fn s (zB Sz K hs) hw k) ?_;conv=>whnf
 rw [hx];try dsimp only
 refine bZ ?_;refine And.intro (fun _=>?_) (fun hn=>absurd (⟨rfl,rfl,rfl⟩) hn);refine dB ?_;refine And.intro (fun _=>?_) (fun hn=>absurd (⟨rfl,rfl,rfl⟩) hn);refine dB ?_;refine zW Tryz.func3 fun Ez=>?_;exact congrArg Value.bool (decide_eq_true rfl)
theorem bDX {h:Array Obj} (s:aG) {vU vI vP vM vO vF vR vS:Value} (hs:Top h vU vI vP vM vO vF vR vS s) (hw:s.wf) (hT:gN h):FV 4 #[xY vU vI vP vM vO vF vR vS] h (.bool true):=by
 refine zG 8 (zA hs (vs:=[]) (l:=[]) trivial) [.agg [.buf 0,.buf 1,.buf 2,.buf 3,.buf 4,.buf 5,.buf 6,.buf 7]] Tryz.func4 Tryz.ntmps4 fun w0 cs=>?_;refine sqA ?_;refine aA.callV (fun _ _ _ _ K=>aDY (hT.keeps ⟨K.size,K.same⟩)) ?_;refine bGF ?_;by_cases hf:aHK s
 rotate_left
 ·refine aA.callV (fun _ _ _ Sz K=>pP s (zB Sz K hs)) ?_;conv=>whnf
  rw [decide_eq_false hf];try dsimp only
  refine bZ ?_;exact zR Tryz.func4
 refine aA.callV (fun _ _ _ Sz K=>pP s (zB Sz K hs)) ?_;conv=>whnf
 rw [decide_eq_true hf];try dsimp only
 refine bZ ?_;obtain ⟨⟨⟨n,b,w⟩,e⟩,hx⟩:∃x,wrT s=x:=⟨_,rfl⟩;refine aA.callV (fun _ _ _ Sz K=>lY s (zB Sz K hs) hw (hT.keeps ⟨K.size,K.same⟩)) ?_;conv=>whnf
 rw [hx];try dsimp only
 refine bZ ?_;refine aA.callV (fun _ _ _ Sz K=>bAF s (zB Sz K hs) hw) ?_;conv=>whnf
 rw [hx];try dsimp only
 refine bZ ?_;cases w<;>conv=>whnf
 all_goals
  refine zH (fls 0 20 (.fl 21 (.e1 20 [21] (.e1 22 [] (fls 23 3 .done))))) ?_;refine bFN ?_;refine bZ ?_;refine And.intro (fun _=>?_) (fun hn=>absurd rfl hn);refine fA ?_;refine bZ ?_;refine And.intro (fun _=>?_) (fun hn=>absurd ⟨rfl,rfl,rfl⟩ hn);refine fA ?_;refine bZ ?_;refine aK.callV (fun _ _ _ Sz K=>fO s (zB Sz K hs) hw (hT.keeps ⟨K.size,K.same⟩)) zP ?_;refine bFN ?_;refine bZ ?_;refine aK.callV (fun _ _ _ Sz K=>bEQ s (zB Sz K hs) hw) zP ?_;refine bFN ?_;refine bZ ?_;refine zW Tryz.func4 fun Ez=>?_;exact congrArg Value.bool (decide_eq_true rfl)
end Go.Proofs.YthjedpdedjhndaaGreatDoor
