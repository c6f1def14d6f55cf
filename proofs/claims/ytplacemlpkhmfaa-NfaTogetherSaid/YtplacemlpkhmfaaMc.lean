/- The engine: a reckoner over the code of a program in Lean, with its soundness; it names no program. No condition. -/
import Derived.Test.YtplacemlpkhmfaaMb
import Derived.OrdersIn
import Derived.ProofKit
import Derived.OpenShut
import Derived.JoinedCond
import Derived.Deep.Slices
set_option linter.unusedVariables false
set_option linter.unusedSimpArgs false
namespace Go.Eng
open Go Go.RowKit
theorem ZnB{F:Fence}{n:Nat}{P:Program}{c:Code}{Q:Exit→Act→World→Prop}{a:Act}{w:World}(Inv:Nat→Act→World→Prop)(h0:∃q,Inv q a w)
  (round:∀q a w,Inv q a w→c.wpIn F n P (Exit.then (fun a' w'=>∃q',q' < q∧Inv q' a' w') Q) a w):(Code.loop c).wpIn F n P Q a w:=by
 classical
 have kJ:∀a w,(∃q,Inv q a w)→∃q,Inv q a w∧∀q',Inv q' a w→q≤q':=by
  intro a w ⟨q,hq⟩
  induction q using Nat.strongRecOn with
  | _ q ih=>
   by_cases hh:∃q',q' < q∧Inv q' a w
   ·obtain⟨q',h1,h2⟩:=hh;exact ih q' h1 h2
   ·exact⟨q,hq,fun q' hq'=>Nat.le_of_not_lt fun bM=>hh ⟨q',bM,hq'⟩⟩
 let μ:Act→World→Nat:=fun a w=>if h:∃q,Inv q a w then Classical.choose (kJ a w h)else 0
 have hμ:∀a w (h:∃q,Inv q a w),Inv (μ a w) a w∧∀q',Inv q' a w→μ a w≤q':=fun a w h=>by
  have:=Classical.choose_spec (kJ a w h)
  simp only[μ,h,dif_pos];exact this
 refine wpIn_loop (fun a w=>∃q,Inv q a w) μ h0 fun a w hI=>?_
 refine wpIn_mono (round _ a w (hμ a w hI).1) fun e a' w' he=>?_
 cases e with
 | normal=>
  obtain⟨q',h1,h2⟩:=he
  exact⟨⟨q',h2⟩,Nat.lt_of_le_of_lt ((hμ a' w' ⟨q',h2⟩).2 q' h2) h1⟩
 | _=>exact he
theorem ZcY{P:Program}{b:Frame}{a:Act}{k:List Item}{cs:List Frame}{w:World}{c:Code}:step P (lone (b.atR a (.code (.scope c)::k)) cs w)=.next (lone (b.atR a (.code c::.inScope c::k)) cs w):=
 step_lone_go (by simp[stepG,stepG.exec,Frame.atR])
theorem Zkr{P:Program}{b:Frame}{a:Act}{k:List Item}{cs:List Frame}{w:World}{c:Code}:step P (lone (b.atR a (.inScope c::k)) cs w)=.next (lone (b.atR a k) cs w):=
 step_lone_go (by simp[stepG,stepG.exec,Frame.atR])
theorem Zps{F:Fence}{n:Nat}{P:Program}{a:Act}{w:World}{Q:Exit→Act→World→Prop}{c:Code}(h:c.wpIn F n P (fun e a w=>match e with
  | .goto _=>False
  | e=>Q e a w) a w):(Code.scope c).wpIn F n P Q a w:=by
 intro b k cs qU hb hr
 have h0:(lone (b.atR a (.code (.scope c)::k)) cs w).fenced P F:=fenced_calm hb hr rfl
 obtain⟨e,a₁,w₁,hq,dX⟩:=h b (.inScope c::k) cs qU hb hr
 cases e with
 | normal=>exact⟨.normal,a₁,w₁,hq,.head h0 ZcY (StepsIn.trans dX (.one (fenced_calm hb hr rfl) Zkr))⟩
 | exit id=>
  have hx:exitTo id (.inScope c::k)=exitTo id k:=by simp[exitTo]
  exact⟨.exit id,a₁,w₁,hq,fun k' hk=>.head h0 ZcY (dX.1 k' (by rw[hx];exact hk)),
    fun hr' hk=>let ⟨k₁,h1,h2⟩:=dX.2 hr' (by rw[hx];exact hk);⟨k₁,h1,.head h0 ZcY h2⟩⟩
 | goto l=>exact hq.elim
 | ret=>exact⟨_,a₁,w₁,hq,.of_steps (.one h0 ZcY) dX⟩
 | panic ch=>exact⟨_,a₁,w₁,hq,.of_steps (.one h0 ZcY) dX⟩
 | outgrown=>exact⟨_,a₁,w₁,hq,.of_steps (.one h0 ZcY) dX⟩
theorem YOk.cold{E:Env}{C:Ctx}(h:YOk E C):YOk E.cold C:=⟨h.y,h.m0⟩
def Zea(E:Env)(Zbe:Nat→Array Oper→(St→Mem→Prop)→St→Mem→Prop):Prop:=
 ∀{C:Ctx} {F:Fence} (_:FOk F) (_:YOk E C) (n:Nat) (id:Nat) (ops:Array Oper) {K:St→Mem→Prop} {S:St} {m:Mem} {a:Act} {w:World} {Q:Exit→Act→World→Prop},
  Zlk C.n ops.toList=true→Rel C S m a w→Zbe id ops K S m→(∀S' m' a' w',K S' m'→Rel C S' m' a' w'→Q .normal a' w')→(Code.region id ops true).wpIn F n E.P Q a w
theorem ZcI{E:Env}(hE:E.ok){Zbe:Nat→Array Oper→(St→Mem→Prop)→St→Mem→Prop}(hD:ZeN E Zbe)(gV:Zea E Zbe):
  ∀(c:Code),Zaz E c=true→∀{F:Fence} (_:FOk F) {C:Ctx} (_:YOk E C) (_:ROk F C) (n:Nat),ZbM C.n c=true→∀{S:St} {m:Mem} {a:Act} {w:World} {K:KT} {Q:Exit→Act→World→Prop},Rel C S m a w→W E Zbe c K S m→
   (∀e S' m' a' w',K e S' m'→Rel C S' m' a' w'→Q e a' w')→c.wpIn F n E.P Q a w
 | .skip,_,F,hF,C,hY,hR,n,_,S,m,a,w,K,Q,hr,h,hK=>wpIn_skip (hK _ _ _ _ _ h hr)
 | .label _,_,F,hF,C,hY,hR,n,_,S,m,a,w,K,Q,hr,h,hK=>wpIn_label (hK _ _ _ _ _ h hr)
 | .exit _,_,F,hF,C,hY,hR,n,_,S,m,a,w,K,Q,hr,h,hK=>wpIn_exit (hK _ _ _ _ _ h hr)
 | .ret,_,F,hF,C,hY,hR,n,_,S,m,a,w,K,Q,hr,h,hK=>wpIn_ret (hK _ _ _ _ _ h hr)
 | .region id ops draw,hc,F,hF,C,hY,hR,n,hl,S,m,a,w,K,Q,hr,h,hK=>by
  simp only[W]at h
  simp only[ZbM]at hl
  cases hj:E.joins id with
  | none=>
   simp only[hj]at h
   cases draw with
   | true=>exact gV hF hY n id ops hl hr (by simpa using h) (fun S' m' a' w' hk bN=>hK _ _ _ _ _ hk bN)
   | false=>
    simp only[cond_false]at h
    exact wpIn_region (ZiE hE hF hY hl _ hr h (fun S' m' a' w' hk bN=>hK _ _ _ _ _ hk bN))
  | some outs=>
   simp only[hj]at h
   obtain⟨xs,_,h1,h2⟩:=Shape.exL_elim _ _ h
   have fin:∀S' m' a' w',((S'.gh=S.gh∧Zci S' ZgS S.ids=Zci S ZgS S.ids∧Zbj S' ZgS S.tkeys=Zbj S ZgS S.tkeys∧Zhh S' outs fun xs'=>xs'=xs)∧SameOut (Zaw ops.toList) S S'∧m.le m')→Rel C S' m' a' w'→Q .normal a' w':=by
    rintro S' m' a' w' ⟨⟨g0,g1,g2,g3⟩,g4,g5⟩ bN
    obtain⟨xs',_,e2,e3,rfl⟩:=Zdj bN g3
    refine hK _ _ _ _ _ h2 ?_
    have hz:=Zfb (A:=⟨outs,[],[],false⟩) (css:=[]) (tvs:=[]) hr.ok bN g4 (by simpa[Zci,ZgS]using g1) (by simpa[Zbj,ZgS]using g2) e2 rfl (by simp) rfl (by simp)
    have:Zca S (Zaw ops.toList) ⟨outs,[],[],false⟩ S'.gh xs' [] []={ S with env:=Zb3 (fun i=>bif (Zaw ops.toList).any (Nat.beq i ·)then none else S.env i) outs xs' }:=by
     simp[Zca,Zb4,Zf3,g0]
    rw[this]at hz
    exact hz.forget g5 hr.le (fun id x hx hf=>(hr.own id x hx).known hf)
   cases draw with
   | true=>
    simp only[cond_true]at h1
    cases cF:E.last id with
    | true=>simp only[cF,cond_true]at h1
    | false=>
    simp only[cF,cond_false]at h1
    have h1':=hD id ops _ (fun S' m'=>(S'.gh=S.gh∧Zci S' ZgS S.ids=Zci S ZgS S.ids∧Zbj S' ZgS S.tkeys=Zbj S ZgS S.tkeys∧Zhh S' outs fun xs'=>xs'=xs)∧SameOut (Zaw ops.toList) S S'∧m.le m') S m (fun S' m' hs hm y=>⟨by have y':=ZeT y;rw[Zdt,Zdu]at y';exact⟨y'.1 rfl,y'.2⟩,hs,hm.le cF⟩) h1
    exact gV hF hY n id ops hl hr h1' fin
   | false=>
    simp only[cond_false]at h1
    have h1':ZvK E.cold ops (List.range ops.size) (fun S' m'=>(S'.gh=S.gh∧Zci S' ZgS S.ids=Zci S ZgS S.ids∧Zbj S' ZgS S.tkeys=Zbj S ZgS S.tkeys∧Zhh S' outs fun xs'=>xs'=xs)∧SameOut (Zaw ops.toList) S S'∧m.le m') S m:=
     Zkp (E:=E.cold) (fun S' m' hs hm y=>⟨by have y':=ZeT y;rw[Zdt,Zdu]at y';exact⟨y'.1 rfl,y'.2⟩,hs,hm⟩) h1
    exact wpIn_region (ZiE (E:=E.cold) hE hF hY.cold hl _ hr h1' fin)
 | .seq x y,hc,F,hF,C,hY,hR,n,hl,S,m,a,w,K,Q,hr,h,hK=>by
  simp only[Zaz,ZbM,Bool.and_eq_true]at hc hl
  simp only[W]at h
  cases gH:E.cuts (ZaW y)with
  | none=>
   simp only[gH]at h
   refine wpIn_seq (ZcI hE hD gV x hc.1.1 hF hY hR n hl.1 hr h fun e S' m' a' w' hk bN=>?_)
   cases e with
   | normal=>exact ZcI hE hD gV y hc.1.2 hF hY hR n hl.2 bN hk hK
   | _=>exact hK _ _ _ _ _ hk bN
  | some A=>
   simp only[gH]at h hc
   obtain⟨J,h1,h2⟩:=h
   have h1':=Zex hD x hc.1.1 (K':=fun e S' m'=>(match e with
    | .normal=>Zll A.gh S'.gh S.gh (ZmS (Zci S' A S.ids) (Zci S A S.ids) (ZmT (Zbj S' A S.tkeys) (Zbj S A S.tkeys) (Zhh S' A.slots fun xs=>ZsW S' A.boxes fun css=>Zgg S' A.toks fun tvs=>J (ghs A.gh S'.gh xs) css tvs m')))
    | e=>K e S' m')∧SameOut (ZiY x) S S'∧leT E.thaw m m') (fun e S' m' hs hm y=>⟨y,hs,hm⟩) h1
   refine wpIn_seq (ZcI hE hD gV x hc.1.1 hF hY hR n hl.1 hr h1' ?_)
   rintro e S' m' a' w' ⟨hk,hs,f8⟩ bN
   cases e with
   | normal=>
    obtain⟨r0,hk⟩:=ZeT hk
    obtain⟨r1,hk⟩:=Zdt.1 hk
    obtain⟨r2,hk⟩:=Zdu.1 hk
    obtain⟨xs,f1,f2,f3,hk⟩:=Zdj bN hk
    obtain⟨css,g1,g2,hk⟩:=ZdL hk
    obtain⟨tvs,k1,k2,hJ⟩:=Zcr hk
    have fD:∀v∈tvs,Ze3 v=true:=fun v hv=>by
     obtain⟨i,hi⟩:=List.getElem?_of_mem hv
     have bM:=(List.getElem?_eq_some_iff.1 hi).1
     obtain⟨qe,j0⟩:∃qe,A.toks[i]?=some qe:=⟨_,List.getElem?_eq_getElem (by omega)⟩
     exact(k2 i qe.1 qe.2 v j0 hi).1
    exact ZcI hE hD gV y hc.1.2 hF hY hR n hl.2 (Zfb hr.ok bN hs r1 r2 f2 g1 g2 k1 k2) (ZeX (ZeW (Shape.allL_fits _ _ (ZhH h2 r0) xs f1) css g1) tvs k1 fD m' f8 hJ) hK
   | _=>exact hK _ _ _ _ _ hk bN
 | .cond c x y,hc,F,hF,C,hY,hR,n,hl,S,m,a,w,K,Q,hr,h,hK=>by
  simp only[Zaz,ZbM,Bool.and_eq_true]at hc hl
  obtain⟨v,hv,h⟩:=ZaJ h
  obtain⟨h1,h2⟩:=Zae h
  obtain⟨b,rfl⟩:∃b,v=.bool b:=⟨_,Zb8 h1⟩
  simp only[Zac]at h2
  refine wpIn_cond (hr.ev hv) ?_
  cases b
  ·exact ZcI hE hD gV y hc.2 hF hY hR n hl.2 hr h2 hK
  ·exact ZcI hE hD gV x hc.1 hF hY hR n hl.1 hr h2 hK
 | .block id x,hc,F,hF,C,hY,hR,n,hl,S,m,a,w,K,Q,hr,h,hK=>by
  simp only[Zaz,ZbM]at hc hl
  simp only[W]at h
  refine wpIn_block (ZcI hE hD gV x hc hF hY hR n hl hr h fun e S' m' a' w' hk bN=>?_)
  cases e with
  | exit id'=>
   simp only at hk
   simp only[Exit.inBlock]
   cases hb:Nat.beq id' id with
   | true=>
    simp only[hb,cond_true]at hk
    rw[if_pos (Nat.eq_of_beq_eq_true hb)]
    exact hK _ _ _ _ _ hk bN
   | false=>
    simp only[hb,cond_false]at hk
    rw[if_neg (fun e=>by subst e;simp at hb)]
    exact hK _ _ _ _ _ hk bN
  | _=>exact hK _ _ _ _ _ hk bN
 | .loop x,hc,F,hF,C,hY,hR,n,hl,S,m,a,w,K,Q,hr,h,hK=>by
  simp only[Zaz,ZbM,Bool.and_eq_true]at hc hl
  simp only[W]at h
  obtain⟨I,h1,h2⟩:=h
  generalize hA:E.loops (ZaW x)=A at *
  obtain⟨xs,f1,f2,f3,h1⟩:=Zdj hr h1
  obtain⟨css,g1,g2,h1⟩:=ZdL h1
  obtain⟨tvs,k1,k2,q,h1⟩:=Zcr h1
  have cH:=hr.ok
  refine ZnB (fun q a w=>∃g xs css tvs m',(A.gh=false→g=S.gh)∧Shape.fitsL (A.slots.map (·.2)) xs=true∧css.length=A.boxes.length∧tvs.length=A.toks.length∧(∀v∈tvs,Ze3 v=true)∧leT E.thaw m m'∧I (ghs A.gh g xs) css tvs m' q∧Rel C (Zca S (ZiY x) A g xs css tvs) m' a w) ?_ ?_
  ·refine⟨q,S.gh,xs,css,tvs,m,fun _=>rfl,f1,g1,k1,fun v hv=>?_,leT.refl _ m,h1,?_⟩
   ·obtain⟨i,hi⟩:=List.getElem?_of_mem hv
    have bM:=(List.getElem?_eq_some_iff.1 hi).1
    obtain⟨qe,j0⟩:∃qe,A.toks[i]?=some qe:=⟨_,List.getElem?_eq_getElem (by omega)⟩
    exact(k2 i qe.1 qe.2 v j0 hi).1
   ·exact Zfb cH hr (SameOut.refl _ _) rfl rfl f2 g1 g2 k1 k2
  ·rintro q a w ⟨g,xs,css,tvs,m',hg,f1,g1,k1,k2,hm,hI,bN⟩
   have hb:=ZeX (ZeW (Shape.allL_fits _ _ (ZhH h2 hg) xs f1) css g1) tvs k1 k2 m' q hm hI
   have hb':=Zex hD x hc.1 (K':=fun e S' m''=>(match e with
    | .normal=>Zll A.gh S'.gh S.gh (ZmS (Zci S' A S.ids) (Zci S A S.ids) (ZmT (Zbj S' A S.tkeys) (Zbj S A S.tkeys) (Zhh S' A.slots fun xs'=>ZsW S' A.boxes fun css'=>Zgg S' A.toks fun tvs'=>∃n',n' < q∧I (ghs A.gh S'.gh xs') css' tvs' m'' n')))
    | e=>K e S' m'')∧SameOut (ZiY x) (Zca S (ZiY x) A g xs css tvs) S'∧leT E.thaw m' m'') (fun e S' m'' hs hm y=>⟨y,hs,hm⟩) hb
   refine ZcI hE hD gV x hc.1 hF hY hR n hl bN hb' ?_
   rintro e S' m'' a' w' ⟨hk,hs,f8⟩ j3
   cases e with
   | normal=>
    obtain⟨r0,hk⟩:=ZeT hk
    obtain⟨r1,hk⟩:=Zdt.1 hk
    obtain⟨r2,hk⟩:=Zdu.1 hk
    obtain⟨xs',f1',f2',f3',hk⟩:=Zdj j3 hk
    obtain⟨css',g1',g2',hk⟩:=ZdL hk
    obtain⟨tvs',k1',k2',q',bM,hI'⟩:=Zcr hk
    have hm':leT E.thaw m m'':=leT.trans hm f8
    refine⟨q',bM,S'.gh,xs',css',tvs',m'',r0,f1',g1',k1',fun v hv=>?_,hm',hI',?_⟩
    ·obtain⟨i,hi⟩:=List.getElem?_of_mem hv
     have bM:=(List.getElem?_eq_some_iff.1 hi).1
     obtain⟨qe,j0⟩:∃qe,A.toks[i]?=some qe:=⟨_,List.getElem?_eq_getElem (by omega)⟩
     exact(k2' i qe.1 qe.2 v j0 hi).1
    ·have ge:SameOut (ZiY x) S S':=SameOut.trans (Zd8 (S':=Zca S (ZiY x) A g xs css tvs) hc.2 rfl) hs
     exact Zfb cH j3 ge r1 r2 f2' g1' g2' k1' k2'
   | _=>exact hK _ _ _ _ _ hk j3
 | .goto _,_,F,hF,C,hY,hR,n,_,S,m,a,w,K,Q,hr,h,hK=>by simp[W]at h
 | .scope x,hc,F,hF,C,hY,hR,n,hl,S,m,a,w,K,Q,hr,h,hK=>by
  simp only[Zaz,ZbM]at hc hl
  simp only[W]at h
  refine Zps (ZcI hE hD gV x hc hF hY hR n hl hr h fun e S' m' a' w' hk bN=>?_)
  cases e with
  | goto l=>exact hk.elim
  | _=>exact hK _ _ _ _ _ hk bN
 | .rangeFunc f ps x y,hc,F,hF,C,hY,hR,n,hl,S,m,a,w,K,Q,hr,h,hK=>by
  simp only[Zaz,ZbM,Bool.and_eq_true]at hc hl
  simp only[W]at h
  exact ZnA hF hY hR n (fun hF' _ hY' hR' n' hl'=>ZcI hE hD gV x hc.1 hF' hY' hR' n' hl') (fun hF' _ hY' hR' n' hl'=>ZcI hE hD gV y hc.2 hF' hY' hR' n' hl')
   (fun hk=>Zex hD x hc.1 (fun e S' m' _ hm y=>⟨y,hm⟩) hk) (fun hk=>Zex hD y hc.2 (fun e S' m' _ hm y=>⟨y,hm⟩) hk) hl.2.1 hl.2.2 hl.1 hr h hK
 | .refuse _,_,F,hF,C,hY,hR,n,_,S,m,a,w,K,Q,hr,h,hK=>by simp[W]at h
end Go.Eng
namespace Go.Eng
open Go Go.RowKit
def bid(j:Nat):Nat:=100000+j
def Zpt(xs:List Box):SV→Value
 | .v x=>x
 | .loc id off=>match xs[id - 100000]? with
  | some x=>.pointer (some ⟨x.b,off,none⟩)
  | none=>undef
 | .sl id n c=>match xs[id - 100000]? with
  | some x=>.slice (some ⟨x.b,0,none⟩) n c
  | none=>undef
def Zwh(xs:List Box):SV→Bool
 | .v _=>true
 | .loc id _=>Nat.ble 100000 id&&Nat.blt (id - 100000) xs.length
 | .sl id _ _=>Nat.ble 100000 id&&Nat.blt (id - 100000) xs.length
def Zlr(xs:List Box):List SV→Bool
 | []=>true
 | s::l=>Zwh xs s&&Zlr xs l
def S0(svs:List SV)(xs:List Box):St:=
 {env:=fun i=>svs[i]?
  L:=fun id=>bif Nat.ble 100000 id then xs[id - 100000]? else none
  ids:=(List.range xs.length).map bid
  tok:=fun _=>none
  tkeys:=[]
  gh:=0 }
def ZsX(E:Env)(S:St)(m:Mem):ResultVar→(Value→Prop)→Prop
 | .tmp t,k=>wv S (.tmp t) k
 | .cell t T,k=>Zge E S m T (.tmp t) k
def Zpu(tmps:Array Value):ResultVar→Sem Value
 | .tmp t=>pure (tmps.getD t undef)
 | .cell a t=>do loadVar t (←asAddr (tmps.getD a undef))
def ZvW(E:Env)(S:St)(m:Mem):List ResultVar→(List Value→Prop)→Prop
 | [],k=>k []
 | r::l,k=>ZsX E S m r fun v=>ZvW E S m l fun vs=>k (v::vs)
def ZsN:List Value→Value
 | [v]=>v
 | vs=>.tuple vs.toArray
def Zut(S:St):Nat→List Box→(List (List Value)→Prop)→Prop
 | _,[],k=>k []
 | j,x::xs,k=>match S.L (bid j)with
  | none=>False
  | some y=>{ y with cs:=x.cs }=x∧Zut S (j+1) xs fun css=>k (y.cs::css)
def Zuu(l:List Nat):Bool:=Zbl l&&l.all (fun i=>Nat.blt i 100000)
def Zxw(E:Env)(rs:List ResultVar)(m0:Mem)(xs:List Box)(R:Value→Mem→List (List Value)→Prop)(S:St)(m:Mem):Prop:=
 ZvW E S m rs fun vs=>Zut S 0 xs fun css=>∃m'',m0.le m''∧m''.le (ZsS S E.frz m)∧R (ZsN vs) m'' css
def ZxH(E:Env)(rs:List ResultVar)(m0:Mem)(xs:List Box)(R:Value→Mem→List (List Value)→Prop):KT:=fun e S m=>match e with
 | .normal=>Zxw E rs m0 xs R S m
 | .ret=>Zxw E rs m0 xs R S m
 | _=>False
theorem ZnC{P:Program}{T:TypeId}{x v:Value}{w:World}(h:(Instr.loadAt T x).run P w=.ok v w):(do loadVar T (←asAddr x):Sem Value).run P w=.ok v w:=by
 cases x with
 | pointer p=>
  cases p with
  | none=>simp[Instr.loadAt,Instr.sureAddr]at h
  | some p=>simpa[Instr.loadAt,Instr.sureAddr,asAddr]using h
 | _=>simp[Instr.loadAt,Instr.sureAddr]at h
theorem Zmo{a b:Nat}(h:Nat.blt a b=true):a < b:=Nat.le_of_ble_eq_true h
section
variable {C:Ctx} {S:St} {m:Mem} {a:Act} {w:World}
theorem Zks{E:Env}(hE:E.ok)(hr:Rel C S m a w){r:ResultVar}{k:Value→Prop}(h:ZsX E S m r k):∃v,k v∧(Zpu a.tmps r).run E.P w=.ok v w:=by
 cases r with
 | tmp t=>
  obtain⟨v,hv,hk⟩:=ZaJ h
  refine⟨v,hk,?_⟩
  have:=hr.ev hv
  simp only[Act.eval]at this
  simp only[Zpu]
  rw[←this];rfl
 | cell t T=>
  obtain⟨v,hk,bR⟩:=ZgJ hE hr h
  exact⟨v,hk,ZnC bR⟩
theorem ZeZ{E:Env}(hE:E.ok)(hr:Rel C S m a w):∀{rs:List ResultVar} {k:List Value→Prop},ZvW E S m rs k→∃vs,k vs∧(rs.mapM (Zpu a.tmps)).run E.P w=.ok vs w
 | [],k,h=>⟨[],h,by simp⟩
 | r::l,k,h=>by
  obtain⟨v,h,h1⟩:=Zks hE hr h
  obtain⟨vs,hk,h2⟩:=ZeZ hE hr h
  refine⟨v::vs,hk,?_⟩
  rw[List.mapM_cons]
  simp only[Sem.run_bind,h1,Result.andThen_ok,h2]
  rfl
theorem ZdN{fn:Func}{tmps:Array Value}{P:Program}{w:World}{vs:List Value}(h:(fn.results.toList.mapM (Zpu tmps)).run P w=.ok vs w):(results fn tmps).run P w=.ok (ZsN vs) w:=by
 have e:results fn tmps=(do
  let vs ←fn.results.mapM (Zpu tmps)
  pure (if h:vs.size=1 then vs[0]else .tuple vs)):=rfl
 rw[e,Array.mapM_eq_mapM_toList]
 simp only[Sem.run_bind,Sem.run_map,h,Result.andThen_ok]
 match vs with
 | []=>rfl
 | [v]=>rfl
 | v::u::l=>rfl
theorem ZgW:∀{xs:List Box} {j:Nat} {k:List (List Value)→Prop},Zut S j xs k→∃css,css.length=xs.length∧(∀(i:Nat)(x:Box),xs[i]?=some x→∃cs,css[i]?=some cs∧S.L (bid (j+i))=some { x with cs:=cs })∧k css
 | [],j,k,h=>⟨[],rfl,by simp,h⟩
 | x::xs,j,k,h=>by
  simp only[Zut]at h
  cases hL:S.L (bid j)with
  | none=>simp[hL]at h
  | some y=>
   simp only[hL]at h
   obtain⟨h1,h2⟩:=h
   obtain⟨css,g1,g2,g3⟩:=ZgW h2
   refine⟨y.cs::css,by simp[g1],?_,g3⟩
   intro i z hi
   cases i with
   | zero=>
    simp at hi;subst hi
    refine⟨y.cs,by simp,?_⟩
    rw[Nat.add_zero,hL,←h1]
   | succ i=>
    obtain⟨cs,h3,h4⟩:=g2 i z (by simpa using hi)
    exact⟨cs,by simpa using h3,by rw[←h4];congr 2;omega⟩
theorem Ze0(S:St)(m:Mem):∀{l:List Nat} {b:Nat},(∀id∈l,∀x,S.L id=some x→x.b≠b)→∀o,ZsS S l m b o=m b o
 | [],b,_,o=>rfl
 | id::l,b,h,o=>by
  have ih:=Ze0 S m (l:=l) (b:=b) (fun i hi=>h i (by simp[hi])) o
  simp only[ZsS]
  cases hL:S.L id with
  | none=>exact ih
  | some x=>
   simp only
   cases hz:x.fz with
   | true=>exact ih
   | false=>
    simp only[cond_false]
    rw[Mem.add_other _ (Ne.symm (h id (by simp) x hL))];exact ih
theorem Zqs(hr:Rel C S m a w):∀{l:List Nat},l.Nodup→m.le (ZsS S l m)∧Sub (ZsS S l m) w∧(∀b o v,ZsS S l m b o=some v→m b o=some v∨∃id∈l,∃x,S.L id=some x∧x.b=b)
 | [],_=>⟨Mem.le_refl m,hr.sub,fun b o v h=>.inl h⟩
 | id::l,hn=>by
  obtain⟨h1,h2⟩:=List.nodup_cons.1 hn
  obtain⟨i1,i2,i3⟩:=Zqs hr h2
  simp only[ZsS]
  cases hL:S.L id with
  | none=>exact⟨i1,i2,fun b o v h=>(i3 b o v h).imp_right fun⟨id',h,x⟩=>⟨id',by simp[h],x⟩⟩
  | some x=>
   simp only
   cases hz:x.fz with
   | true=>exact⟨i1,i2,fun b o v h=>(i3 b o v h).imp_right fun⟨id',h,x⟩=>⟨id',by simp[h],x⟩⟩
   | false=>
    simp only[cond_false]
    have gd:=(hr.own id x hL)
    have bW:(ZsS S l m).free x.b:=fun o=>by
     rw[Ze0 S m (fun i hi y hy e=>h1 (hr.apart _ _ _ _ hy hL e ▸ hi))]
     exact gd.free hz o
    refine⟨Mem.le_trans i1 (Mem.le_add bW x.cs),?_,?_⟩
    ·intro b o v hv
     by_cases hb:b=x.b
     ·subst hb;rw[Mem.add_same]at hv;exact gd.cell hv
     ·rw[Mem.add_other _ hb]at hv;exact i2 b o v hv
    ·intro b o v hv
     by_cases hb:b=x.b
     ·exact .inr ⟨id,by simp,x,hL,hb.symm⟩
     ·rw[Mem.add_other _ hb]at hv
      exact(i3 b o v hv).imp_right fun⟨id',h,x⟩=>⟨id',by simp[h],x⟩
end
theorem ZiF{xs:List Box}:∀{l:List SV},Zlr xs l=true→∀(i:Nat) s,l[i]?=some s→Zwh xs s=true
 | [],_,i,s,h=>by simp at h
 | x::l,h,i,s,hs=>by
  simp only[Zlr,Bool.and_eq_true]at h
  cases i with
  | zero=>simp at hs;subst hs;exact h.1
  | succ i=>exact ZiF h.2 i s (by simpa using hs)
def Zw4(n:Nat)(m:Mem)(w:World)(bs:List Nat):Ctx where
 n:=n
 m0:=m
 p:=fun _ M w'=>Keep w.heap.size bs w w'∧∀k,M k→w.heap.size≤k∨k∈bs
 st:=by
  rintro g M M' w1 w2 ⟨h1,h2⟩ hu hg
  refine⟨h1.trans ⟨hu.os,hu.tape,hu.output,hu.size,fun k hk hn=>hu.block k (Nat.lt_of_lt_of_le hk h1.size) fun hm=>?_,hu.wr⟩,fun k hk=>?_⟩
  ·rcases h2 k hm with h|h
   ·omega
   ·exact hn h
  ·rcases hg k hk with h|h
   ·exact h2 k h
   ·have:=h1.size;exact .inl (by omega)
theorem ZsY{n:Nat}{m:Mem}{w:World}{bs:List Nat}(hb:∀k∈bs,Wr w k){g:Int}{M:Nat→Prop}{w':World}(h:(Zw4 n m w bs).p g M w')(k:Nat)(hk:M k):Wr w' k:=by
 rcases h.2 k hk with h1|h1
 ·exact h.1.wr k (Wr.of_none h1)
 ·exact h.1.wr k (hb k h1)
theorem Zls{C:Ctx}{w:World}{xs:List Box}{svs:List SV}(hs:Sub C.m0 w)(hx:∀x∈xs,Own C.m0 w x∧x.fz=false)(eQ:(xs.map (·.b)).Nodup)(cH:Zlr xs svs=true)(hn:svs.length≤C.n)(hp:C.p 0 (fun k=>k∈xs.map (·.b)) w):
  Rel C (S0 svs xs) C.m0 { tmps:=(svs.map (Zpt xs)).toArray++Array.replicate (C.n - (svs.map (Zpt xs)).toArray.size) undef,defers:=[] } w:=by
 have hL:∀id x,(S0 svs xs).L id=some x→100000≤id∧xs[id - 100000]?=some x:=fun id x h=>by
  simp only[S0]at h
  cases hb:Nat.ble 100000 id with
  | false=>simp[hb]at h
  | true=>simp only[hb,cond_true]at h;exact⟨Nat.le_of_ble_eq_true hb,h⟩
 refine⟨⟨[],rfl,List.nodup_nil,by simp⟩,by simp;omega,?_,?_,?_,?_,by simp[S0],by simp[S0],by simp[S0],hs,Mem.le_refl _,⟨_,hp,fun k hk=>?_,fun id x hx=>?_,fun k t b ht=>by simp[S0]at ht,by simp,fun _ _ _ h=>.inl h⟩⟩
 ·intro i sv he
  simp only[S0]at he
  have bM:=(List.getElem?_eq_some_iff.1 he).1
  have h1:=ZiF cH i sv he
  refine⟨Zpt xs sv,?_,?_⟩
  ·cases sv with
   | v x=>rfl
   | loc id off=>
    simp only[Zwh,Bool.and_eq_true]at h1
    have h2:id - 100000 < xs.length:=Zmo h1.2
    simp[St.den,S0,Zpt,h1.1,List.getElem?_eq_getElem h2]
   | sl id n c=>
    simp only[Zwh,Bool.and_eq_true]at h1
    have h2:id - 100000 < xs.length:=Zmo h1.2
    simp[St.den,S0,Zpt,h1.1,List.getElem?_eq_getElem h2]
  ·rw[Array.getElem?_append_left (by simpa using bM)]
   simp[he]
 ·intro id x hx'
  have:=List.mem_of_getElem? (hL id x hx').2
  exact(hx x this).1
 ·intro id id' x x' h1 h2 hb
  obtain⟨g1,g2⟩:=hL _ _ h1
  obtain⟨g3,g4⟩:=hL _ _ h2
  have hi:=(List.getElem?_eq_some_iff.1 g2).1
  have hi':=(List.getElem?_eq_some_iff.1 g4).1
  have:=(List.getElem?_inj (l:=xs.map (·.b)) (i:=id - 100000) (j:=id' - 100000) (by simpa using hi) eQ).1 (by simp[g2,g4,hb])
  omega
 ·intro id x h1
  obtain⟨g1,g2⟩:=hL _ _ h1
  have hi:=(List.getElem?_eq_some_iff.1 g2).1
  simp only[S0,List.mem_map,List.mem_range,bid]
  exact⟨id - 100000,hi,by omega⟩
 ·obtain⟨x,h1,h2⟩:=List.mem_map.1 hk
  exact h2 ▸ (hx x h1).1.lt
 ·exact List.mem_map.2 ⟨x,List.mem_of_getElem? (hL id x hx).2,rfl⟩
theorem ZnD{n:Nat}{w:World}{m:Mem}{xs:List Box}{svs:List SV}(hs:Sub m w)(hx:∀x∈xs,Own m w x∧x.fz=false)(eQ:(xs.map (·.b)).Nodup)(cH:Zlr xs svs=true)(hn:svs.length≤n):
  Rel (Zw4 n m w (xs.map (·.b))) (S0 svs xs) m { tmps:=(svs.map (Zpt xs)).toArray++Array.replicate (n - (svs.map (Zpt xs)).toArray.size) undef,defers:=[] } w:=
 Zls (C:=Zw4 n m w (xs.map (·.b))) hs hx eQ cH hn ⟨Keep.refl _ _ _,fun k hk=>.inr hk⟩
theorem Rel.leave{P:Program}{C:Ctx}{S:St}{m:Mem}{fn:Func}{tmps:Array Value}{R:Ending→World→Prop}(h:∀a' w',a'.tmps=tmps→Rel C S m a' w'→∃v,(results fn tmps).run P w'=.ok v w'∧R (.returned v) w'):
  ∀(ms:List Nat)(a:Act)(w:World),a.tmps=tmps→a.defers=ms.map Zjn→Rel C S m a w→LeavesInM Fence.wide 0 P fn tmps R a.defers .returning w
 | [],a,w,ht,hm,hr=>by
  rw[hm]
  simp only[List.map_nil,LeavesInM,LeavesIn]
  exact h a w ht hr
 | D::ms,a,w,ht,hm,hr=>by
  obtain⟨ms',q1,q2,q3⟩:=hr.defers
  have f8:ms'=D::ms:=by
   rw[hm]at q1
   have inj:∀(l l':List Nat),l.map Zjn=l'.map Zjn→l=l':=by
    intro l
    induction l with
    | nil=>intro l' h;cases l' <;> simp_all
    | cons x l ih=>
     intro l' h
     cases l' with
     | nil=>simp at h
     | cons y l'=>simp only[List.map_cons,List.cons.injEq]at h;rw[ih l' h.2];simpa[Zjn]using h.1
   exact(inj _ _ q1).symm
  subst f8
  have hD:=q3 D (by simp)
  rw[hm]
  simp only[List.map_cons,LeavesInM]
  refine⟨by simp,.inl ⟨D,_,rfl,run_takeDeferred hD,?_⟩⟩
  have hr':Rel C S m { a with defers:=ms.map Zjn } (w.putObj D (.deferred none)):=by
   obtain⟨M,hd⟩:=hr.dom
   have uP:M D:=hd.mks D (by rw[hm];simp)
   have dH:∀k,k≠D→(w.putObj D (.deferred none)).heap[k]?=w.heap[k]?:=fun k hk=>World.putObj_heap_other hk
   refine hr.swap rfl hr.le rfl rfl rfl rfl hr.env hr.size ⟨ms,rfl,(List.nodup_cons.1 q2).2,fun D' hD'=>?_⟩ (fun k c T fr hk=>dH k (fun e=>by rw[e,hD]at hk;cases hk)) (fun k t b ht hb=>((hr.toks k t ht).2 b hb).2) ?_
   ·rw[dH D' (fun e=>(List.nodup_cons.1 q2).1 (e ▸ hD'))];exact q3 D' (by simp[hD'])
   ·have h1:=hd.step (m':=m) (Zgj (o:=.deferred none) rfl uP) (fun b o v hv=>.inl hv)
    exact⟨_,h1.p,h1.lt,h1.own,h1.tok,fun D' hD'=>h1.mks D' (by rw[hm];exact List.mem_cons_of_mem _ hD'),h1.new⟩
  exact Rel.leave h ms { a with defers:=ms.map Zjn } _ ht rfl hr'
theorem ZuK{E:Env}(hE:E.ok){Zbe:Nat→Array Oper→(St→Mem→Prop)→St→Mem→Prop}(hD:ZeN E Zbe)(gV:Zea E Zbe){g:FuncId}{fn:Func}{c:Code}
  (hf:E.P.funcs[g]?=some fn) (hn:(fn.name == "runtime.NumGoroutine")=false) (hb:fn.body=some c) (hc:Zaz E c=true) (hl:ZbM fn.ntmps c=true) (hz:Zuu E.frz=true) (eR:E.yl=none)
  {m:Mem} (gu:∀mm,E.m0=some mm→m=mm) {R:Value→Mem→List (List Value)→Prop} (svs:List SV) (xs:List Box) (bO:Nat.ble svs.length fn.ntmps=true) (cH:Zlr xs svs=true)
  (h:W E Zbe c (ZxH E fn.results.toList m xs R) (S0 svs xs) m):CX E.P g (svs.map (Zpt xs)).toArray m xs R:=by
 refine⟨Zhx hf hn (by simp[hb]),fun w hs hx eQ=>?_⟩
 have bN:=ZnD (n:=fn.ntmps) hs hx eQ cH (Nat.le_of_ble_eq_true bO)
 refine callsIn_wide.1 (callsIn_of_wp_marks (F:=Fence.wide) (n:=0) hf hb trivial ?_)
 refine ZcI hE hD gV c hc (.inl rfl) (YOk.none eR (fun mm f8=>⟨gu mm f8,fun g M w' hp k hk=>ZsY (fun k hk=>by
  obtain⟨x,h1,rfl⟩:=List.mem_map.1 hk
  exact(hx x h1).1.wr) hp k hk⟩)) (fun l hl=>by cases hl) 0 hl bN h ?_
 have key:∀S' m' a' w',Zxw E fn.results.toList m xs R S' m'→Rel (Zw4 fn.ntmps m w (xs.map (·.b))) S' m' a' w'→LeavesInM Fence.wide 0 E.P fn a'.tmps (fun e w'=>
   ∃v_1 m'_1 css,e=Ending.returned v_1∧m.le m'_1∧Sub m'_1 w'∧Zhu m m'_1 w.heap.size∧Keep w.heap.size (xs.map (·.b)) w w'∧css.length=xs.length∧(∀(i:Nat)(x:Box)(cs:List Value),xs[i]?=some x→css[i]?=some cs→Own m'_1 w' { x with cs:=cs })∧R v_1 m'_1 css) a'.defers .returning w':=by
  intro S' m' a' w' hk hr
  obtain⟨ms,q1,_,_⟩:=hr.defers
  refine Rel.leave ?_ ms a' w' rfl q1 hr
  clear hr q1
  intro a2 w2 ht hr
  rw[←ht]
  obtain⟨vs,hk,bR⟩:=ZeZ hE hr hk
  obtain⟨css,h1,h2,m'',h3,h4,h5⟩:=ZgW hk
  obtain⟨M,hd⟩:=hr.dom
  refine⟨ZsN vs,ZdN bR,ZsN vs,m'',css,rfl,h3,?_,?_,hd.p.1,h1,?_,h5⟩
  all_goals simp only[Zuu,Bool.and_eq_true]at hz
  all_goals have ri:=ZaO hz.1
  all_goals obtain⟨f1,f2,f3⟩:=Zqs hr ri
  ·exact fun b o v hv=>f2 b o v (h4 b o v hv)
  ·intro b o v hv
   rcases f3 b o v (h4 b o v hv)with hv|⟨id,cT,x,jg,kG⟩
   ·rcases hd.new b o v hv with h6|h6
    ·exact .inl h6
    ·rcases hd.p.2 b h6 with h6|h6
     ·exact .inr h6
     ·exfalso
      obtain⟨y,hy,gR⟩:=List.mem_map.1 h6
      obtain⟨i,hi⟩:=List.getElem?_of_mem hy
      obtain⟨cs,_,jk⟩:=h2 i y hi
      have:=(hr.own _ _ jk).free (hx y hy).2 o
      simp only[gR]at this
      rw[this]at hv;cases hv
   ·right
    have h6:=hd.p.2 _ (hd.own id x jg)
    subst kG
    rcases h6 with h6|h6
    ·exact h6
    ·exfalso
     obtain⟨y,hy,gR⟩:=List.mem_map.1 h6
     obtain⟨i,hi⟩:=List.getElem?_of_mem hy
     obtain⟨cs,_,jk⟩:=h2 i y hi
     have:=hr.apart _ _ _ _ jg jk gR.symm
     have bM:id < 100000:=by
      have:=List.all_eq_true.1 hz.2 id cT
      exact Zmo this
     simp only[bid]at this
     omega
  ·intro i x cs hi cG
   obtain⟨cs',h6,h7⟩:=h2 i x hi
   rw[cG]at h6;cases h6
   have ho:=hr.own _ _ h7
   have mh:=(hx x (List.mem_of_getElem? hi)).2
   refine⟨ho.cells,fun _ o=>?_,fun hz'=>by simp[mh]at hz',ho.whole⟩
   cases hv:m'' x.b o with
   | none=>rfl
   | some v=>
    have h8:=h4 _ _ _ hv
    rw[Ze0 S' m' (fun id cT y hy e=>?_)]at h8
    ·have:=ho.free mh o
     simp only at this
     rw[this]at h8;cases h8
    ·have:=hr.apart _ _ _ _ hy h7 e
     have bM:id < 100000:=by
      have:=List.all_eq_true.1 hz.2 id cT
      exact Zmo this
     simp only[bid]at this
     omega
 intro e S' m' a' w' hk hr
 cases e with
 | normal=>exact key S' m' a' w' hk hr
 | ret=>exact key S' m' a' w' hk hr
 | exit _=>exact hk.elim
 | goto _=>exact hk.elim
 | panic _=>exact hk.elim
 | outgrown=>exact hk.elim
def ZwD(E:Env)(rs:List ResultVar)(n:Nat):KT:=fun e S m=>match e with
 | .normal=>ZvW E S m rs fun _=>S.gh=n∨S.gh=-1
 | .ret=>ZvW E S m rs fun _=>S.gh=n∨S.gh=-1
 | _=>False
def Env.yields(E:Env)(l:Nat)(xs:List (List Value)):Env:={ E with yl:=some fun l' g v=>l'=l∧0≤g∧xs[g.toNat]?=some v,m0:=none }
theorem ZuL{E:Env}(hE:E.ok){Zbe:(E:Env)→Nat→Array Oper→(St→Mem→Prop)→St→Mem→Prop}{g:FuncId}{fn:Func}{c:Code}
  (hf:E.P.funcs[g]?=some fn) (hn:(fn.name == "runtime.NumGoroutine")=false) (hb:fn.body=some c) (hl:ZbM fn.ntmps c=true)
  {m:Mem} (first captured:List Value) (xs:List (List Value)) (bO:Nat.ble (first.length+captured.length+1) fn.ntmps=true)
  (h:∀l,ZeN (E.yields l xs) (Zbe (E.yields l xs))∧Zea (E.yields l xs) (Zbe (E.yields l xs))∧Zaz (E.yields l xs) c=true∧W (E.yields l xs) (Zbe (E.yields l xs)) c (ZwD E fn.results.toList xs.length) (S0 ((first++.func (.yield l) #[] #[]::captured).map .v) []) m):
  IX E.P g first captured m xs:=by
 refine⟨Zhx hf hn (by simp[hb]),fun p hp l w hs qN hy=>?_⟩
 obtain⟨hD,gV,hc,h⟩:=h l
 have hE':(E.yields l xs).ok:=hE
 let C:Ctx:=⟨fn.ntmps,m,p,hp⟩
 have cH:∀vs:List Value,Zlr [] (vs.map .v)=true:=fun vs=>by
  induction vs with
  | nil=>rfl
  | cons v vs ih=>simp[Zlr,Zwh,ih]
 have jU:∀vs:List Value,(vs.map SV.v).map (Zpt [])=vs:=fun vs=>by
  induction vs with
  | nil=>rfl
  | cons v vs ih=>simp only[List.map_cons,ih];rfl
 have bN:=Zls (C:=C) (xs:=[]) (svs:=(first++.func (.yield l) #[] #[]::captured).map .v) hs (by simp) (by simp) (cH _) (by have:=Nat.le_of_ble_eq_true bO;simp;omega) (by
  have e:(fun k=>k∈([]:List Box).map (·.b))=(fun _:Nat=>False):=by funext k;simp
  rw[e];exact qN)
 rw[jU]at bN
 refine callsIn_wide.1 (callsIn_of_wp_marks (F:=Fence.wide) (n:=0) hf hb trivial ?_)
 refine ZcI hE' hD gV c hc (.inl rfl) (C:=C) ⟨fun Y hY=>by
  simp only[Env.yields,Option.some.injEq]at hY
  subst hY;exact hy,fun mm f8=>by cases f8⟩ (fun l hl=>by cases hl) 0 hl bN h ?_
 have key:∀S' m' a' w',ZvW E S' m' fn.results.toList (fun _=>S'.gh=xs.length∨S'.gh=-1)→Rel C S' m' a' w'→LeavesInM Fence.wide 0 E.P fn a'.tmps (fun e w'=>∃v M,e=.returned v∧(∀k,M k→k < w'.heap.size)∧(p xs.length M w'∨p (-1) M w')) a'.defers .returning w':=by
  intro S' m' a' w' hk hr
  obtain⟨ms,q1,_,_⟩:=hr.defers
  refine Rel.leave ?_ ms a' w' rfl q1 hr
  clear hr q1
  intro a2 w2 ht hr
  rw[←ht]
  obtain⟨vs,hk,bR⟩:=ZeZ hE hr hk
  obtain⟨M,hd⟩:=hr.dom
  refine⟨ZsN vs,ZdN bR,_,M,rfl,hd.lt,?_⟩
  have:=hd.p
  rcases hk with hk|hk
  ·rw[hk]at this;exact .inl this
  ·rw[hk]at this;exact .inr this
 intro e S' m' a' w' hk hr
 cases e with
 | normal=>exact key S' m' a' w' hk hr
 | ret=>exact key S' m' a' w' hk hr
 | exit _=>exact hk.elim
 | goto _=>exact hk.elim
 | panic _=>exact hk.elim
 | outgrown=>exact hk.elim
end Go.Eng
namespace Go.Eng
open Go Go.RowKit
def LC{α β:Type}(T1:(α→Prop)→Prop)(T2:(β→Prop)→Prop)(ρ:α→β→Prop):Prop:=
 T1 (fun _=>True)→T2 (fun y2=>∃y1,(∀K,T1 K→K y1)∧ρ y1 y2)
section comb
variable {α β:Type} {ρ:α→β→Prop}
theorem LC.false{T2:(β→Prop)→Prop}:LC (fun _:α→Prop=>False) T2 ρ:=fun h=>h.elim
theorem LC.ret{a:α}{b:β}(h:ρ a b):LC (fun K=>K a) (fun K=>K b) ρ:=fun _=>⟨a,fun _ hK=>hK,h⟩
theorem LC.chk{c:Bool}{T1:(α→Prop)→Prop}{T2:(β→Prop)→Prop}(h:c=true→LC T1 T2 ρ):LC (fun K=>chk c (T1 K)) (fun K=>chk c (T2 K)) ρ:=by
 cases c
 ·exact fun h=>h.elim
 ·exact h rfl
theorem LC.br{c:Bool}{T1 U1:(α→Prop)→Prop}{T2 U2:(β→Prop)→Prop}(h:LC T1 T2 ρ)(k:LC U1 U2 ρ):LC (fun K=>br c (T1 K) (U1 K)) (fun K=>br c (T2 K) (U2 K)) ρ:=by
 cases c
 ·exact k
 ·exact h
theorem LC.and{p q:Prop}{T1:(α→Prop)→Prop}{T2:(β→Prop)→Prop}(nJ:p→q)(h:p→LC T1 T2 ρ)(mono:∀{K K':β→Prop},(∀y,K y→K' y)→T2 K→T2 K'):LC (fun K=>p∧T1 K) (fun K=>q∧T2 K) ρ:=fun⟨h1,h2⟩=>
 ⟨nJ h1,mono (fun y ⟨y1,g1,g2⟩=>⟨y1,fun K hK=>g1 K hK.2,g2⟩) (h h1 h2)⟩
theorem LC.map{γ δ:Type}{σ:γ→δ→Prop}{T1:(α→Prop)→Prop}{T2:(β→Prop)→Prop}(h:LC T1 T2 ρ)(f:α→γ)(g:β→δ)(uQ:∀a b,ρ a b→σ (f a) (g b))(mono:∀{K K':β→Prop},(∀y,K y→K' y)→T2 K→T2 K'):
  LC (fun K=>T1 fun a=>K (f a)) (fun K=>T2 fun b=>K (g b)) σ:=fun h1=>
 mono (fun b ⟨a,g1,g2⟩=>⟨f a,fun K hK=>g1 _ hK,uQ _ _ g2⟩) (h h1)
end comb
abbrev LE{α:Type}(T1 T2:(α→Prop)→Prop):Prop:=LC T1 T2 Eq
theorem Zqt{l:List Value}{n:Nat}{α β:Type}{ρ:α→β→Prop}{f:Value→α}{g:Value→β}(h:∀v,ρ (f v) (g v)):LC (fun K=>ZsL l n fun v=>K (f v)) (fun K=>ZsL l n fun v=>K (g v)) ρ:=by
 unfold ZsL
 cases hl:l[n]? with
 | none=>exact LC.false
 | some v=>simp only;exact LC.ret (h v)
theorem ZsZ{op:BinOp}{b:Bool}:LE (ZsM op b) (ZsM op b):=by
 cases op <;> first
  | exact LC.false
  | exact LC.ret rfl
theorem ZuM{op:BinOp}{k:IntKind}{a b:Int}:LE (ZvO op k a b) (ZvO op k a b):=by
 cases op <;> first
  | exact LC.false
  | exact LC.ret rfl
  | exact LC.and id (fun _=>LC.ret rfl) (fun h=>h _)
theorem ZrK{op:BinOp}{k:IntKind}{a b:Int}:LE (Zkc op k a b) (Zkc op k a b):=by
 cases op <;> first
  | exact LC.false
  | exact LC.and id (fun _=>LC.ret rfl) (fun h=>h _)
theorem ZuN{op:BinOp}{a b:ByteArray}:LE (ZvP op a b) (ZvP op a b):=by
 cases op <;> first
  | exact LC.false
  | exact LC.ret rfl
  | exact LC.and id (fun _=>LC.ret rfl) (fun h=>h _)
theorem EqIs.unique{P:Program}{T:TypeId}{x y:Value}{a b:Bool}(w:World)(h:EqIs P T x y a)(k:EqIs P T x y b):a=b:=by
 have h1:=h.1 w
 rw[k.1 w]at h1
 cases h1;rfl
theorem ZuO{E:Env}(w:World){op:BinOp}{T:TypeId}{x y:Value}:LE (ZvI E op T x y) (ZvI E op T x y):=by
 unfold ZvI
 cases ht:E.tt T with
 | none=>exact LC.false
 | some i=>
  simp only
  cases hd:i.d <;> simp only <;> first
   | exact LC.false
   | exact LC.chk fun _=>ZuN
   | exact LC.chk fun _=>ZsZ
   | (refine LC.chk fun _=>?_
      rintro⟨b,hb,h⟩
      exact⟨b,hb,Zkl (fun v ⟨v1,g1,g2⟩=>⟨v1,fun K ⟨b',hb',hK⟩=>g1 K (by rw[EqIs.unique w hb hb'];exact hK),g2⟩) (ZsZ h)⟩)
   | (cases hs:Zjo op
      ·exact LC.chk fun _=>ZuM
      ·exact LC.chk fun _=>ZrK)
theorem ZtA{E:Env}{s d:TypeId}{v:Value}:LE (Zrt E s d v) (Zrt E s d v):=by
 unfold Zrt
 cases E.tt s with
 | none=>exact LC.false
 | some i=>
  cases E.tt d with
  | none=>exact LC.false
  | some j=>
   simp only
   cases i.d <;> cases j.d <;> simp only <;> first
    | exact LC.false
    | exact LC.chk fun _=>LC.ret rfl
theorem ZuP{E:Env}{T:TypeId}{v:Value}:LE (Zwd E T v) (Zwd E T v):=by
 unfold Zwd
 cases E.tt T with
 | none=>exact LC.false
 | some i=>
  simp only
  cases i.d <;> simp only <;> first
   | exact LC.false
   | exact LC.ret rfl
   | exact LC.chk fun _=>LC.ret rfl
theorem Zgl{α β:Type}{ρ:α→β→Prop}{x:Option Value}{d y:Nat}{U1:Nat→(α→Prop)→Prop}{U2:Nat→(β→Prop)→Prop}(h:∀n,LC (U1 n) (U2 n) ρ)(mono:∀n {K K':β→Prop},(∀y,K y→K' y)→U2 n K→U2 n K'):
  LC (fun K=>Zhw x d y fun n=>U1 n K) (fun K=>Zhw x d y fun n=>U2 n K) ρ:=by
 cases x with
 | none=>exact h d
 | some v=>exact LC.chk fun _=>LC.and id (fun _=>h _) (mono _)
theorem Zqu{α β:Type}{ρ:α→β→Prop}{place:Nat→Option (Nat×Nat)}{f:List Value→α}{g:List Value→β}(h:∀v,ρ (f v) (g v)):∀{parts:List (Nat×Value)} {cs:List Value},LC (fun K=>ZmQ place cs parts fun r=>K (f r)) (fun K=>ZmQ place cs parts fun r=>K (g r)) ρ
 | [],cs=>LC.ret (h cs)
 | (i,v)::rest,cs=>by
  simp only[ZmQ]
  cases place i with
  | none=>exact LC.false
  | some os=>exact LC.chk fun _=>Zqu h
theorem ZrL{E:Env}{T:TypeId}{v:Value}{lo hi mx:Option Value}:LE (Zi2 E T v lo hi mx) (Zi2 E T v lo hi mx):=by
 unfold Zi2
 cases Zix E T with
 | some sz=>
  simp only
  exact LC.chk fun _=>Zgl (fun m=>Zgl (fun h=>Zgl (fun l=>LC.chk fun _=>LC.ret rfl) (fun l K K' hh=>Zah (hh _))) (fun h K K' hh=>ZbS (fun l=>Zah (hh _)))) (fun m K K' hh=>ZbS (fun h=>ZbS (fun l=>Zah (hh _))))
 | none=>
  simp only
  cases ZfI E T with
  | false=>exact LC.false
  | true=>exact LC.chk fun _=>Zgl (fun h=>Zgl (fun l=>LC.ret rfl) (fun l K K' hh=>hh _)) (fun h K K' hh=>ZbS (fun l=>hh _))
structure Less (S1 S2:St):Prop where
 env:∀t sv,S1.env t=some sv→S2.env t=some sv
 L:∀id x,S1.L id=some x→S2.L id=some x
theorem Less.ev{S1 S2:St}(h:Less S1 S2){x:Operand}{sv:SV}(hx:S1.ev x=some sv):S2.ev x=some sv:=by
 cases x with
 | tmp t=>exact h.env t sv hx
 | _=>exact hx
theorem Less.den{S1 S2:St}(h:Less S1 S2){sv:SV}{v:Value}(hx:S1.den sv=some v):S2.den sv=some v:=by
 cases sv with
 | v u=>exact hx
 | loc id off=>
  simp only[St.den]at *
  cases hb:S1.L id with
  | none=>simp[hb]at hx
  | some b=>simp only[hb]at hx;simp only[h.L id b hb];exact hx
 | sl id n c=>
  simp only[St.den]at *
  cases hb:S1.L id with
  | none=>simp[hb]at hx
  | some b=>simp only[hb]at hx;simp only[h.L id b hb];exact hx
theorem Less.val{S1 S2:St}(h:Less S1 S2){x:Operand}{v:Value}(hx:S1.val x=some v):S2.val x=some v:=by
 unfold St.val at *
 cases he:S1.ev x with
 | none=>simp[he]at hx
 | some sv=>simp only[he]at hx;rw[h.ev he];exact h.den hx
section ops
variable {α β:Type} {ρ:α→β→Prop} {S1 S2:St}
theorem Zdo(hs:Less S1 S2){x:Operand}{U1:Value→(α→Prop)→Prop}{U2:Value→(β→Prop)→Prop}(h:∀v,LC (U1 v) (U2 v) ρ):
  LC (fun K=>wv S1 x fun v=>U1 v K) (fun K=>wv S2 x fun v=>U2 v K) ρ:=by
 unfold wv
 cases hv:S1.val x with
 | none=>exact LC.false
 | some v=>simp only[hs.val hv];exact h v
theorem ZnE(hs:Less S1 S2):∀{l:List Operand} {U1:List Value→(α→Prop)→Prop} {U2:List Value→(β→Prop)→Prop} (h:∀v,LC (U1 v) (U2 v) ρ),LC (fun K=>wvs S1 l fun v=>U1 v K) (fun K=>wvs S2 l fun v=>U2 v K) ρ
 | [],U1,U2,h=>h []
 | x::l,U1,U2,h=>Zdo hs (U1:=fun v K=>wvs S1 l fun vs=>U1 (v::vs) K) (U2:=fun v K=>wvs S2 l fun vs=>U2 (v::vs) K) fun v=>ZnE hs (fun vs=>h (v::vs))
theorem Zqv(hs:Less S1 S2){x:Option Operand}{U1:Option Value→(α→Prop)→Prop}{U2:Option Value→(β→Prop)→Prop}(h:∀v,LC (U1 v) (U2 v) ρ):
  LC (fun K=>ZvR S1 x fun v=>U1 v K) (fun K=>ZvR S2 x fun v=>U2 v K) ρ:=by
 cases x with
 | none=>exact h none
 | some x=>exact Zdo hs (U1:=fun v K=>U1 (some v) K) (U2:=fun v K=>U2 (some v) K) fun v=>h (some v)
end ops
theorem ZtB{E:Env}{S1 S2:St}(w:World)(hs:Less S1 S2){o:Oper}:LE (Zdm E S1 o) (Zdm E S2 o):=by
 have hr:∀{a:SV},LE (fun K:SV→Prop=>K a) (fun K=>K a):=LC.ret rfl
 have im:∀{c:Bool} {a:SV},LE (fun K:SV→Prop=>Eng.chk c (K a)) (fun K=>Eng.chk c (K a)):=LC.chk fun _=>LC.ret rfl
 obtain⟨dst,op,type,pos,after,guard⟩:=o
 cases op <;> unfold Zdm <;> simp only <;> try exact LC.false
 case unOp op T x=>
  refine Zdo hs fun v=>?_
  cases op <;> simp only <;> first
   | exact LC.false
   | exact im
   | (cases Zch E T <;> simp only <;> first
     | exact LC.false
     | exact im)
 case binOp op T x y yT=>
  exact Zdo hs fun v=>Zdo hs fun v'=>(ZuO w).map _ _ (fun a b e=>by rw[e]) (fun h=>Zns h)
 case convert s d x=>exact Zdo hs fun v=>ZtA.map _ _ (fun a b e=>by rw[e]) (fun h hx=>by
  unfold Zrt at *
  (repeat' split at hx) <;> first|exact hx.elim|exact Zah (h _) hx)
 case makeFunc=>exact ZnE hs fun v=>ZnE hs fun v'=>hr
 case fieldAddr T x f=>
  cases Ziv E T f with
  | none=>exact LC.false
  | some fo=>
   simp only
   cases he:S1.ev x with
   | none=>exact LC.false
   | some sv=>
    simp only[hs.ev he]
    cases sv <;> first
     | exact LC.false
     | exact hr
     | exact im
 case indexAddr T x i=>
  refine Zdo hs fun vi=>LC.chk fun _=>?_
  cases Zwc E T with
  | none=>exact LC.false
  | some ix=>
   cases he:S1.ev x with
   | none=>
    cases ix <;> simp only
    ·exact fun h=>h.2.elim
    ·exact LC.false
   | some sv=>
    simp only[hs.ev he]
    cases ix <;> simp only
    ·cases sv <;> simp only
     ·exact LC.and id (fun _=>im) (fun h=>Zah (h _))
     ·exact LC.and id (fun _=>hr) (fun h=>h _)
     ·exact fun h=>h.2.elim
    ·cases sv <;> simp only
     ·refine LC.chk fun _=>?_
      rintro⟨b,o,h1,h2,h3⟩
      refine⟨b,o,h1,h2,_,fun K ⟨b',o',g1,g2,g3⟩=>?_,rfl⟩
      rw[h1]at g1
      cases g1
      exact g3
     ·exact LC.false
     ·exact LC.and id (fun _=>hr) (fun h=>h _)
 case index T x i=>
  refine Zdo hs fun v=>Zdo hs fun vi=>LC.chk fun _=>?_
  cases ZfI E T <;> simp only[cond_true,cond_false]
  ·cases Zpl E T with
   | none=>exact LC.false
   | some len=>exact LC.chk fun _=>LC.and id (fun _=>Zqt (fun _=>rfl)) (fun h=>ZhJ (fun u=>h _))
  ·exact LC.chk fun _=>LC.and id (fun _=>hr) (fun h=>h _)
 case build T parts=>
  cases Ziw E T with
  | none=>exact LC.false
  | some place=>exact ZnE hs fun vs=>Zqu (fun _=>rfl)
 case extract x n=>exact Zdo hs fun v=>LC.chk fun _=>Zqt (fun _=>rfl)
 case makeInterface T x=>exact Zdo hs fun v=>im
 case nilCheck x=>
  cases he:S1.ev x with
  | none=>exact LC.false
  | some sv=>
   simp only[hs.ev he]
   cases sv <;> first
    | exact LC.false
    | exact hr
    | exact im
 case slice T x lo hi mx=>exact Zdo hs fun v=>Zqv hs fun l=>Zqv hs fun h=>Zqv hs fun m=>ZrL.map _ _ (fun a b e=>by rw[e]) (fun h=>Zjs h)
 case call c=>
  split
  ·split
   ·exact Zdo hs fun v=>ZuP.map _ _ (fun a b e=>by rw[e]) (fun h y=>by
     unfold Zwd at *
     (repeat' split at y) <;> first|exact y.elim|exact Zah (h _) y|exact h _ y)
   ·exact LC.false
  ·split
   ·rename_i T _ _ _
    refine Zdo hs fun v=>Zdo hs fun v'=>?_
    split
    ·exact im
    ·exact LC.false
   ·exact LC.false
  ·split
   ·refine Zdo hs fun v=>Zdo hs fun v'=>?_
    split
    ·exact im
    ·exact LC.false
   ·refine Zdo hs fun v=>Zdo hs fun v'=>Zdo hs fun v''=>?_
    split
    ·exact im
    ·exact LC.false
   ·exact LC.false
  ·exact LC.false
end Go.Eng
namespace Go.Eng
open Go Go.RowKit
def Mem.or(a b:Mem):Mem:=fun i o=>match a i o with
 | some v=>some v
 | none=>b i o
theorem Mem.le_or(a b:Mem):a.le (a.or b):=fun i o v h=>by simp[Mem.or,h]
theorem Mem.or_some{a b:Mem}{i o:Nat}{v:Value}(h:a.or b i o=some v):a i o=some v∨(a i o=none∧b i o=some v):=by
 unfold Mem.or at h
 cases ha:a i o with
 | some u=>simp[ha]at h;exact .inl (by rw[h])
 | none=>simp[ha]at h;exact .inr ⟨rfl,h⟩
theorem CX.frame2{P:Program}{g:FuncId}{args:Array Value}{m M:Mem}{X:List Box}{R:Value→Mem→List (List Value)→Prop}(h:CX P g args m X R)(hm:m.le M):
  CX P g args M X (fun v M' css=>∃m',m.le m'∧m'.le M'∧(∀b o u,M b o=some u→∀o',m' b o'=m b o')∧R v m' css):=by
 refine⟨h.1,fun w hs hX eQ=>?_⟩
 have bW:∀{b o},M b o=none→m b o=none:=fun {b o} hb=>by
  cases he:m b o with
  | none=>rfl
  | some v=>rw[hm _ _ _ he]at hb;cases hb
 have hX':∀x∈X,Own m w x∧x.fz=false:=fun x hx=>by
  obtain⟨ho,hz⟩:=hX x hx
  exact⟨⟨ho.cells,fun _ o=>bW (ho.free hz o),fun hz'=>by simp[hz]at hz',ho.whole⟩,hz⟩
 refine(h.2 w (fun b o v hv=>hs b o v (hm _ _ _ hv)) hX' eQ).mono ?_
 rintro e w' ⟨v,m',css,rfl,a2,a3,a4,a5,a6,a7,a8⟩
 have cN:m'.le (M.or m'):=fun b o u hu=>by
  cases hM:M b o with
  | none=>simp[Mem.or,hM,hu]
  | some u'=>
   rcases a4 b o u hu with h1|h1
   ·rw[hm _ _ _ h1]at hM;cases hM;simp[Mem.or,hm _ _ _ h1]
   ·have:=hs.lt hM;omega
 have cZ:∀b o u,M b o=some u→∀o',m' b o'=m b o':=fun b o u hu o'=>by
  cases hm':m' b o' with
  | none=>
   cases gu:m b o' with
   | none=>rfl
   | some x=>have:=a2 _ _ _ gu;rw[hm']at this;cases this
  | some x=>
   rcases a4 b o' x hm' with h1|h1
   ·exact h1.symm
   ·have:=hs.lt hu;omega
 refine⟨v,M.or m',css,rfl,Mem.le_or _ _,?_,?_,a5,a6,?_,m',a2,cN,cZ,a8⟩
 ·intro b o u hu
  rcases Mem.or_some hu with h1|⟨h1,h2⟩
  ·have bM:=hs.lt h1
   rw[ZbL (a5.block b bM ?_)]
   ·exact hs b o u h1
   ·intro cU
    obtain⟨x,hx,rfl⟩:=List.mem_map.1 cU
    obtain⟨ho,hz⟩:=hX x hx
    have:=ho.free hz o
    rw[h1]at this;cases this
  ·exact a3 b o u h2
 ·intro b o u hu
  rcases Mem.or_some hu with h1|⟨h1,h2⟩
  ·exact .inl h1
  ·rcases a4 b o u h2 with h3|h3
   ·rw[hm _ _ _ h3]at h1;cases h1
   ·exact .inr h3
 ·intro i x cs hi cG
  have ho:=a7 i x cs hi cG
  obtain⟨lS,hz⟩:=hX x (List.mem_of_getElem? hi)
  refine⟨ho.cells,fun _ o=>?_,fun hz'=>by simp[hz]at hz',ho.whole⟩
  simp only[Mem.or,lS.free hz o]
  exact ho.free hz o
theorem CX.frame{P:Program}{g:FuncId}{args:Array Value}{m M:Mem}{X:List Box}{R:Value→Mem→List (List Value)→Prop}(h:CX P g args m X R)(hm:m.le M):
  CX P g args M X (fun v M' css=>∃m',m.le m'∧m'.le M'∧R v m' css):=(h.frame2 hm).mono fun _ _ _ _ ⟨m',a1,a2,_,a4⟩=>⟨m',a1,a2,a4⟩
theorem ZfM{m:Mem}{b o:Nat}{xs ys:List Value}(h:m.reads b o xs)(k:m.reads b o ys)(hl:xs.length=ys.length):xs=ys:=by
 refine List.ext_getElem hl fun i h1 h2=>?_
 have a:=h i _ (List.getElem?_eq_getElem h1)
 have b:=k i _ (List.getElem?_eq_getElem h2)
 rw[a]at b;exact Option.some.inj b
theorem ZfN{m:Mem}{a:Option Addr}{xs ys:List Value}(h:rowRd m a xs)(k:rowRd m a ys)(hl:xs.length=ys.length):xs=ys:=by
 rcases h with h|⟨b,o,h1,h2⟩
 ·subst h;simp at hl;exact(List.eq_nil_of_length_eq_zero hl.symm).symm
 ·rcases k with k|⟨b',o',k1,k2⟩
  ·subst k;simpa using hl
  ·rw[h1]at k1;cases k1
   exact ZfM h2 k2 hl
theorem Zpv{i:TI}{m M:Mem}(hm:m.le M){b o:Nat}:LE (Zdq i m b o) (Zdq i M b o):=by
 intro h
 unfold Zdq at *
 cases ha:i.agg with
 | false=>
  simp only[ha,cond_false]at *
  obtain⟨v,hv,_⟩:=h
  exact⟨v,hm _ _ _ hv,v,fun K ⟨v',hv',hK⟩=>by rw[hv]at hv';cases hv';exact hK,rfl⟩
 | true=>
  simp only[ha,cond_true]at *
  cases hb:Nat.ble i.size 16 with
  | true=>
   simp only[hb,cond_true]at *
   obtain⟨vs,hl,hr,_⟩:=Ziz h
   refine Zke vs hl ⟨hr.mono hm,_,fun K hK=>?_,rfl⟩
   obtain⟨vs',hl',hr',hK⟩:=Ziz hK
   rw[ZfM hr hr' (by omega)];exact hK
  | false=>
   simp only[hb,cond_false]at *
   obtain⟨vs,hl,hr,_⟩:=h
   refine⟨vs,hl,hr.mono hm,_,fun K ⟨vs',hl',hr',hK⟩=>?_,rfl⟩
   rw[ZfM hr hr' (by omega)];exact hK
theorem Zlt{i:TI}{x:Box}{off:Nat}:LE (ZcV i x off) (ZcV i x off):=by
 unfold ZcV
 cases i.agg <;> simp only[cond_true,cond_false]
 ·exact Zqt (fun _=>rfl)
 ·cases(x.full&&(Nat.beq x.cap i.size&&Nat.beq off 0)) <;> simp only[cond_true,cond_false]
  ·exact LC.chk fun _=>LC.ret rfl
  ·exact LC.ret rfl
theorem ZtC{E:Env}{S1 S2:St}(hs:Less S1 S2){m M:Mem}(hm:m.le M){T:TypeId}{x:Operand}:LE (Zge E S1 m T x) (Zge E S2 M T x):=by
 unfold Zge
 cases E.tt T with
 | none=>exact LC.false
 | some i=>
  simp only
  cases he:S1.ev x with
  | none=>exact LC.false
  | some sv=>
   simp only[hs.ev he]
   cases sv with
   | v u=>
    simp only
    cases ZfJ E x with
    | none=>exact LC.chk fun _=>Zpv hm
    | some id=>
     simp only
     cases hx:S1.L id with
     | none=>exact LC.false
     | some bx=>
      simp only[hs.L id bx hx]
      exact LC.chk fun _=>LC.and (fun h=>h) (fun _=>Zlt) (fun h=>Zd7 h)
   | loc id off=>
    simp only
    cases hx:S1.L id with
    | none=>exact LC.false
    | some bx=>simp only[hs.L id bx hx];exact Zlt
   | sl id n c=>exact LC.false
structure OutB (rs:List Nat)(tk:Option Nat)(g:Bool)(m M:Mem)(S1 S2:St)(y1 y2:St×Mem):Prop where
 env1:y1.1.env=S1.env
 env2:y2.1.env=S2.env
 L:∀id,(id∈rs∧y1.1.L id=y2.1.L id)∨(y1.1.L id=S1.L id∧y2.1.L id=S2.L id)
 tok:∀k,(tk=some k∧y1.1.tok k=y2.1.tok k)∨(y1.1.tok k=S1.tok k∧y2.1.tok k=S2.tok k)
 le:y1.2.le y2.2
 same:g=false→y1.2=m∧y2.2=M
 gh2:y2.1.gh=S2.gh
structure Out (rs:List Nat)(tk:Option Nat)(g:Bool)(m M:Mem)(dst:Option Tmp)(S1 S2:St)(y1 y2:St×Mem):Prop where
 env1:∀t sv,dst=some t→y1.1.env t=some sv→y2.1.env t=some sv
 env2:∀t,dst≠some t→y2.1.env t=S2.env t
 L:∀id,(id∈rs∧y1.1.L id=y2.1.L id)∨(y1.1.L id=S1.L id∧y2.1.L id=S2.L id)
 tok:∀k,(tk=some k∧y1.1.tok k=y2.1.tok k)∨(y1.1.tok k=S1.tok k∧y2.1.tok k=S2.tok k)
 le:y1.2.le y2.2
 same:g=false→y1.2=m∧y2.2=M
 gh2:y2.1.gh=S2.gh
section
variable {rs:List Nat} {tk:Option Nat} {g:Bool} {m M:Mem} {S1 S2:St}
theorem Zxe(S:St)(d:Option Tmp)(x:Option SV):(S.put d x).L=S.L:=by cases d <;> rfl
theorem ZuQ(S:St)(d:Option Tmp)(x:Option SV):(S.put d x).tok=S.tok:=by cases d <;> rfl
theorem OutB.put{y1 y2:St×Mem}(h:OutB rs tk g m M S1 S2 y1 y2)(dst:Option Tmp){x1 x2:Option SV}(hx:∀sv,x1=some sv→x2=some sv):Out rs tk g m M dst S1 S2 (y1.1.put dst x1,y1.2) (y2.1.put dst x2,y2.2):=by
 refine⟨?_,?_,by simpa[Zxe]using h.L,by simpa[ZuQ]using h.tok,h.le,h.same,by have:=h.gh2;cases dst <;> exact this⟩
 ·intro t sv ht pQ
  subst ht
  simp[St.put]at *
  exact hx _ pQ
 ·intro t ht
  cases dst with
  | none=>simp[St.put,h.env2]
  | some d=>simp[St.put,Zat (fun e=>ht (by rw[e]):t≠d),h.env2]
theorem OutB.refl(hm:m.le M):OutB rs tk g m M S1 S2 (S1,m) (S2,M):=⟨rfl,rfl,fun _=>.inr ⟨rfl,rfl⟩,fun _=>.inr ⟨rfl,rfl⟩,hm,fun _=>⟨rfl,rfl⟩,rfl⟩
theorem Out.put0(hm:m.le M)(dst:Option Tmp){x1 x2:Option SV}(hx:∀sv,x1=some sv→x2=some sv):Out rs tk g m M dst S1 S2 (S1.put dst x1,m) (S2.put dst x2,M):=
 (OutB.refl (rs:=rs) (tk:=tk) (g:=g) (S1:=S1) (S2:=S2) hm).put dst hx
theorem OutB.setL(hm:m.le M){id:Nat}(cT:id∈rs)(x:Option Box):OutB rs tk g m M S1 S2 (S1.setL id x,m) (S2.setL id x,M):=by
 refine⟨rfl,rfl,fun i=>?_,fun _=>.inr ⟨rfl,rfl⟩,hm,fun _=>⟨rfl,rfl⟩,rfl⟩
 by_cases hi:i=id
 ·subst hi;exact .inl ⟨cT,by simp[St.setL]⟩
 ·exact .inr (by simp[St.setL,Zat hi])
theorem OutB.newL{m' M':Mem}(hm:m'.le M')(hg:g=false→m'=m∧M'=M){id:Nat}(cT:id∈rs)(x:Box):OutB rs tk g m M S1 S2 (S1.newL id x,m') (S2.newL id x,M'):=by
 refine⟨rfl,rfl,fun i=>?_,fun _=>.inr ⟨rfl,rfl⟩,hm,hg,rfl⟩
 by_cases hi:i=id
 ·subst hi;exact .inl ⟨cT,by simp[St.newL]⟩
 ·exact .inr (by simp[St.newL,Zat hi])
end
mutual
theorem Shape.all_intro:∀(s:Shape){k:Value→Prop},(∀v,k v)→s.all k
 | .any,k,h=>by simpa only[Shape.all]using h
 | .int ki,k,h=>by simp only[Shape.all];exact fun n=>h _
 | .bool,k,h=>by simp only[Shape.all];exact fun n=>h _
 | .str,k,h=>by simp only[Shape.all];exact fun n=>h _
 | .slice,k,h=>by simp only[Shape.all];exact fun _ _ _=>h _
 | .agg l,k,h=>by simp only[Shape.all];exact Shape.allL_intro l (fun vs=>h _)
 | .tup l,k,h=>by simp only[Shape.all];exact Shape.allL_intro l (fun vs=>h _)
 | .fn,k,h=>by simp only[Shape.all];exact fun _ _ _=>h _
 | .cells,k,h=>by simp only[Shape.all];exact fun _=>h _
 | .ptr,k,h=>by simp only[Shape.all];exact fun _ _=>h _
theorem Shape.allL_intro:∀(l:List Shape){k:List Value→Prop},(∀v,k v)→Shape.allL l k
 | [],k,h=>by simp only[Shape.allL];exact h _
 | s::l,k,h=>by simp only[Shape.allL];exact Shape.all_intro s (fun v=>Shape.allL_intro l (fun vs=>h _))
end
theorem allL_intro:∀{n:Nat} {k:List (List Value)→Prop},(∀l,l.length=n→k l)→allL n k
 | 0,k,h=>h [] rfl
 | n+1,k,h=>fun cs=>allL_intro (fun l hl=>h (cs::l) (by simp[hl]))
def Env.fixed(E:Env)(f:List Value→Mem→Value→Mem→List (List Value)→Prop):Env:={ E with fix:=some f }
section
variable {rs:List Nat} {tk:Option Nat} {g:Bool} {S1 S2:St} {m M:Mem}
theorem ZrM{E:Env}{f:List Value→Mem→Value→Mem→List (List Value)→Prop}(hs:Less S1 S2)(js:∀id x,S1.L id=some x→id∈rs)(hm:m.le M){T:TypeId}{x:Operand}{v:Value}:
  LC (fun K:St×Mem→Prop=>Zhf (E.fixed f) S1 T x v fun S'=>K (S',m)) (fun K:St×Mem→Prop=>Zhf E S2 T x v fun S'=>K (S',M)) (OutB rs tk g m M S1 S2):=by
 unfold Zhf
 show LC (fun K=>match E.tt T with
  | none=>False
  | some i=>_) _ _
 cases E.tt T with
 | none=>exact LC.false
 | some i=>
  simp only
  cases he:S1.ev x with
  | none=>exact LC.false
  | some sv=>
   simp only[hs.ev he]
   cases sv with
   | loc id off=>
    simp only
    cases hx:S1.L id with
    | none=>exact LC.false
    | some bx=>
     simp only[hs.L id bx hx]
     refine LC.chk fun _=>?_
     cases(bx.full&&(Nat.beq bx.cap i.size&&Nat.beq off 0)) <;> simp only[cond_true,cond_false]
     ·exact LC.chk fun _=>LC.ret (OutB.setL hm (js id bx hx) _)
     ·exact LC.ret (OutB.setL hm (js id bx hx) _)
   | v u=>
    simp only
    show LC (fun K=>match ZfJ E x with
     | none=>False
     | some id=>_) _ _
    cases ZfJ E x with
    | none=>exact LC.false
    | some id=>
     simp only
     cases hx:S1.L id with
     | none=>exact LC.false
     | some bx=>
      simp only[hs.L id bx hx]
      refine LC.chk fun _=>?_
      rintro⟨h1,h2,_⟩
      exact⟨h1,h2,_,fun K hK=>hK.2.2,OutB.setL hm (js id bx hx) _⟩
   | sl id n c=>exact LC.false
theorem ZtD{E:Env}{f:List Value→Mem→Value→Mem→List (List Value)→Prop}(hs:Less S1 S2)(js:∀id x,S1.L id=some x→id∈rs)(hm:m.le M){T:TypeId}{id:Nat}{vd vs:Value}:
  LC (fun K:Int×(St×Mem)→Prop=>Zpb (E.fixed f) S1 m T id vd vs fun n S'=>K (n,(S',m))) (fun K:Int×(St×Mem)→Prop=>Zpb E S2 M T id vd vs fun n S'=>K (n,(S',M))) (fun y1 y2=>y1.1=y2.1∧OutB rs tk g m M S1 S2 y1.2 y2.2∧y1.2.2=m∧y2.2.2=M):=by
 unfold Zpb
 show LC (fun K=>match ZaG E T with
  | none=>False
  | some (e,j)=>_) _ _
 cases ZaG E T with
 | none=>exact LC.false
 | some ej=>
  obtain⟨e,j⟩:=ej
  simp only
  cases hx:S1.L id with
  | none=>exact LC.false
  | some bx=>
   simp only[hs.L id bx hx]
   refine LC.chk fun _=>?_
   intro h uR
   have hf:m.free bx.b:=fun o=>by
    cases he:m bx.b o with
    | none=>rfl
    | some u=>have:=hm _ _ _ he;rw[uR o]at this;cases this
   obtain⟨o,xs,h1,h2,h3,h4,h5,_⟩:=h hf
   refine⟨o,xs,h1,h2,h3,h4,h5.imp_left (fun h=>h.mono hm),(_,(S1.setL id (some { bx with cs:=Zao bx.cs o xs }),m)),fun K hK=>?_,rfl,OutB.setL hm (js id bx hx) _,rfl,rfl⟩
   obtain⟨o',xs',g1,g2,g3,g4,g5,g6⟩:=hK hf
   rw[h1]at g1
   obtain rfl:o=o':=by simpa using g1
   have hl:xs.length=xs'.length:=by rw[h2,g2]
   have eO:∀{as:Option Addr} {ys:List Value} {p:Nat},rowRd m as ys→as=some ⟨bx.b,p,none⟩→ys=[]:=fun {as ys p} hy ha=>by
    rcases hy with hy|⟨b1,o1,mf,hy⟩
    ·exact hy
    ·rw[ha]at mf
     simp only[Option.some.injEq,Addr.mk.injEq,and_true]at mf
     obtain⟨rfl,rfl⟩:=mf
     cases qL:ys with
     | nil=>rfl
     | cons u l=>subst qL;have:=hy 0 u rfl;rw[hf]at this;cases this
   have rj:xs=xs':=by
    rcases h5 with h5|⟨p,hp,h5⟩
    ·rcases g5 with g5|⟨p',hp',g5⟩
     ·exact ZfN h5 g5 hl
     ·have:=eO h5 hp';subst this
      exact(List.eq_nil_of_length_eq_zero hl.symm).symm
    ·rcases g5 with g5|⟨p',hp',g5⟩
     ·have:=eO g5 hp;subst this
      exact List.eq_nil_of_length_eq_zero hl
     ·rw[hp]at hp'
      obtain rfl:p=p':=by simpa using hp'
      apply List.ext_getElem?
      intro i
      by_cases hi:i < xs.length
      ·have e1:=h5 i _ (List.getElem?_eq_getElem hi)
       have e2:=g5 i _ (List.getElem?_eq_getElem (by omega))
       rw[e1]at e2
       rw[List.getElem?_eq_getElem hi,List.getElem?_eq_getElem (by omega)]
       exact e2
      ·rw[List.getElem?_eq_none (by omega),List.getElem?_eq_none (by omega)]
   subst rj
   exact g6
theorem ZhO(hs:Less S1 S2):∀{ids:List Nat} {bxs:List Box},Zbu S1 ids=some bxs→Zbu S2 ids=some bxs
 | [],bxs,h=>h
 | id::l,bxs,h=>by
  simp only[Zbu]at *
  cases hx:S1.L id with
  | none=>simp[hx]at h
  | some x=>
   simp only[hx]at h
   simp only[hs.L id x hx]
   cases hb:Zbu S1 l with
   | none=>simp[hb]at h
   | some xs=>simp only[hb]at h;simp only[ZhO hs hb];exact h
theorem ZtE{E:Env}(hE:E.fix=none){f:List Value→Mem→Value→Mem→List (List Value)→Prop}(hs:Less S1 S2)(js:∀id x,S1.L id=some x→id∈rs)(hm:m.le M){rt:TypeId}{gg:FuncId}{args:List Value}{ids:List Nat}{γ:Value→St→Option SV}:
  LC (fun K:Value×(St×Mem)→Prop=>ZmR (E.fixed f) S1 m rt gg args ids fun v S' m'=>K (v,(S',m'))) (fun K:Value×(St×Mem)→Prop=>ZmR E S2 M rt gg args ids fun v S' m'=>K (v,(S',m'))) (fun y1 y2=>y1.1=y2.1∧OutB rs tk true m M S1 S2 y1.2 y2.2):=by
 intro h
 unfold ZmR at *
 cases hb:Zbu S1 ids with
 | none=>simp[hb]at h
 | some bxs=>
  simp only[hb]at h
  simp only[ZhO hs hb]
  obtain⟨h1,R,h0,ic,eI,_⟩:=Zae h
  have h0':R=f args m:=h0
  obtain⟨bO,cU⟩:=Zcq hb
  simp only[Bool.and_eq_true]at h1
  have eQ:=ZaO h1.2
  refine Zab (by simp[h1.1,h1.2]) ⟨fun v M' css=>∃m',m.le m'∧m'.le M'∧R v m' css,by rw[hE];trivial,ic.frame hm,fun v m' css ⟨_,_,_,hR⟩=>eI _ _ _ hR,?_⟩
  refine Shape.all_intro _ fun v M' hM'=>allL_intro fun css eT ⟨m',g1,g2,hR⟩=>⟨(v,(Zdn S1 ids bxs css,m')),fun K hK=>?_,rfl,?_⟩
  ·obtain⟨_,R',h0'',_,_,bV⟩:=Zae hK
   have h0''':R'=f args m:=h0''
   have uS:R'=R:=by rw[h0''',h0']
   subst uS
   exact Zhy (Shape.all_fits _ _ bV v (eI _ _ _ hR) m' g1) css eT hR
  ·refine⟨by rw[Zdr],by rw[Zdr],fun id=>?_,fun k=>.inr ⟨by rw[Zdr],by rw[Zdr]⟩,g2,fun h=>(by cases h),by rw[Zdr]⟩
   rcases Ze7 (S:=S1) eQ bO eT id with⟨a1,a2⟩|⟨i,x,cs,a1,a2,a3,a4⟩
   ·rcases Ze7 (S:=S2) eQ bO eT id with⟨b1,b2⟩|⟨i',x',cs',b1,b2,b3,b4⟩
    ·exact .inr ⟨a2,b2⟩
    ·exact absurd (List.mem_of_getElem? b1) a1
   ·rcases Ze7 (S:=S2) eQ bO eT id with⟨b1,b2⟩|⟨i',x',cs',b1,b2,b3,b4⟩
    ·exact absurd (List.mem_of_getElem? a1) b1
    ·obtain⟨id',c1,c2⟩:=cU i x a2
     rw[a1]at c1;cases c1
     have hi:=(List.getElem?_eq_some_iff.1 a1).1
     have:i=i':=(List.getElem?_inj hi eQ).1 (by rw[a1,b1])
     subst this
     rw[a2]at b2;rw[a3]at b3;cases b2;cases b3
     exact .inl ⟨js _ _ c2,by rw[a4,b4]⟩
theorem Zpw{E:Env}{f:List Value→Mem→Value→Mem→List (List Value)→Prop}(hm:m.le M){T xT:TypeId}{key:Nat}{vs vx:Value}(gS:tk=some key)(cE:∀k,tk=some k→S1.tok k=S2.tok k):
  LC (fun K:Value×(St×Mem)→Prop=>Zf2 (E.fixed f) S1 m T xT key vs vx fun v t m'=>K (v,({ S1 with tok:=t,tkeys:=key::S1.tkeys },m'))) (fun K:Value×(St×Mem)→Prop=>Zf2 E S2 M T xT key vs vx fun v t m'=>K (v,({ S2 with tok:=t,tkeys:=key::S2.tkeys },m'))) (fun y1 y2=>y1.1=y2.1∧OutB rs tk true m M S1 S2 y1.2 y2.2):=by
 unfold Zf2
 show LC (fun K=>match ZaG E T with
  | none=>False
  | some (_,j)=>match ZaG E xT with
   | none=>False
   | some (_,j')=>_) _ _
 cases ZaG E T with
 | none=>exact LC.false
 | some ej=>
  cases ZaG E xT with
  | none=>exact LC.false
  | some ej'=>
   simp only
   refine LC.chk fun _=>?_
   have lp:LC (fun K:Value×(St×Mem)→Prop=>ZvJ (E.fixed f) S1 m ej.2 key vs vx fun v t m'=>K (v,({ S1 with tok:=t,tkeys:=key::S1.tkeys },m'))) (fun K:Value×(St×Mem)→Prop=>ZvJ E S2 M ej.2 key vs vx fun v t m'=>K (v,({ S2 with tok:=t,tkeys:=key::S2.tkeys },m'))) (fun y1 y2=>y1.1=y2.1∧OutB rs tk true m M S1 S2 y1.2 y2.2):=?body
   case body=>
    unfold ZvJ
    rintro⟨ht,xs,ys,a1,a2,a3,a4,a5,a6,a7,_⟩
    rw[cE key gS]at ht
    refine⟨ht,xs,ys,a1,a2,a3.mono hm,a4.mono hm,a5,a6,a7,fun a' c' M' hM' hr=>?_⟩
    refine Zrw fun nZ cX=>⟨(.slice a' (slN vs+slN vx) c',({ S1 with tok:=(fun k=>bif Nat.beq k key then some ⟨.slice a' (slN vs+slN vx) c',ej.2.size⟩ else S1.tok k),tkeys:=key::S1.tkeys },M')),fun K hK=>?_,rfl,⟨rfl,rfl,fun _=>.inr ⟨rfl,rfl⟩,fun k=>?_,Mem.le_refl _,fun h=>(by cases h),rfl⟩⟩
    ·obtain⟨_,xs',ys',b1,b2,b3,b4,_,_,_,b8⟩:=hK
     rw[ZfN a3 b3 (by omega),ZfN a4 b4 (by omega)]at hr
     exact Zmd (b8 a' c' M' (Mem.le_trans hm hM') hr) (fun ht=>(nZ ht).mono hm) cX
    ·by_cases hk:k=key
     ·subst hk;exact .inl ⟨gS,by simp⟩
     ·exact .inr (by simp[Zat hk])
   show LC (fun K=>bif E.tails then br (Nat.beq (slN vx) 0) (chk (Nat.ble (slN vs) (slC vs)) _) _ else _) (fun K=>bif E.tails then br (Nat.beq (slN vx) 0) (chk (Nat.ble (slN vs) (slC vs)) _) _ else _) _
   cases E.tails with
   | false=>exact lp
   | true=>
    refine LC.br (LC.chk fun _=>LC.ret ⟨rfl,⟨rfl,rfl,fun _=>.inr ⟨rfl,rfl⟩,fun k=>?_,hm,fun h=>(by cases h),rfl⟩⟩) lp
    by_cases hk:k=key
    ·subst hk;exact .inl ⟨gS,cE k gS⟩
    ·exact .inr ⟨rfl,rfl⟩
end
end Go.Eng
namespace Go.Eng
open Go Go.RowKit
theorem Mem.add_le{m M:Mem}(h:m.le M)(b:Nat)(cs:List Value):(m.add b cs).le (M.add b cs):=fun b' o v hv=>by
 by_cases hb:b'=b
 ·subst hb;rw[Mem.add_same]at hv ⊢;exact hv
 ·rw[Mem.add_other _ hb]at hv ⊢;exact h _ _ _ hv
theorem Zjz{S1 S2:St}(hs:Less S1 S2):∀{l:List Operand} {k:List Value→Prop},wvs S1 l k→Zds S1 l=Zds S2 l
 | [],k,h=>rfl
 | x::l,k,h=>by
  obtain⟨v,hv,h⟩:=ZaJ h
  have ih:=Zjz hs h
  unfold St.val at hv
  cases he:S1.ev x with
  | none=>simp[he]at hv
  | some sv=>
   simp only[Zds,he,hs.ev he,ih]
   cases sv with
   | loc id off=>
    simp only[he,St.den]at hv
    cases hx:S1.L id with
    | none=>simp[hx]at hv
    | some x=>simp only[hx,hs.L id x hx]
   | _=>rfl
def ZtF(E:Env)(rs:List Nat)(tk:Option Nat)(o:Oper):Bool:=match o.op with
 | .alloc _=>(match o.dst with
  | some d=>rs.any (Nat.beq d ·)
  | none=>false)
 | .box _ _=>(match o.dst with
  | some d=>rs.any (Nat.beq d ·)
  | none=>false)
 | .buildSlice _ _ _=>(match o.dst with
  | some d=>rs.any (Nat.beq d ·)
  | none=>false)
 | .makeSlice _ _ _=>(match o.dst with
  | some d=>rs.any (Nat.beq d ·)
  | none=>false)
 | .call c=>(match c.callee with
  | .builtin .append=>(match o.dst,tk with
   | some d,some k=>Nat.beq (E.tokOf d) k
   | _,_=>false)
  | _=>(Ze8 E o.dst).isNone)
 | .store _ x _=>(match Znl E x with
  | none=>true
  | some _=>false)
 | _=>true
theorem Zlu{E:Env}{rs:List Nat}{tk:Option Nat}{o:Oper}(h:ZtF E rs tk o=true):Znv E o:=by
 refine⟨fun T x y e=>?_,fun f as ats e=>?_⟩
 ·unfold ZtF at h
  rw[e]at h
  cases hs:Znl E x with
  | none=>rfl
  | some k=>simp[hs]at h
 ·unfold ZtF at h
  rw[e]at h
  simpa using h
def ZnF(rs:List Nat)(o:Oper):List Nat:=match o.op with
 | .alloc _=>dl o.dst
 | .box _ _=>dl o.dst
 | .buildSlice _ _ _=>dl o.dst
 | .makeSlice _ _ _=>dl o.dst
 | .store _ _ _=>rs
 | .call c=>(match c.callee with
  | .value _=>rs
  | .builtin .copy=>rs
  | _=>[])
 | _=>[]
def Zeq(o:Oper):Bool:=match o.op with
 | .buildSlice _ _ _=>true
 | .call c=>(match c.callee with
  | .value _=>true
  | .builtin .append=>true
  | _=>false)
 | _=>false
section
variable {rs:List Nat} {tk:Option Nat} {S1 S2:St} {m M:Mem}
theorem Zwi{E:Env}(w:World)(hE:E.fix=none){f:List Value→Mem→Value→Mem→List (List Value)→Prop}(hs:Less S1 S2)(js:∀id x,S1.L id=some x→id∈rs)(hL:∀id∈rs,S1.L id=S2.L id)
  (cE:∀k,tk=some k→S1.tok k=S2.tok k) (hm:m.le M) {o:Oper} (jl:ZtF E rs tk o=true):
  LC (fun K:St×Mem→Prop=>opW (E.fixed f) S1 m o fun S' m'=>K (S',m')) (fun K:St×Mem→Prop=>opW E S2 M o fun S' m'=>K (S',m')) (Out (ZnF rs o) tk (Zeq o) m M o.dst S1 S2):=by
 have fT:∀(rs:List Nat)(g:Bool)(o:Oper),LC (fun K:St×Mem→Prop=>Zdm (E.fixed f) S1 o fun sv=>K (S1.put o.dst (some sv),m)) (fun K:St×Mem→Prop=>Zdm E S2 o fun sv=>K (S2.put o.dst (some sv),M)) (Out rs tk g m M o.dst S1 S2):=fun rs g o=>by
  refine LC.map (f:=fun sv=>(S1.put o.dst (some sv),m)) (g:=fun sv=>(S2.put o.dst (some sv),M)) (ρ:=Eq) (T1:=fun K=>Zdm (E.fixed f) S1 o K) (T2:=fun K=>Zdm E S2 o K) ?_ ?_ ?_
  ·exact(ZtB w hs:LE (Zdm E S1 o) (Zdm E S2 o))
  ·rintro a b rfl
   exact Out.put0 hm _ (fun sv h=>h)
  ·exact fun h=>Zln h
 obtain⟨dst,op,type,pos,after,guard⟩:=o
 have i6:∀(rs:List Nat)(g:Bool)(x:Operand),LC (fun K:St×Mem→Prop=>K (S1.put dst (S1.ev x),m)) (fun K:St×Mem→Prop=>K (S2.put dst (S2.ev x),M)) (Out rs tk g m M dst S1 S2):=fun rs g x=>LC.ret (Out.put0 hm _ (fun sv h=>hs.ev h))
 have cZ:∀{g:Bool} {d:Nat} {x:Box} {sv:SV},Out [d] tk g m M (some d) S1 S2 ((S1.newL d x).put (some d) (some sv),m) ((S2.newL d x).put (some d) (some sv),M):=fun {g d x sv}=>(OutB.newL hm (fun _=>⟨rfl,rfl⟩) (by simp) x).put (some d) (fun sv h=>h)
 cases op with
 | move x=>exact i6 _ _ x
 | assign x=>exact i6 _ _ x
 | pick c x y=>exact Zdo hs fun v=>LC.chk fun _=>LC.br (i6 _ _ x) (i6 _ _ y)
 | load T x=>
  have hq:Zqn (E.fixed f) dst=Zqn E dst:=rfl
  simp only[opW,hq]
  cases l8:Zqn E dst with
  | some y=>exact LC.false
  | none=>
  refine LC.map (f:=fun v=>(S1.put dst (some (.v v)),m)) (g:=fun v=>(S2.put dst (some (.v v)),M)) (ρ:=Eq) (T1:=fun K=>Zge (E.fixed f) S1 m T x K) (T2:=fun K=>Zge E S2 M T x K) ?_ ?_ ?_
  ·exact(ZtC hs hm:LE (Zge E S1 m T x) (Zge E S2 M T x))
  ·rintro a b rfl
   exact Out.put0 hm _ (fun sv h=>h)
  ·exact fun h=>Zgh h
 | store T x y=>
  refine Zdo hs fun v=>?_
  show LC (fun K=>match Znl E x with
   | none=>_
   | some key=>bif (E.fixed f).fix.isSome then False else _) (fun K=>match Znl E x with
   | none=>_
   | some key=>_) _
  cases Znl E x with
  | some key=>exact LC.false
  | none=>
  refine LC.map (f:=fun y:St×Mem=>(y.1.put dst none,m)) (g:=fun y:St×Mem=>(y.1.put dst none,M)) (ρ:=fun y1 y2=>OutB rs tk false m M S1 S2 y1 y2∧y1.2=m∧y2.2=M) ?_ ?_ ?_ (T1:=fun K=>Zhf (E.fixed f) S1 T x v fun S'=>K (S',m)) (T2:=fun K=>Zhf E S2 T x v fun S'=>K (S',M))
  ·exact fun h=>ZgT (fun S' _ ⟨y1,g1,g2⟩=>⟨(y1.1,m),fun K hK=>g1 (fun y=>K (y.1,m)) hK,⟨g2.env1,g2.env2,g2.L,g2.tok,hm,fun _=>⟨rfl,rfl⟩,g2.gh2⟩,rfl,rfl⟩) (ZrM (tk:=tk) (rs:=rs) (g:=false) hs js hm h)
  ·rintro a b ⟨h1,h2,h3⟩
   have:=h1.put dst (x1:=none) (x2:=none) (fun sv h=>h)
   rw[h2,h3]at this;exact this
  ·exact fun h=>ZgT (fun S' _=>h _)
 | alloc T=>
  simp only[opW,Zrv,ZtF]at *
  cases dst with
  | none=>exact LC.false
  | some d=>
   simp only
   show LC (fun K=>match E.tt T with
    | none=>False
    | some i=>_) _ _
   cases E.tt T with
   | none=>exact LC.false
   | some i=>
    simp only at jl ⊢
    rw[hL d (Zf4.1 jl)]
    cases hx:S2.L d with
    | some x=>exact LC.false
    | none=>exact fun _ b=>⟨_,fun K hK=>hK b,cZ⟩
 | box T x=>
  refine Zdo hs fun v=>?_
  show LC (fun K=>bif ZgL E dst then(bif (E.fixed f).fix.isSome then False else _)else _) (fun K=>bif ZgL E dst then _ else _) _
  cases iE:ZgL E dst with
  | true=>exact LC.false
  | false=>
  simp only[cond_false]
  simp only[Zxa,ZtF]at *
  cases dst with
  | none=>exact LC.false
  | some d=>
   simp only
   show LC (fun K=>match E.tt T with
    | none=>False
    | some i=>_) _ _
   cases E.tt T with
   | none=>exact LC.false
   | some i=>
    simp only at jl ⊢
    rw[hL d (Zf4.1 jl)]
    cases hx:S2.L d with
    | some x=>exact LC.false
    | none=>exact LC.chk fun _ _ b=>⟨_,fun K hK=>hK b,cZ⟩
 | buildSlice T len parts=>
  simp only[opW]
  have hq:ZdE (E.fixed f) dst=ZdE E dst:=rfl
  simp only[hq]
  cases iN:ZdE E dst with
  | some ke=>exact LC.false
  | none=>
  simp only[Ze9,ZtF]at *
  cases dst with
  | none=>exact LC.false
  | some d=>
   simp only
   show LC (fun K=>match E.tt T with
    | none=>False
    | some t=>match t.d with
     | .slice e=>match E.tt e with
      | none=>False
      | some i=>_
     | _=>False) _ _
   cases E.tt T with
   | none=>exact LC.false
   | some t=>
    simp only
    cases t.d <;> simp only <;> try exact LC.false
    rename_i e
    cases E.tt e with
    | none=>exact LC.false
    | some i=>
     simp only at jl ⊢
     rw[hL d (Zf4.1 jl)]
     cases hx:S2.L d with
     | some x=>exact LC.false
     | none=>
      refine LC.chk fun _=>ZnE hs fun vs=>LC.chk fun _ _ b hb=>⟨_,fun K hK=>hK b ?_,?_⟩
      ·intro o
       cases he:m b o with
       | none=>rfl
       | some v=>have:=hm _ _ _ he;rw[hb o]at this;cases this
      ·exact(OutB.newL (Mem.add_le hm b (ZbZ vs)) (fun h=>by cases h) (by simp[ZnF,dl]) _).put (some d) (fun sv h=>h)
 | makeSlice T l c=>
  have hq:ZdE (E.fixed f) dst=ZdE E dst:=rfl
  simp only[opW,hq]
  have iD:ZsV (E.fixed f) dst=ZsV E dst:=rfl
  cases iN:ZdE E dst with
  | some ke=>exact LC.false
  | none=>
  simp only[iD]
  cases lk:ZsV E dst with
  | true=>exact LC.false
  | false=>
  simp only[cond_false]
  simp only[Zur,ZtF]at *
  cases dst with
  | none=>exact LC.false
  | some d=>
   simp only
   show LC (fun K=>match ZaG E T with
    | none=>False
    | some (e,j)=>_) _ _
   cases ZaG E T with
   | none=>exact LC.false
   | some ej=>
    simp only at jl ⊢
    rw[hL d (Zf4.1 jl)]
    cases hx:S2.L d with
    | some x=>exact LC.false
    | none=>exact Zdo hs fun v=>Zdo hs fun v'=>LC.chk fun _ ⟨h1,_⟩=>⟨h1,fun b=>⟨_,fun K hK=>hK.2 b,cZ⟩⟩
 | convert s d x=>
  simp only[opW]
  show LC (fun K=>bif ZgR E s d then _ else _) _ _
  cases ZgR E s d with
  | false=>
   simp only[cond_false]
   show LC (fun K=>bif Zdg E s d then _ else _) _ _
   cases Zdg E s d with
   | false=>
    simp only[cond_false]
    show LC (fun K=>bif Zdh E s d then _ else _) _ _
    cases Zdh E s d with
    | false=>exact fT _ _ ⟨dst,.convert s d x,type,pos,after,guard⟩
    | true=>exact LC.false
   | true=>exact LC.false
  | true=>
   simp only[cond_true]
   cases he:S1.ev x with
   | none=>exact LC.false
   | some sv=>
    simp only[hs.ev he]
    cases sv <;> first
     | exact LC.false
     | exact LC.ret (Out.put0 hm _ (fun sv h=>h))
 | call c=>
  obtain⟨callee,args,argTypes⟩:=c
  cases callee with
  | value g=>
   simp only[opW,ZuB]
   show LC (fun K=>match Zep E dst with
    | []=>_
    | ids=>bif (E.fixed f).fix.isSome then False else _) (fun K=>match Zep E dst with
    | []=>_
    | ids=>_) _
   cases j4:Zep E dst with
   | cons i l=>exact LC.false
   | nil=>
   simp only[Zuq]
   have iU:Ze8 E dst=none:=(Zlu jl).2 _ _ _ rfl
   have rk:Ze8 (E.fixed f) dst=none:=iU
   cases he:S1.ev g with
   | none=>exact LC.false
   | some sv=>
    simp only[hs.ev he]
    cases sv with
    | loc id off=>exact LC.false
    | sl id n c=>exact LC.false
    | v u=>
     cases u <;> try exact LC.false
     rename_i fv first captured
     cases fv <;> try exact LC.false
     rename_i gg
     have j0:ZsR (E.fixed f) dst=ZsR E dst:=rfl
     simp only[j0,iU,rk]
     cases nf:ZsR E dst with
     | true=>exact LC.false
     | false=>
     simp only[cond_false]
     have hq:ZdE (E.fixed f) dst=ZdE E dst:=rfl
     simp only[hq]
     cases iN:ZdE E dst with
     | some ke=>exact LC.false
     | none=>
     intro h
     have rm:=Zjz hs h
     revert h
     rw[←rm]
     show LC (fun K:St×Mem→Prop=>wvs S1 args.toList fun vs=>ZmR (E.fixed f) S1 m type gg (first.toList++vs++captured.toList) (Zds S1 args.toList++ZdZ E dst) fun v S' m'=>K (S'.put dst (some (SV.v v)),m'))
      (fun K:St×Mem→Prop=>wvs S2 args.toList fun vs=>ZmR E S2 M type gg (first.toList++vs++captured.toList) (Zds S1 args.toList++ZdZ E dst) fun v S' m'=>K (S'.put dst (some (SV.v v)),m')) _
     refine ZnE hs fun vs=>?_
     refine LC.map (f:=fun y:Value×(St×Mem)=>(y.2.1.put dst (some (.v y.1)),y.2.2)) (g:=fun y:Value×(St×Mem)=>(y.2.1.put dst (some (.v y.1)),y.2.2)) (ZtE (rs:=rs) (tk:=tk) (γ:=fun _ _=>none) hE (f:=f) hs js hm) ?_ ?_
     ·rintro⟨v1,y1⟩ ⟨v2,y2⟩ ⟨rfl,h2⟩
      exact h2.put dst (fun sv h=>h)
     ·exact fun h=>Zlp (fun v S' m' _ _=>h _)
  | invoke r mm=>
   simp only[opW]
   exact fT _ _ ⟨dst,_,type,pos,after,guard⟩
  | builtin b=>
   cases b with
   | append=>
    simp only[opW,ZtF]at *
    split
    ·rename_i s x T xT d _ _
     cases gS:tk with
     | none=>simp[gS]at jl
     | some key=>
      simp only[gS]at jl
      obtain rfl:=Nat.eq_of_beq_eq_true jl
      simp only[ZuB]
      show LC (fun K=>match Zep E (some d)with
       | []=>_
       | ids=>bif (E.fixed f).fix.isSome then False else _) (fun K=>match Zep E (some d)with
       | []=>_
       | ids=>_) _
      cases j4:Zep E (some d)with
      | cons i l=>exact LC.false
      | nil=>
      refine Zdo hs fun v=>Zdo hs fun v'=>?_
      have z:=Zpw (E:=E) (rs:=[]) (tk:=some (E.tokOf d)) (key:=E.tokOf d) (S1:=S1) (S2:=S2) (f:=f) (T:=T) (xT:=xT) (vs:=v) (vx:=v') hm rfl (fun k hk=>cE k (gS.trans hk))
      refine LC.map z (f:=fun y:Value×(St×Mem)=>(y.2.1.put (some d) (some (.v y.1)),y.2.2)) (g:=fun y:Value×(St×Mem)=>(y.2.1.put (some d) (some (.v y.1)),y.2.2)) ?_ ?_
      ·rintro⟨v1,y1⟩ ⟨v2,y2⟩ ⟨rfl,h2⟩
       exact h2.put (some d) (fun sv h=>h)
      ·exact fun h=>ZhL (fun v t m' _=>h _)
    ·exact LC.false
   | copy=>
    simp only[opW,ZtF]at *
    split
    ·rename_i d s T xT _ _
     have hq:ZfJ (E.fixed f) d=ZfJ E d:=rfl
     simp only[hq]
     cases ZfJ E d with
     | none=>exact LC.false
     | some id=>
      refine Zdo hs fun v=>Zdo hs fun v'=>?_
      have z:=ZtD (E:=E) (rs:=rs) (tk:=tk) (g:=false) (S1:=S1) (S2:=S2) (f:=f) (T:=T) (id:=id) (vd:=v) (vs:=v') hs js hm
      refine LC.map z (f:=fun y:Int×(St×Mem)=>(y.2.1.put dst (some (.v (.int .i64 y.1))),m)) (g:=fun y:Int×(St×Mem)=>(y.2.1.put dst (some (.v (.int .i64 y.1))),M)) ?_ ?_
      ·rintro⟨n1,y1⟩ ⟨n2,y2⟩ ⟨rfl,h2,h3,h4⟩
       have:=h2.put dst (x1:=some (.v (.int .i64 n1))) (x2:=some (.v (.int .i64 n1))) (fun sv h=>h)
       rw[h3,h4]at this;exact this
      ·exact fun h=>Zlo (fun n S' _=>h _)
    ·exact LC.false
   | _=>
    simp only[opW]
    exact fT _ _ ⟨dst,_,type,pos,after,guard⟩
 | _=>
  simp only[opW]
  exact fT _ _ ⟨dst,_,type,pos,after,guard⟩
theorem Zwj{E:Env}(w:World)(hE:E.fix=none){f:List Value→Mem→Value→Mem→List (List Value)→Prop}(hs:Less S1 S2)(js:∀id x,S1.L id=some x→id∈rs)(hL:∀id∈rs,S1.L id=S2.L id)
  (cE:∀k,tk=some k→S1.tok k=S2.tok k) (hm:m.le M) {ops:Array Oper} {o:Oper} (jl:ZtF E rs tk o=true):
  LC (fun K:St×Mem→Prop=>opG (E.fixed f) ops o S1 m fun S' m'=>K (S',m')) (fun K:St×Mem→Prop=>opG E ops o S2 M fun S' m'=>K (S',m')) (Out (ZnF rs o) tk (Zeq o) m M o.dst S1 S2):=by
 have h1:=Zwi w hE (f:=f) hs js hL cE hm jl
 have h0:LC (fun K:St×Mem→Prop=>K (S1.put o.dst (some (.v undef)),m)) (fun K:St×Mem→Prop=>K (S2.put o.dst (some (.v undef)),M)) (Out (ZnF rs o) tk (Zeq o) m M o.dst S1 S2):=LC.ret (Out.put0 hm _ (fun sv h=>h))
 unfold opG
 cases hg:o.guard with
 | none=>exact h1
 | some jw=>
  obtain⟨j,want⟩:=jw
  simp only
  cases ops.toList[j]? with
  | none=>exact LC.false
  | some oj=>
   simp only
   cases oj.dst with
   | none=>exact LC.false
   | some t=>
    simp only
    cases he:S1.env t with
    | none=>exact LC.false
    | some sv=>
     simp only[hs.env t sv he]
     cases sv with
     | loc id off=>exact LC.false
     | sl id n c=>exact LC.false
     | v u=>
      simp only
      cases Zak u with
      | true=>exact h0
      | false=>
       refine LC.chk fun _=>?_
       cases want
       ·exact LC.br h0 h1
       ·exact LC.br h1 h0
end
end Go.Eng
namespace Go.Eng
open Go Go.RowKit
def mem(l:List Nat)(i:Nat):Bool:=l.any (Nat.beq i ·)
theorem Za9{l:List Nat}{i:Nat}:mem l i=true↔i∈l:=Zf4
def ZrN(t:Option Nat)(k:Nat):Bool:=match t with
 | some q=>Nat.beq k q
 | none=>false
theorem Zb0{t:Option Nat}{k:Nat}:ZrN t k=true↔t=some k:=by
 cases t with
 | none=>simp[ZrN]
 | some q=>
  simp only[ZrN,Option.some.injEq]
  exact⟨fun h=>(Nat.eq_of_beq_eq_true h).symm,fun h=>by subst h;exact Nat.beq_refl _⟩
def Zgm(o:Oper)(t:Nat):Bool:=ZrN o.dst t
def Zpx(ops:Array Oper)(d:DOp)(o:Oper)(S:St):St:=
 {env:=fun t=>bif mem (o.looksAt ops) t then S.env t else none
  L:=fun id=>bif mem d.rs id then S.L id else none
  ids:=S.ids
  tok:=fun k=>bif ZrN d.tk k then S.tok k else none
  tkeys:=S.tkeys
  gh:=S.gh }
def ZnG(d:DOp)(o:Oper)(S S':St):St:=
 {env:=fun t=>bif Zgm o t then S'.env t else S.env t
  L:=fun id=>bif mem d.ws id then S'.L id else S.L id
  ids:=S.ids
  tok:=fun k=>bif ZrN d.tk k then S'.tok k else S.tok k
  tkeys:=S.tkeys
  gh:=S.gh }
def upd(μ:Nat→Mem)(i:Nat)(m:Mem):Nat→Mem:=fun j=>bif Nat.beq j i then m else μ j
def Zpc(μ:Nat→Mem)(M:Mem):List Nat→Prop→Prop
 | [],p=>p
 | j::l,p=>(μ j).le M→Zpc μ M l p
def Zqw(μ:Nat→Mem)(m0:Mem):List Nat→(Mem→Prop)→Prop
 | [],k=>k m0
 | [j],k=>k (μ j)
 | l,k=>∀V:Mem,m0.le V→Zpc μ V l (k V)
abbrev Fx:=Nat→List Value→Mem→Value→Mem→List (List Value)→Prop
def ZsO(E:Env)(ops:Array Oper)(m0:Mem)(f:Fx)(d:DOp)(S:St)(μ:Nat→Mem)(K:St→Mem→Prop):Prop:=match ops.toList[d.i]? with
 | none=>False
 | some o=>Zqw μ m0 d.vw fun V=>opG (E.fixed (f d.i)) ops o (Zpx ops d o S) V K
def Zpy(ops:Array Oper)(d:DOp)(S S':St):St:=match ops.toList[d.i]? with
 | none=>S
 | some o=>ZnG d o S S'
def Zkt(E:Env)(ops:Array Oper)(m0:Mem)(f:Fx)(d:DOp)(S:St)(μ:Nat→Mem)(K:St→(Nat→Mem)→Prop):Prop:=
 ZsO E ops m0 f d S μ fun S' m'=>K (Zpy ops d S S') (upd μ d.i m')
def ZiZ(E:Env)(ops:Array Oper)(m0:Mem)(f:Fx):List DOp→(St→(Nat→Mem)→Prop)→St→(Nat→Mem)→Prop
 | [],K,S,μ=>K S μ
 | d::r,K,S,μ=>Zkt E ops m0 f d S μ (ZiZ E ops m0 f r K)
def ZvX(ops:Array Oper)(d:DOp):Option Nat:=match ops.toList[d.i]? with
 | none=>none
 | some o=>Zgf ops o
def Zi0(E:Env)(ops:Array Oper)(m0:Mem)(f:Fx):List DOp→(St→(Nat→Mem)→Prop)→St→(Nat→Mem)→Prop
 | [],K,S,μ=>K S μ
 | d::r,K,S,μ=>match ZvX ops d with
  | none=>Zkt E ops m0 f d S μ (Zi0 E ops m0 f r K)
  | some t=>match S.env t with
   | some (.v v)=>bif Zak v then Zkt E ops m0 f d S μ (Zi0 E ops m0 f r K)else chk (Zad v) (br (Zac v) (Zkt E ops m0 f d (S.put (some t) (some (.v (.bool true)))) μ (Zi0 E ops m0 f r K)) (Zkt E ops m0 f d (S.put (some t) (some (.v (.bool false)))) μ (Zi0 E ops m0 f r K)))
   | _=>False
def ZvY(m0:Mem)(μ:Nat→Mem):List Nat→(Mem→Prop)→Prop
 | [],k=>k m0
 | l,k=>∀M:Mem,m0.le M→Zpc μ M l (k M)
def Zi1(ops:Array Oper):List DOp→List Nat
 | []=>[]
 | d::r=>match ops.toList[d.i]? with
  | none=>Zi1 ops r
  | some o=>bif Zeq o then d.i::Zi1 ops r else Zi1 ops r
def ZuR:List DOp→List Nat
 | []=>[]
 | d::r=>d.ws++ZuR r
def Zuv:List DOp→List Nat
 | []=>[]
 | d::r=>match d.tk with
  | none=>Zuv r
  | some k=>k::Zuv r
def Zku(ds:List DOp)(S:St):St:={ S with ids:=ZuR ds++S.ids,tkeys:=Zuv ds++S.tkeys }
def Zxf(a b:List Nat):Bool:=a.all fun i=>!mem b i
def Zw5(a b:List Nat):Bool:=a.all fun i=>mem b i
def ZnH(o:Oper)(l:List Nat):Bool:=match o.dst with
 | none=>true
 | some t=>!mem l t
def ZvZ(a b:Oper):Bool:=match a.dst with
 | none=>true
 | some t=>!Zgm b t
def Zxx(a b:Option Nat):Bool:=match a with
 | none=>true
 | some k=>!ZrN b k
def Zqx(ops:Array Oper)(c d:DOp):Bool:=match ops.toList[c.i]?,ops.toList[d.i]? with
 | some oc,some od=>(ZnH oc (od.looksAt ops)&&ZnH od (oc.looksAt ops)&&ZvZ oc od)&&(Zxf c.ws d.rs&&Zxf d.ws c.rs&&Zxx c.tk d.tk)&&(!mem d.vw c.i&&!mem c.vw d.i&&!Nat.beq c.i d.i)
 | _,_=>false
def Zbv(o:Oper):List Nat:=(o.after.toList.filter (Region.binds .any ·)).map (·.on)
def ZwE:List DOp→Nat→List Nat
 | [],_=>[]
 | d::r,i=>bif Nat.beq d.i i then d.an else ZwE r i
def Zv0(E:Env)(ops:Array Oper)(d:DOp)(before:List DOp):Bool:=match ops.toList[d.i]? with
 | none=>false
 | some o=>(ZtF E d.rs d.tk o&&Zw5 (ZnF d.rs o) d.ws&&Zw5 d.ws d.rs)&&(Zw5 d.vw d.an&&Zw5 (Zbv o) (before.map (·.i))) &&
   (d.an.all fun j=>mem (Zbv o) j||(Zbv o).any fun p=>mem (ZwE before p) j)&&(before.all fun c=>mem d.an c.i||Zqx ops c d)&&(before.all fun c=>!Nat.beq c.i d.i)
def Zi5(E:Env)(ops:Array Oper):List DOp→List DOp→Bool
 | [],_=>true
 | d::r,before=>Zv0 E ops d before&&Zi5 E ops r (d::before)
def ZuS(E:Env)(ops:Array Oper)(ds:List DOp)(n:Nat):Bool:=(List.range n).all (fun i=>ds.any fun d=>Nat.beq d.i i)&&Nat.ble ds.length ops.size&&Zi5 E ops ds []&&E.fix.isNone
def Zs0:List Oper→Bool
 | []=>false
 | o::l=>(match o.op with
  | .call c=>(match c.callee with
   | .value _=>true
   | _=>false)
  | _=>false)||Zs0 l
def ZxV:Fx:=fun _ _ _ _ _ _=>True
def exF(b:Bool)(p:Fx→Prop):Prop:=match b with
 | true=>∃f,p f
 | false=>p ZxV
theorem ZtG{b:Bool}{p:Fx→Prop}(h:exF b p):∃f,p f:=by
 cases b
 ·exact⟨_,h⟩
 ·exact h
theorem ZtH{b:Bool}{p q:Fx→Prop}(h:∀f,p f→q f)(x:exF b p):exF b q:=by
 cases b
 ·exact h _ x
 ·obtain⟨f,x⟩:=x;exact⟨f,h f x⟩
def ZuT(ops:Array Oper)(ds:List DOp)(k:Nat):Bool:=(Nat.ble k ops.size&&(List.range k).all fun j=>match ops.toList[ops.size - k+j]? with
 | none=>false
 | some o=>(List.range j).all (fun i=>mem (Zbv o) (ops.size - k+i))&&((Zbv o).all (fun i=>Nat.ble (i+1) (ops.size - k+j))&&(bif Nat.beq j 0 then(List.range (ops.size - k)).all (fun i=>mem (Zbv o) i||(Zbv o).any fun p=>mem (ZwE ds p) i)else true)))&&ds.all fun d=>Nat.ble (d.i+1) (ops.size - k)
def ZjA(E:Env)(ops:Array Oper)(K:St→Mem→Prop):List Oper→St→Mem→Prop
 | [],S,m=>K S m
 | o::r,S,m=>Zwf E ops o S m (ZjA E ops K r)
def ZrO(E:Env)(ops:Array Oper)(k:Nat)(K:St→Mem→Prop)(S:St)(m:Mem):Prop:=ZjA E ops K (ops.toList.drop (ops.size - k)) S m
def Zs1(E:Env)(S:St)(ids:List Nat)(T:TypeId)(x:Operand)(k:Value→Prop):Prop:=match E.tt T with
 | none=>False
 | some i=>match S.ev x with
  | some (.loc id off)=>match S.L id with
   | none=>False
   | some bx=>chk (!mem ids id) (ZcV i bx off k)
  | some (.v v)=>match E.m0 with
   | none=>False
   | some m0=>chk (ZeM v&&(ZfJ E x).isNone) (Zdq i m0 (Zm9 v) (Zl7 v) k)
  | _=>False
def Zmp(E:Env)(S:St)(ids:List Nat):List Oper→St→(St→Prop)→Prop
 | [],S1,k=>k S1
 | o::r,S1,k=>match o.op with
  | .load T x=>Zs1 E S ids T x fun v=>Zmp E S ids r (S1.put o.dst (some (.v v))) k
  | _=>False
def ZrP{α:Type}:List α→Bool
 | []=>true
 | _=>false
def ZnI(l:List Nat):Operand→Bool
 | .tmp t=>!mem l t
 | _=>true
def ZwF:Operand→Bool
 | .func _=>true
 | _=>false
def Zs2(E:Env)(ops:Array Oper)(o:Oper):Bool:=o.guard.isNone&&(ZrP (Zbv o)&&(match o.op with
 | .load _ x=>(Zqn E o.dst).isNone&&(o.dst.isSome&&ZnI (Zaw ops.toList) x)
 | _=>false))
def ZnJ(E:Env)(ops:Array Oper)(c:Nat)(lds:List Oper)(o:Oper):Bool:=o.guard.isNone&&(match o.op with
 | .call q=>(match q.callee with
  | .value f=>(Ze8 E o.dst).isSome&&(ZrP (Zep E o.dst)&&(o.dst.isSome&&(ZnH o (Zaw lds)&&(ZwF f &&
    ((List.range c).all fun j=>mem (Zbv o) j||match ops.toList[j]? with
     | none=>false
     | some oj=>match oj.dst with
      | none=>false
      | some t=>q.args.toList.all (ZnI [t]))))))&&(Zbv o).all fun j=>Nat.ble (j+1) c
  | _=>false)
 | _=>false)
def Zv1(E:Env)(ops:Array Oper)(k:Nat):Bool:=
 (Nat.ble k ops.size&&(Nat.ble 1 k&&E.thaw))&&((ops.toList.take (ops.size - k)).all (Zs2 E ops)&&(Zbl (Zaw (ops.toList.take (ops.size - k))) &&
  ((match ops.toList[ops.size - k]? with
   | none=>false
   | some o=>ZnJ E ops (ops.size - k) (ops.toList.take (ops.size - k)) o) &&
  (List.range k).all fun j=>bif Nat.beq j 0 then true else match ops.toList[ops.size - k+j]?,ops.toList[ops.size - k]? with
   | some o,some oc=>(List.range j).all (fun i=>mem (Zbv o) (ops.size - k+i))&&((Zbv o).all (fun i=>Nat.ble (i+1) (ops.size - k+j)) &&
     (bif Nat.beq j 1 then(List.range (ops.size - k)).all (fun i=>mem (Zbv o) i||mem (Zbv oc) i)else true))
   | _,_=>false)))
def ZwG(E:Env)(id:Nat)(ops:Array Oper)(K:St→Mem→Prop)(S:St)(m:Mem):Prop:=
 chk (E.last id&&Zv1 E ops (E.lastK id)) (match ops.toList.drop (ops.size - E.lastK id)with
  | []=>False
  | o::r=>match o.op with
   | .call q=>Zmp E S (ZdZ E o.dst) (ops.toList.take (ops.size - E.lastK id)) S fun S1=>chk (ZrP (Zds S1 q.args.toList)) (opG E ops o S1 m (ZjA E ops K r))
   | _=>False)
def Zkv(E:Env)(id:Nat)(ops:Array Oper)(K:St→Mem→Prop)(S:St)(m:Mem):Prop:=
 bif E.hot id then ZwG E id ops K S m else
 chk (ZuS E ops (E.dr id) (bif E.last id then ops.size - E.lastK id else ops.size)&&(bif E.last id then ZuT ops (E.dr id) (E.lastK id)else true)) (exF (Zs0 ops.toList) fun f=>bif E.gb then Zi0 E ops m f (E.dr id) (fun S' μ=>ZvY m μ (Zi1 ops (E.dr id)) fun M=>bif E.last id then ZrO E ops (E.lastK id) K S' M else K S' M) (Zku (E.dr id) S) (fun _=>m)else ZiZ E ops m f (E.dr id) (fun S' μ=>ZvY m μ (Zi1 ops (E.dr id)) fun M=>bif E.last id then ZrO E ops (E.lastK id) K S' M else K S' M) (Zku (E.dr id) S) (fun _=>m))
def Zw6(S:St)(y:Option SV):Option SV:=match y with
 | some (.loc i off)=>(match S.L i with
  | some x=>some (.v (.pointer (some ⟨x.b,off,none⟩)))
  | none=>none)
 | y=>y
def ptrS(S:St)(ts:List Nat):St:={ S with env:=fun t=>bif mem ts t then Zw6 S (S.env t)else S.env t }
def Zi6(S S':St):List Nat→Prop→Prop
 | [],p=>p
 | t::l,p=>match S.env t with
  | some (.loc i _)=>S'.L i=S.L i∧Zi6 S S' l p
  | some (.v _)=>Zi6 S S' l p
  | _=>False
def ZuU(S S':St)(ts:List Nat):St:={ S' with env:=fun t=>bif mem ts t then S.env t else S'.env t }
def ZwH(ts ds:List Nat)(f:(St→Mem→Prop)→St→Mem→Prop)(K:St→Mem→Prop)(S:St)(m:Mem):Prop:=match ts with
 | []=>f K S m
 | _::_=>chk (Zxf ts ds) (f (fun S' m'=>Zi6 S S' ts (K (ZuU S S' ts) m')) (ptrS S ts) m)
def Mem.cutA(m:Mem)(a:Option Addr)(o:Nat):Mem:=match a with
 | some ⟨b,_,_⟩=>fun b' o'=>if b'=b∧o≤o' then none else m b' o'
 | none=>m
def Mem.addA(m:Mem)(a:Option Addr)(o:Nat)(zs:List Value):Mem:=match a with
 | some ⟨b,o0,_⟩=>m.addAt b (o0+o) zs
 | none=>m
def Zxg(m m0:Mem)(esz:Nat)(a:Option Addr)(n c:Nat):Prop:=
 (a=none∧n=0∧c=0)∨∃b,a=some ⟨b,0,none⟩∧n≤c∧0 < c*esz∧(∀o,o < c*esz→∃v,m b o=some v)∧m0.free b
def Zxh(E:Env)(kz:Option (Nat×Nat))(f:(St→Mem→Prop)→St→Mem→Prop)(K:St→Mem→Prop)(S:St)(m:Mem):Prop:=match kz with
 | none=>f K S m
 | some (key,esz)=>chk (E.thaw&&E.fix.isNone) (match E.m0 with
  | none=>False
  | some m0=>∃(a:Option Addr)(n c:Nat),Zxg m m0 esz a n c∧(∀b,(Tok.mk (.slice a n c) esz).blk=some b→nfz S b S.ids (ntk S b [key] S.tkeys))∧
    f (fun S' m'=>match S'.tok key with
     | none=>False
     | some t=>chk (Ze3 t.v) (∀zs:List Value,zs.length=(slC t.v - slN t.v)*t.esz→K { S' with tok:=fun k=>bif Nat.beq k key then none else S'.tok k } (m'.addA (slA t.v) (slN t.v*t.esz) zs)))
     {S with tok:=fun k=>bif Nat.beq k key then some ⟨.slice a n c,esz⟩ else S.tok k,tkeys:=key::S.tkeys } (m.cutA a (n*esz)))
def Zbe(E:Env)(id:Nat)(ops:Array Oper)(K:St→Mem→Prop)(S:St)(m:Mem):Prop:=ZuB E (some (1000000+id)) S m fun S m=>Zxh E (bif E.last id then E.acq id else none) (ZwH (E.ptrAt id) (Zaw ops.toList) (Zkv E id ops)) K S m
theorem ZiG{μ:Nat→Mem}{M:Mem}{p q:Prop}(h:p→q):∀{l:List Nat},Zpc μ M l p→Zpc μ M l q
 | [],x=>h x
 | j::l,x=>fun y=>ZiG h (x y)
theorem ZiH{μ:Nat→Mem}{M:Mem}{p:Prop}:∀{l:List Nat},Zpc μ M l p→(∀j∈l,(μ j).le M)→p
 | [],x,_=>x
 | j::l,x,h=>ZiH (x (h j (by simp))) (fun i hi=>h i (by simp[hi]))
theorem Zpz{μ:Nat→Mem}{m0:Mem}{k k':Mem→Prop}(h:∀V,k V→k' V):∀{l:List Nat},Zqw μ m0 l k→Zqw μ m0 l k'
 | [],x=>h _ x
 | [j],x=>h _ x
 | i::j::l,x=>fun V hV=>ZiG (h V) (x V hV)
theorem ZpA{μ:Nat→Mem}{m0 A:Mem}{l:List Nat}(h0:m0.le A)(hl:∀j∈l,(μ j).le A):∃V:Mem,V.le A∧∀k:Mem→Prop,Zqw μ m0 l k→k V:=by
 match l with
 | []=>exact⟨m0,h0,fun k x=>x⟩
 | [j]=>exact⟨μ j,hl j (by simp),fun k x=>x⟩
 | i::j::l=>exact⟨A,Mem.le_refl A,fun k x=>ZiH (x A h0) hl⟩
theorem ZrQ{μ:Nat→Mem}{m0:Mem}{i:Nat}{m:Mem}{l:List Nat}(h:i ∉ l)(k:Mem→Prop):Zqw (upd μ i m) m0 l k=Zqw μ m0 l k:=by
 have one:∀{j},j∈l→upd μ i m j=μ j:=fun {j} hj=>by
  have:j≠i:=fun e=>h (e ▸ hj)
  simp[upd,Zat this]
 have all:∀{l':List Nat},(∀j∈l',j∈l)→∀(M:Mem)(p:Prop),Zpc (upd μ i m) M l' p=Zpc μ M l' p:=by
  intro l'
  induction l' with
  | nil=>intro _ M p;rfl
  | cons j l' ih=>
   intro hs M p
   simp only[Zpc]
   rw[one (hs j (by simp)),ih (fun x hx=>hs x (by simp[hx]))]
 match l with
 | []=>rfl
 | [j]=>simp only[Zqw];rw[one (by simp)]
 | a::b::l=>
  simp only[Zqw]
  exact propext ⟨fun x V hV=>by have:=x V hV;rwa [all (fun j hj=>hj)]at this,fun x V hV=>by rw[all (fun j hj=>hj)];exact x V hV⟩
theorem ZrR{m0:Mem}{μ:Nat→Mem}{l:List Nat}{k:Mem→Prop}{A:Mem}(h:ZvY m0 μ l k)(h0:m0.le A)(he:l=[]→A=m0)(hl:∀j∈l,(μ j).le A):k A:=by
 match l with
 | []=>rw[he rfl];exact h
 | i::l=>exact ZiH (h A h0) hl
theorem ZnK{m0:Mem}{μ:Nat→Mem}{l:List Nat}{k k':Mem→Prop}(h:∀M:Mem,m0.le M→k M→k' M)(x:ZvY m0 μ l k):ZvY m0 μ l k':=by
 match l with
 | []=>exact h _ (Mem.le_refl _) x
 | i::l=>exact fun M hM=>ZiG (h M hM) (x M hM)
theorem Zfc{E:Env}{ops:Array Oper}{m0:Mem}{f:Fx}{d:DOp}{S:St}{μ:Nat→Mem}{K K':St→Mem→Prop}(h:∀S' m',K S' m'→K' S' m')(hx:ZsO E ops m0 f d S μ K):ZsO E ops m0 f d S μ K':=by
 unfold ZsO at *
 split at hx
 ·exact hx.elim
 ·exact Zpz (fun V y=>ZgU (th:=true) (.inl rfl) (fun S' m' _ _=>h S' m') y) hx
theorem Zlv{E:Env}{ops:Array Oper}{m0:Mem}{f:Fx}:∀{r:List DOp} {K K':St→(Nat→Mem)→Prop} {S:St} {μ:Nat→Mem},(∀S' μ',SameOut (Zaw ops.toList) S S'→K S' μ'→K' S' μ')→ZiZ E ops m0 f r K S μ→ZiZ E ops m0 f r K' S μ
 | [],K,K',S,μ,h,hx=>h _ _ (SameOut.refl _ S) hx
 | d::r,K,K',S,μ,h,hx=>by
  refine Zfc (fun S' m' y=>Zlv (fun S'' μ'' hs y=>h _ _ (SameOut.trans ?_ hs) y) y) hx
  intro t ht
  unfold Zpy
  cases ho:ops.toList[d.i]? with
  | none=>rfl
  | some o=>
   have:Zgm o t=false:=by
    cases hd:Zgm o t with
    | false=>rfl
    | true=>exact absurd (Zbc ho (Zb0.1 hd)) ht
   simp[ZnG,this]
theorem ZrS{ops:Array Oper}{d:DOp}{S S':St}:SameOut (Zaw ops.toList) S (Zpy ops d S S'):=by
 intro t ht
 unfold Zpy
 cases ho:ops.toList[d.i]? with
 | none=>rfl
 | some o=>
  have:Zgm o t=false:=by
   cases hd:Zgm o t with
   | false=>rfl
   | true=>exact absurd (Zbc ho (Zb0.1 hd)) ht
  simp[ZnG,this]
theorem ZrT{ops:Array Oper}{d:DOp}{t:Nat}(h:ZvX ops d=some t):t∈Zaw ops.toList:=by
 unfold ZvX Zgf at h
 split at h
 ·cases h
 ·split at h
  ·cases h
  ·split at h
   ·cases h
   ·rename_i oj hj
    exact Zbc hj h
theorem Zlw{E:Env}{ops:Array Oper}{m0:Mem}{f:Fx}:∀{r:List DOp} {K K':St→(Nat→Mem)→Prop} {S:St} {μ:Nat→Mem},(∀S' μ',SameOut (Zaw ops.toList) S S'→K S' μ'→K' S' μ')→Zi0 E ops m0 f r K S μ→Zi0 E ops m0 f r K' S μ
 | [],K,K',S,μ,h,hx=>h _ _ (SameOut.refl _ S) hx
 | d::r,K,K',S,μ,h,hx=>by
  have step:∀{S1:St},SameOut (Zaw ops.toList) S S1→Zkt E ops m0 f d S1 μ (Zi0 E ops m0 f r K)→Zkt E ops m0 f d S1 μ (Zi0 E ops m0 f r K'):=fun hs y=>
   Zfc (fun S' m' y=>Zlw (fun S'' μ'' gj y=>h _ _ (SameOut.trans (SameOut.trans hs ZrS) gj) y) y) y
  unfold Zi0 at hx ⊢
  split at hx
  ·exact step (SameOut.refl _ S) hx
  ·rename_i t ht
   have i6:∀x,SameOut (Zaw ops.toList) S (S.put (some t) x):=fun x=>(SameOut.refl _ S).put (fun t' e=>by cases e;exact ZrT ht) x
   split at hx
   ·rename_i v hv
    cases hu:Zak v with
    | true=>simp only[hu,cond_true]at hx ⊢;exact step (SameOut.refl _ S) hx
    | false=>
     simp only[hu,cond_false]at hx ⊢
     refine Zah (fun y=>?_) hx
     cases hb:Zac v with
     | true=>rw[hb]at y;exact step (i6 _) y
     | false=>rw[hb]at y;exact step (i6 _) y
   ·exact hx.elim
theorem Zqy{S:St}{t:Nat}{x:SV}(h:S.env t=some x):S.put (some t) (some x)=S:=by
 cases S with
 | mk env L ids tok tkeys gh=>
  simp only[St.put]
  congr 1
  funext i
  by_cases e:i=t
  ·subst e;simp at h ⊢;exact h.symm
  ·simp[Zat e]
theorem ZjB{E:Env}{ops:Array Oper}{m0:Mem}{f:Fx}:∀{r:List DOp} {K:St→(Nat→Mem)→Prop} {S:St} {μ:Nat→Mem},Zi0 E ops m0 f r K S μ→ZiZ E ops m0 f r K S μ
 | [],K,S,μ,hx=>hx
 | d::r,K,S,μ,hx=>by
  have step:∀{S1:St},Zkt E ops m0 f d S1 μ (Zi0 E ops m0 f r K)→Zkt E ops m0 f d S1 μ (ZiZ E ops m0 f r K):=fun y=>Zfc (fun S' m' y=>ZjB y) y
  unfold Zi0 at hx
  show Zkt E ops m0 f d S μ (ZiZ E ops m0 f r K)
  split at hx
  ·exact step hx
  ·split at hx
   ·rename_i v hv
    cases hu:Zak v with
    | true=>simp only[hu,cond_true]at hx;exact step hx
    | false=>
     simp only[hu,cond_false]at hx
     obtain⟨h1,h2⟩:=Zae hx
     have he:=Zb8 h1
     cases hb:Zac v with
     | true=>
      rw[hb]at he h2
      subst he
      have h3:Zkt E ops m0 f d (S.put (some _) (some (.v (.bool true)))) μ (Zi0 E ops m0 f r K):=h2
      rw[Zqy hv]at h3;exact step h3
     | false=>
      rw[hb]at he h2
      subst he
      have h3:Zkt E ops m0 f d (S.put (some _) (some (.v (.bool false)))) μ (Zi0 E ops m0 f r K):=h2
      rw[Zqy hv]at h3;exact step h3
   ·exact hx.elim
theorem Zlx{E:Env}{id:Nat}{ops:Array Oper}{K K':St→Mem→Prop}{S:St}{m:Mem}(h:∀S' m',SameOut (Zaw ops.toList) S S'→leD E id m m'→K S' m'→K' S' m'){S':St}{M:Mem}(hs:SameOut (Zaw ops.toList) S S')(hM:m.le M)(y:bif E.last id then ZrO E ops (E.lastK id) K S' M else K S' M):bif E.last id then ZrO E ops (E.lastK id) K' S' M else K' S' M:=by
 cases hl:E.last id with
 | false=>
  rw[hl]at y
  exact h _ _ hs (by unfold leD;rw[hl];exact hM) y
 | true=>
  rw[hl]at y
  simp only[cond_true]at y ⊢
  unfold ZrO at y ⊢
  have key:∀(r:List Oper),(∀o∈r,o∈ops.toList)→∀(S':St)(M:Mem),SameOut (Zaw ops.toList) S S'→leT E.thaw m M→ZjA E ops K r S' M→ZjA E ops K' r S' M:=by
   intro r
   induction r with
   | nil=>exact fun _ S' M hs hM y=>h _ _ hs (by unfold leD;rw[hl];exact hM) y
   | cons o r ih=>
    intro hr S' M hs hM y
    simp only[ZjA]at y ⊢
    obtain⟨i,ho⟩:=List.getElem?_of_mem (hr o (by simp))
    exact Zko (fun t ht=>Zbc ho ht) (fun S2 m2 gj bP y=>ih (fun o ho=>hr o (by simp[ho])) _ _ (hs.trans gj) (leT.trans hM bP) y) y
  exact key _ (fun o ho=>List.mem_of_mem_drop ho) _ _ hs (.of hM) y
theorem Zly{E:Env}{ops:Array Oper}{K K':St→Mem→Prop}{S:St}{m:Mem}(h:∀S' m',SameOut (Zaw ops.toList) S S'→leT E.thaw m m'→K S' m'→K' S' m'):∀(r:List Oper),(∀o∈r,o∈ops.toList)→∀(S':St)(M:Mem),SameOut (Zaw ops.toList) S S'→leT E.thaw m M→ZjA E ops K r S' M→ZjA E ops K' r S' M
 | [],_,S',M,hs,hM,y=>h _ _ hs hM y
 | o::r,hr,S',M,hs,hM,y=>by
  simp only[ZjA]at y ⊢
  obtain⟨i,ho⟩:=List.getElem?_of_mem (hr o (by simp))
  exact Zko (fun t ht=>Zbc ho ht) (fun S2 m2 gj bP y=>Zly h r (fun o ho=>hr o (by simp[ho])) _ _ (hs.trans gj) (leT.trans hM bP) y) y
theorem ZpB{E:Env}{S:St}{ids:List Nat}{T:TypeId}{x:Operand}{k k':Value→Prop}(h:∀v,k v→k' v)(hx:Zs1 E S ids T x k):Zs1 E S ids T x k':=by
 unfold Zs1 at *
 split at hx
 ·exact hx
 ·split at hx
  ·split at hx
   ·exact hx
   ·exact Zah (Zd7 h) hx
  ·split at hx
   ·exact hx
   ·exact Zah (ZhK h) hx
  ·exact hx
theorem ZjC{E:Env}{S:St}{ids:List Nat}{D:List Nat}:∀{r:List Oper} {S1:St} {k k':St→Prop},(∀o∈r,∀t,o.dst=some t→t∈D)→(∀S',SameOut D S1 S'→k S'→k' S')→Zmp E S ids r S1 k→Zmp E S ids r S1 k'
 | [],S1,k,k',_,h,hx=>h _ (SameOut.refl _ S1) hx
 | o::r,S1,k,k',hd,h,hx=>by
  unfold Zmp at *
  split at hx
  ·refine ZpB (fun v y=>ZjC (fun o ho=>hd o (by simp[ho])) (fun S' hs y=>h _ (SameOut.trans ?_ hs) y) y) hx
   exact(SameOut.refl _ S1).put (fun t e=>hd o (by simp) t e) _
  ·exact hx
theorem ZuV{E:Env}{id:Nat}{ops:Array Oper}{K K':St→Mem→Prop}{S:St}{m:Mem}(h:∀S' m',SameOut (Zaw ops.toList) S S'→leD E id m m'→K S' m'→K' S' m')(hx:ZwG E id ops K S m):ZwG E id ops K' S m:=by
 unfold ZwG at *
 obtain⟨h1,h2⟩:=Zae hx
 refine Zab h1 ?_
 simp only[Bool.and_eq_true]at h1
 have i5:E.thaw=true:=by
  have:=h1.2
  simp only[Zv1,Bool.and_eq_true]at this
  exact this.1.2.2
 split at h2
 ·exact h2
 ·rename_i o r nj
  split at h2
  ·rename_i q hq
   have cU:∀o'∈ops.toList.drop (ops.size - E.lastK id),o'∈ops.toList:=fun o' ho'=>List.mem_of_mem_drop ho'
   rw[nj]at cU
   have inD:∀o'∈ops.toList,∀t,o'.dst=some t→t∈Zaw ops.toList:=fun o' ho' t ht=>by
    obtain⟨i,hi⟩:=List.getElem?_of_mem ho'
    exact Zbc hi ht
   refine ZjC (D:=Zaw ops.toList) (fun o' ho' t ht=>inD o' (List.mem_of_mem_take ho') t ht) (fun S1 hs y=>Zah (fun y=>?_) y) h2
   refine ZgU (th:=true) (.inl rfl) (fun S2 m2 gj _ y=>?_) y
   refine Zly (S:=S) (m:=m) (fun S3 m3 pR _ y=>h _ _ pR (by unfold leD;rw[h1.1,i5];trivial) y) r (fun o' ho'=>cU o' (by simp[ho'])) _ _ (hs.trans ?_) (by rw[i5];trivial) y
   exact gj.mono fun t ht=>by
    cases hd:o.dst with
    | none=>simp[hd,dl]at ht
    | some d=>simp[hd,dl]at ht;subst ht;exact inD o (cU o (by simp)) _ hd
  ·exact h2
theorem Zkw(E:Env):ZeN E (Zkv E):=by
 intro id ops K K' S m h hx
 unfold Zkv at *
 cases hh:E.hot id with
 | true=>simp only[hh,cond_true]at hx ⊢;exact ZuV h hx
 | false=>
 simp only[hh,cond_false]at hx ⊢
 refine Zah (fun y=>?_) hx
 refine ZtH (fun f y=>?_) y
 cases oa:E.gb with
 | false=>
  simp only[oa,cond_false]at y ⊢
  exact Zlv (fun S' μ hs y=>ZnK (fun M hM y=>Zlx h hs hM y) y) y
 | true=>
  simp only[oa,cond_true]at y ⊢
  exact Zlw (fun S' μ hs y=>ZnK (fun M hM y=>Zlx h hs hM y) y) y
theorem ZgX{S S':St}{p q:Prop}(h:p→q):∀{l:List Nat},Zi6 S S' l p→Zi6 S S' l q
 | [],x=>h x
 | t::l,x=>by
  unfold Zi6 at *
  split at x
  ·exact⟨x.1,ZgX h x.2⟩
  ·exact ZgX h x
  ·exact x
theorem ZgY{S S':St}{p:Prop}:∀{l:List Nat},Zi6 S S' l p→p∧∀t∈l,(∃i off,S.env t=some (.loc i off)∧S'.L i=S.L i)∨∃v,S.env t=some (.v v)
 | [],x=>⟨x,by simp⟩
 | t::l,x=>by
  unfold Zi6 at x
  split at x
  ·rename_i i off he
   obtain⟨h1,h2⟩:=ZgY x.2
   refine⟨h1,fun t' ht=>?_⟩
   rcases List.mem_cons.1 ht with rfl|ht
   ·exact .inl ⟨i,off,he,x.1⟩
   ·exact h2 t' ht
  ·rename_i v he
   obtain⟨h1,h2⟩:=ZgY x
   refine⟨h1,fun t' ht=>?_⟩
   rcases List.mem_cons.1 ht with rfl|ht
   ·exact .inr ⟨v,he⟩
   ·exact h2 t' ht
  ·exact x.elim
theorem ZrU{S S':St}{ts ds:List Nat}(h:SameOut ds (ptrS S ts) S'):SameOut ds S (ZuU S S' ts):=by
 intro t ht
 show(bif mem ts t then S.env t else S'.env t)=_
 cases hm:mem ts t with
 | true=>rfl
 | false=>
  rw[cond_false,h t ht]
  show(bif mem ts t then _ else S.env t)=_
  rw[hm];rfl
theorem Zqz{E:Env}{id:Nat}{ops:Array Oper}{ts:List Nat}{K K':St→Mem→Prop}{S:St}{m:Mem}(h:∀S' m',SameOut (Zaw ops.toList) S S'→leD E id m m'→K S' m'→K' S' m')
  (y:ZwH ts (Zaw ops.toList) (Zkv E id ops) K S m):ZwH ts (Zaw ops.toList) (Zkv E id ops) K' S m:=by
 unfold ZwH at *
 split at y
 ·exact Zkw E id ops K K' S m h y
 ·exact Zah (fun y=>Zkw E id ops _ _ _ m (fun S' m' hs hl y=>ZgX (fun y=>h _ m' (ZrU hs) hl y) y) y) y
theorem Zkx(E:Env):ZeN E (Zbe E):=by
 intro id ops K K' S m h hx
 refine Zkh (fun S1 m1 he hm y=>?_) hx
 have up:∀{m'},leD E id m1 m'→leD E id m m':=fun hl=>by
  unfold leD at hl ⊢
  cases hl':E.last id with
  | true=>rw[hl']at hl;exact leT.trans (.of hm) hl
  | false=>rw[hl']at hl;exact Mem.le_trans hm hl
 cases hl:E.last id with
 | false=>
  simp only[hl,cond_false,Zxh]at y ⊢
  exact Zqz (fun S' m' hs hl y=>h S' m' ((ZdK he).trans hs) (up hl) y) y
 | true=>
  simp only[hl,cond_true]at y ⊢
  unfold Zxh at *
  split at y
  ·exact Zqz (fun S' m' hs hl y=>h S' m' ((ZdK he).trans hs) (up hl) y) y
  ·obtain⟨y1,y2⟩:=Zae y
   refine Zab y1 ?_
   simp only[Bool.and_eq_true]at y1
   split at y2
   ·exact y2
   ·obtain⟨a,n,c,z1,z2,z3⟩:=y2
    refine⟨a,n,c,z1,z2,Zqz (fun S' m' hs _ z=>?_) z3⟩
    split at z
    ·exact z
    ·exact Zah (fun z zs hz=>h _ _ ((ZdK he).trans (fun t ht=>hs t ht)) (by unfold leD;rw[hl,y1.1];trivial) (z zs hz)) z
end Go.Eng
namespace Go.Eng
open Go Go.RowKit
theorem St.ext'{a b:St}(h1:a.env=b.env)(h2:a.L=b.L)(h3:a.ids=b.ids)(h4:a.tok=b.tok)(h5:a.tkeys=b.tkeys)(h6:a.gh=b.gh):a=b:=by
 cases a;cases b;simp at *;exact⟨h1,h2,h3,h4,h5,h6⟩
structure Ind (ops:Array Oper)(c d:DOp)(oc od:Oper):Prop where
 hc:ops.toList[c.i]?=some oc
 hd:ops.toList[d.i]?=some od
 cd:∀t,Zgm oc t=true→mem (od.looksAt ops) t=false
 dc:∀t,Zgm od t=true→mem (oc.looksAt ops) t=false
 ne:∀t,Zgm oc t=true→Zgm od t=false
 lcd:∀id,mem c.ws id=true→mem d.rs id=false
 ldc:∀id,mem d.ws id=true→mem c.rs id=false
 tk:∀k,ZrN c.tk k=true→ZrN d.tk k=false
 vcd:c.i ∉ d.vw
 vdc:d.i ∉ c.vw
 i:c.i≠d.i
theorem ZnL{a b:List Nat}(h:Zxf a b=true):∀i,mem a i=true→mem b i=false:=fun i hi=>by
 have:=List.all_eq_true.1 h i (Za9.1 hi)
 simpa using this
theorem ZhP{a b:List Nat}(h:Zw5 a b=true):∀i,i∈a→i∈b:=fun i hi=>Za9.1 (List.all_eq_true.1 h i hi)
theorem ZjD{o:Oper}{l:List Nat}(h:ZnH o l=true):∀t,Zgm o t=true→mem l t=false:=fun t ht=>by
 have:=Zb0.1 ht
 simpa[ZnH,this]using h
theorem ZpC{a b:Oper}(h:ZvZ a b=true):∀t,Zgm a t=true→Zgm b t=false:=fun t ht=>by
 have:=Zb0.1 ht
 simpa[ZvZ,this]using h
theorem ZrV{a b:Option Nat}(h:Zxx a b=true):∀t,ZrN a t=true→ZrN b t=false:=fun t ht=>by
 have:=Zb0.1 ht
 simpa[Zxx,this]using h
theorem Zlz{ops:Array Oper}{c d:DOp}(h:Zqx ops c d=true):∃oc od,Ind ops c d oc od:=by
 unfold Zqx at h
 split at h
 ·rename_i oc od hc hd
  simp only[Bool.and_eq_true,Bool.not_eq_true']at h
  obtain⟨⟨⟨⟨h1,h2⟩,h3⟩,⟨h4,h5⟩,h6⟩,⟨h7,h8⟩,h9⟩:=h
  refine⟨oc,od,hc,hd,ZjD h1,ZjD h2,ZpC h3,ZnL h4,ZnL h5,ZrV h6,?_,?_,?_⟩
  ·intro hm;rw[Za9.2 hm]at h7;cases h7
  ·intro hm;rw[Za9.2 hm]at h8;cases h8
  ·intro e;rw[e,Zcz]at h9;cases h9
 ·cases h
theorem Ind.symm'{ops:Array Oper}{c d:DOp}{oc od:Oper}(h:Ind ops c d oc od):Ind ops d c od oc:=by
 refine⟨h.hd,h.hc,h.dc,h.cd,?_,h.ldc,h.lcd,?_,h.vdc,h.vcd,h.i.symm⟩
 ·intro t ht
  cases hh:Zgm oc t with
  | false=>rfl
  | true=>rw[h.ne t hh]at ht;cases ht
 ·intro k hk
  cases hh:ZrN c.tk k with
  | false=>rfl
  | true=>rw[h.tk k hh]at hk;cases hk
section
variable {E:Env} {ops:Array Oper} {m0:Mem} {f:Fx} {c d:DOp} {oc od:Oper}
theorem ZtI(h:Ind ops c d oc od)(S S':St):Zpx ops d od (ZnG c oc S S')=Zpx ops d od S:=by
 refine St.ext' (funext fun t=>?_) (funext fun id=>?_) rfl (funext fun k=>?_) rfl rfl
 ·simp only[Zpx,ZnG]
  cases ht:Zgm oc t with
  | true=>simp[h.cd t ht]
  | false=>simp
 ·simp only[Zpx,ZnG]
  cases ht:mem c.ws id with
  | true=>simp[h.lcd id ht]
  | false=>simp
 ·simp only[Zpx,ZnG]
  cases ht:ZrN c.tk k with
  | true=>simp[h.tk k ht]
  | false=>simp
theorem ZtJ(h:Ind ops c d oc od)(hw:∀id,id∈d.ws→id∈d.rs)(S Sc Sd:St):ZnG c oc (ZnG d od S Sd) Sc=ZnG d od (ZnG c oc S Sc) Sd:=by
 refine St.ext' (funext fun t=>?_) (funext fun id=>?_) rfl (funext fun k=>?_) rfl rfl
 ·simp only[ZnG]
  cases ht:Zgm oc t with
  | true=>simp[h.ne t ht]
  | false=>simp
 ·simp only[ZnG]
  cases ht:mem c.ws id with
  | true=>
   have:mem d.ws id=false:=by
    cases hh:mem d.ws id with
    | false=>rfl
    | true=>
     have h1:=h.lcd id ht
     rw[Za9.2 (hw id (Za9.1 hh))]at h1;cases h1
   simp[this]
  | false=>simp
 ·simp only[ZnG]
  cases ht:ZrN c.tk k with
  | true=>simp[h.tk k ht]
  | false=>simp
theorem ZtK{μ:Nat→Mem}{i j:Nat}(h:i≠j)(a b:Mem):upd (upd μ i a) j b=upd (upd μ j b) i a:=by
 funext k
 simp only[upd]
 by_cases hk:k=j
 ·subst hk;simp[Zat (Ne.symm h)]
 ·simp[Zat hk]
theorem ZiI(h:Ind ops c d oc od)(S S':St)(μ:Nat→Mem)(m':Mem)(K:St→Mem→Prop):ZsO E ops m0 f d (Zpy ops c S S') (upd μ c.i m') K=ZsO E ops m0 f d S μ K:=by
 unfold ZsO Zpy
 simp only[h.hd,h.hc,ZtI h,ZrQ h.vcd]
theorem ZnM(S:St)(μ:Nat→Mem)(K:St→(Nat→Mem)→Prop):Zkt E ops m0 f d S μ K=ZsO E ops m0 f d S μ fun S' m'=>K (Zpy ops d S S') (upd μ d.i m'):=rfl
def ZxI(E:Env)(ops:Array Oper)(m0:Mem)(f:Fx)(d:DOp)(S:St)(μ:Nat→Mem)(S':St)(m':Mem):Prop:=∀K:St→Mem→Prop,ZsO E ops m0 f d S μ K→K S' m'
theorem ZqA{K:St→(Nat→Mem)→Prop}{S':St}{m':Mem}(hw:∀id,id∈d.ws→id∈d.rs):∀{r1 r2:List DOp} {S:St} {μ:Nat→Mem},(∀c∈r1,Zqx ops c d=true)→ZiZ E ops m0 f (r1++d::r2) K S μ→ZxI E ops m0 f d S μ S' m'→
  ZiZ E ops m0 f (r1++r2) K (Zpy ops d S S') (upd μ d.i m')
 | [],r2,S,μ,_,h,ho=>ho _ h
 | c::r1,r2,S,μ,hi,h,ho=>by
  obtain⟨oc,od,gI⟩:=Zlz (hi c (by simp))
  simp only[List.cons_append,ZiZ,ZnM]at h ⊢
  rw[ZiI gI.symm']
  refine Zfc (fun Sc mc y=>?_) h
  have ih:=ZqA (S':=S') (m':=m') hw (r1:=r1) (r2:=r2) (fun c hc=>hi c (by simp[hc])) y (fun K hK=>by rw[ZiI gI]at hK;exact ho K hK)
  rw[ZtK gI.i]at ih
  have e:Zpy ops c (Zpy ops d S S') Sc=Zpy ops d (Zpy ops c S Sc) S':=by
   simp only[Zpy,gI.hc,gI.hd]
   exact ZtJ gI hw S Sc S'
  rw[e];exact ih
end
theorem ZpD{F:Fence}(hF:FOk F){n:Nat}{P:Program}{o:Oper}{a:Act}{w:World}{p:Prop}(h:o.wpIn F n P a w (fun _ _=>p) (fun _ _ _=>p)):p:=by
 have dB:∀k,F.room k:=fun k d hd=>by rw[hF.depth]at hd;cases hd
 have h:=h.2
 generalize (o.semAt F.round a.eval).run P w=r at h
 cases r with
 | ok x w'=>
  cases x <;> simp only[Oper.uponIn]at h
  all_goals first
   | exact h
   | exact h.elim
   | (obtain⟨e,w'',fr,h,_⟩:=h.2.2 [] (dB _)
      cases e <;> first
       | exact h
       | (obtain⟨_,_,h⟩:=h;exact h))
   | (obtain⟨v,w'',h,_⟩:=h.2 default [] (dB _)
      exact h)
   | (obtain⟨e,w'',h,_⟩:=h.2.2 default [] (dB _)
      cases e <;> first
       | exact h
       | (obtain⟨_,_,h⟩:=h;exact h))
 | halt x w'=>
  cases x <;> simp only[Oper.uponIn]at h
  all_goals first
   | exact h
   | exact h.elim
end Go.Eng
namespace Go.Eng
open Go Go.RowKit
theorem ZrW{a b:St}(h:∀id,a.L id=b.L id)(sv:SV):a.den sv=b.den sv:=by
 cases sv <;> simp only[St.den,h]
section
variable {C:Ctx} {E:Env} {ops:Array Oper} {m0:Mem} {f:Fx} {d:DOp} {o:Oper} {S:St} {μ:Nat→Mem} {A:Mem} {a:Act} {w:World}
theorem ZuW(ro:∀i,i∈ZnF d.rs o→i∈d.ws)(nM:∀i,i∈d.ws→i∈d.rs)(eL:∀i,i∈d.ws→i∈S.ids)(gS:∀k,d.tk=some k→k∈S.tkeys)(hr:Rel C S A a w)
  {S2:St} {A2:Mem} {a':Act} {w':World} {y:St×Mem} {g:Bool} {m M:Mem} (h:Rel C S2 A2 a' w') (ho:Out (ZnF d.rs o) d.tk g m M o.dst (Zpx ops d o S) S y (S2,A2)):Rel C (ZnG d o S y.1) A2 a' w':=by
 have hL:∀id,(ZnG d o S y.1).L id=S2.L id:=by
  intro id
  simp only[ZnG]
  cases hm:mem d.ws id with
  | true=>
   simp only[cond_true]
   rcases ho.L id with⟨_,e⟩|⟨e1,e2⟩
   ·exact e
   ·rw[e1,e2]
    simp[Zpx,Za9.2 (nM id (Za9.1 hm))]
  | false=>
   simp only[cond_false]
   rcases ho.L id with⟨hc,_⟩|⟨e1,e2⟩
   ·rw[Za9.2 (ro id hc)]at hm;cases hm
   ·exact e2.symm
 have hT:∀k,(ZnG d o S y.1).tok k=S2.tok k:=by
  intro k
  simp only[ZnG]
  cases hm:ZrN d.tk k with
  | true=>
   simp only[cond_true]
   rcases ho.tok k with⟨_,e⟩|⟨e1,e2⟩
   ·exact e
   ·rw[e1,e2]
    simp[Zpx,hm]
  | false=>
   simp only[cond_false]
   rcases ho.tok k with⟨hc,_⟩|⟨e1,e2⟩
   ·rw[Zb0.2 hc]at hm;cases hm
   ·exact e2.symm
 refine h.restrict ho.gh2.symm (fun id x hx=>by rw[←hL];exact hx) (fun k t ht=>.inl (by rw[←hT];exact ht)) ?_ ?_ ?_
 ·intro i sv he
  have he':S2.env i=some sv:=by
   simp only[ZnG]at he
   cases hd:Zgm o i with
   | true=>
    simp only[hd,cond_true]at he
    exact ho.env1 i sv (Zb0.1 hd) he
   | false=>
    simp only[hd,cond_false]at he
    have:o.dst≠some i:=fun e=>by rw[show Zgm o i=true from Zb0.2 e]at hd;cases hd
    exact(ho.env2 i this).trans he
  obtain⟨v,h1,h2⟩:=h.env i sv he'
  exact⟨v,by rw[ZrW hL];exact h1,h2⟩
 ·intro id x hx
  show id∈S.ids
  cases hm:mem d.ws id with
  | true=>exact eL id (Za9.1 hm)
  | false=>simp only[ZnG,hm,cond_false]at hx;exact hr.ids id x hx
 ·intro k t ht
  show k∈S.tkeys
  cases hm:ZrN d.tk k with
  | true=>exact gS k (Zb0.1 hm)
  | false=>simp only[ZnG,hm,cond_false]at ht;exact hr.tkeys k t ht
structure DOk (E:Env)(ops:Array Oper)(d:DOp)(o:Oper):Prop where
 at_:ops.toList[d.i]?=some o
 fp:ZtF E d.rs d.tk o=true
 chg:∀i,i∈ZnF d.rs o→i∈d.ws
 ws:∀i,i∈d.ws→i∈d.rs
theorem ZqB(hE:E.ok){F:Fence}(hF:FOk F)(hY:YOk E C)(bM:Zlk C.n ops.toList=true)(gW:E.fix=none)(hd:DOk E ops d o)(eL:∀i,i∈d.ws→i∈S.ids)(gS:∀k,d.tk=some k→k∈S.tkeys)
  (hr:Rel C S A a w) (h0:m0.le A) (hv:∀j,j∈d.vw→(μ j).le A) (h:ZsO E ops m0 f d S μ (fun _ _=>True)) {n:Nat} {Q:Exit→Act→World→Prop} {next:Act→World→Prop}
  (hK:∀S' m' A' a' w',ZxI E ops m0 f d S μ S' m'→Rel C (Zpy ops d S S') A' a' w'→A.le A'→m'.le A'→(Zeq o=false→A'=A)→next a' w'):wpOpIn F n E.P ops Q d.i next a w:=by
 unfold ZsO at h
 simp only[hd.at_]at h
 obtain⟨V,uT,hV⟩:=ZpA (l:=d.vw) h0 hv
 have oe:Less (Zpx ops d o S) S:=⟨fun t sv ht=>by
  simp only[Zpx]at ht
  cases hm:mem (o.looksAt ops) t <;> simp[hm]at ht;exact ht,fun id x hx=>by
  simp only[Zpx]at hx
  cases hm:mem d.rs id <;> simp[hm]at hx;exact hx⟩
 have h2:opG E ops o S A (fun S2 A2=>∃y1:St×Mem,(∀K:St×Mem→Prop,opG (E.fixed (f d.i)) ops o (Zpx ops d o S) V (fun S' m'=>K (S',m'))→K y1)∧Out (ZnF d.rs o) d.tk (Zeq o) V A o.dst (Zpx ops d o S) S y1 (S2,A2)):=
  Zwj (rs:=d.rs) (tk:=d.tk) w gW oe (fun id x hx=>by
   simp only[Zpx]at hx
   cases hm:mem d.rs id with
   | true=>exact Za9.1 hm
   | false=>simp[hm]at hx) (fun id cT=>by simp[Zpx,Za9.2 cT]) (fun k hk=>by simp[Zpx,Zb0.2 hk]) uT hd.fp (hV _ h)
 have h3:=ZgU (th:=false) (.inr (Zlu hd.fp)) (K':=fun S2 A2=>A.le A2∧∃y1:St×Mem,(∀K:St×Mem→Prop,opG (E.fixed (f d.i)) ops o (Zpx ops d o S) V (fun S' m'=>K (S',m'))→K y1)∧Out (ZnF d.rs o) d.tk (Zeq o) V A o.dst (Zpx ops d o S) S y1 (S2,A2)) (fun S' m' _ hm y=>⟨hm,y⟩) h2
 have ho':ops[d.i]?=some o:=by simpa using hd.at_
 have:=Zd6 hE hF hY (Zdi bM d.i o hd.at_) hr h3 (n:=n) (Q:=Q) (next:=next) (fun S2 A2 a' w' ⟨hA,y1,g1,g2⟩ bN=>by
  refine hK y1.1 y1.2 A2 a' w' ?_ ?_ hA g2.le (fun hg=>(g2.same hg).2)
  ·intro K rp
   unfold ZsO at rp
   simp only[hd.at_]at rp
   exact g1 (fun y=>K y.1 y.2) (hV _ rp)
  ·simp only[Zpy,hd.at_]
   exact ZuW hd.chg hd.ws eL gS hr bN g2)
 unfold wpOpIn
 simp only[ho']
 exact this
end
theorem Zky(ops:Array Oper)(d:DOp)(S S':St):(Zpy ops d S S').ids=S.ids∧(Zpy ops d S S').tkeys=S.tkeys:=by
 unfold Zpy
 cases ops.toList[d.i]? <;> exact⟨rfl,rfl⟩
theorem ZqC(μ:Nat→Mem)(i:Nat)(m:Mem):upd μ i m i=m:=by simp[upd]
theorem ZuX{μ:Nat→Mem}{i j:Nat}(h:j≠i)(m:Mem):upd μ i m j=μ j:=by simp[upd,Zat h]
def Zv2:(Nat→Prop)→List DOp→Prop
 | _,[]=>True
 | D,c::r=>(∀j,j∈c.vw→D j)∧Zv2 (fun j=>D j∨j=c.i) r
theorem extract{C:Ctx}{E:Env}(hE:E.ok){F:Fence}(hF:FOk F)(hY:YOk E C){ops:Array Oper}(bM:Zlk C.n ops.toList=true)(gW:E.fix=none){m0:Mem}{f:Fx}{d:DOp}{r2:List DOp}{K:St→(Nat→Mem)→Prop}:
  ∀{r1:List DOp} {D:Nat→Prop} {S:St} {μ:Nat→Mem} {A:Mem} {a:Act} {w:World},Rel C S A a w→m0.le A→(∀j,D j→(μ j).le A)→Zv2 D r1→(∀c∈r1,(∃o,DOk E ops c o)∧(∀i,i∈c.ws→i∈S.ids)∧(∀k,c.tk=some k→k∈S.tkeys))→(∀c∈r1,Zqx ops c d=true)→
   ZiZ E ops m0 f (r1++d::r2) K S μ→ZsO E ops m0 f d S μ (fun _ _=>True)
 | [],D,S,μ,A,a,w,hr,h0,hD,ht,hc,hi,h=>Zfc (fun _ _ _=>trivial) h
 | c::r1,D,S,μ,A,a,w,hr,h0,hD,ht,hc,hi,h=>by
  obtain⟨oc,od,gI⟩:=Zlz (hi c (by simp))
  obtain⟨⟨o,cH⟩,eL,gS⟩:=hc c (by simp)
  simp only[List.cons_append,ZiZ,ZnM]at h
  have key:=ZqB (n:=0) (next:=fun _ _=>ZsO E ops m0 f d S μ (fun _ _=>True)) (Q:=fun _ _ _=>ZsO E ops m0 f d S μ (fun _ _=>True)) hE hF hY bM gW cH eL gS hr h0 (fun j hj=>hD j (ht.1 j hj)) (Zfc (fun _ _ _=>trivial) h) (fun S' m' A' a' w' ge bN hA hm _=>by
   have:=extract hE hF hY bM gW (r1:=r1) (D:=fun j=>D j∨j=c.i) bN (Mem.le_trans h0 hA) (fun j hj=>by
    by_cases e:j=c.i
    ·subst e;rw[ZqC];exact hm
    ·rw[ZuX e];exact Mem.le_trans (hD j (hj.resolve_right e)) hA) ht.2 (fun c' hc'=>by
     obtain⟨h1,h2,h3⟩:=hc c' (by simp[hc'])
     exact⟨h1,fun i hi=>by rw[(Zky ops c S S').1];exact h2 i hi,fun k hk=>by rw[(Zky ops c S S').2];exact h3 k hk⟩) (fun c' hc'=>hi c' (by simp[hc'])) (ge _ h)
   rwa [ZiI gI]at this)
  unfold wpOpIn at key
  have ho':ops[c.i]?=some o:=by simpa using cH.at_
  simp only[ho']at key
  split at key
  ·exact ZpD hF key
  ·exact key.2
end Go.Eng
namespace Go.Eng
open Go Go.RowKit
theorem ZcZ{l:Array Bool}{i:Nat}(h:i < l.size):(l.setIfInBounds i true).getD i false=true:=by simp[Array.getD,h]
theorem ZqD{E:Env}(hE:E.ok){F:Fence}(hF:FOk F){C:Ctx}(hY:YOk E C){ops:Array Oper}(bM:Zlk C.n ops.toList=true){n:Nat}{Q:Exit→Act→World→Prop}{K:St→Mem→Prop}{i0:Nat}
  (over:∀(fuel:Nat)(listed:Array Bool)(S':St)(m':Mem)(a':Act)(w':World),listed.size=ops.size→(∀j,j < ops.size→listed.getD j false=true)→K S' m'→Rel C S' m' a' w'→wpAnyIn F n E.P .any ops Q fuel listed a' w')
  (gf:∀i,i0≤i→i < ops.size→∃o,ops[i]?=some o∧(∀j,i0≤j→j < i→j∈Zbv o)∧(∀j∈Zbv o,j < i)):
  ∀(r:List Oper)(i:Nat),ops.toList.drop i=r→i0≤i→i≤ops.size→∀(fuel:Nat)(listed:Array Bool)(S':St)(m':Mem)(a':Act)(w':World),r.length≤fuel→listed.size=ops.size→(∀j,j < i→listed.getD j false=true)→(∀j,i≤j→listed.getD j false=false)→ZjA E ops K r S' m'→Rel C S' m' a' w'→wpAnyIn F n E.P .any ops Q fuel listed a' w':=by
 intro r
 induction r with
 | nil=>
  intro i hi h1 h2 fuel listed S' m' a' w' _ cM bV _ hk bN
  have:ops.size≤i:=by
   have:=congrArg List.length hi
   simp at this
   omega
  exact over fuel listed S' m' a' w' cM (fun j hj=>bV j (by omega)) hk bN
 | cons o r ih=>
  intro i hi h1 h2 fuel listed S' m' a' w' kC cM bV eB hk bN
  have io:i < ops.size:=by
   have:=congrArg List.length hi
   simp at this
   omega
  obtain⟨o',ho',iF,dD⟩:=gf i h1 io
  have lq:ops.toList[i]?=some o:=by
   have:=congrArg (fun l=>l[0]?) hi
   simpa using this
  have nk:o'=o:=by
   have:ops.toList[i]?=some o':=by simpa using ho'
   rw[lq]at this;cases this;rfl
  subst nk
  have rq:ops.toList.drop (i+1)=r:=by
   have:=congrArg (List.drop 1) hi
   simpa[List.drop_drop,Nat.add_comm]using this
  obtain⟨fuel,rfl⟩:∃k,fuel=k+1:=⟨fuel - 1,by simp at kC;omega⟩
  have iV:listed.getD i false=false:=eB i (Nat.le_refl _)
  have fD:i < listed.size:=by omega
  refine⟨fun cQ=>?_,fun q hq=>?_⟩
  ·exfalso
   have:i∈Region.ready .any ops listed:=mem_ready.2 ⟨by simpa[Array.getD,fD]using iV,o',ho',fun e he hb=>?_⟩
   ·rw[cQ]at this;simp at this
   ·have hm:e.on∈Zbv o':=by
     simp only[Zbv,List.mem_map,List.mem_filter]
     exact⟨e,⟨by simpa using he,hb⟩,rfl⟩
    exact bV _ (dD _ hm)
  ·obtain⟨og,o2,gp,gJ⟩:=mem_ready.1 hq
   have hq':q < ops.size:=(Array.getElem?_eq_some_iff.1 gp).1
   have:q=i:=by
    by_cases h3:q < i
    ·have h4:=bV q h3
     have hl:q < listed.size:=by omega
     simp[Array.getD,hl]at og h4
     rw[og]at h4;cases h4
    ·by_cases h4:q=i
     ·exact h4
     ·exfalso
      obtain⟨o3,mj,kP,_⟩:=gf q (by omega) hq'
      rw[mj]at gp;cases gp
      have:=kP i h1 (by omega)
      simp only[Zbv,List.mem_map,List.mem_filter]at this
      obtain⟨e,⟨he,hb⟩,h5⟩:=this
      have:=gJ e (by simpa using he) hb
      rw[h5,iV]at this;cases this
   subst this
   simp only[ZjA]at hk
   have:=ZiD hE hF hY (Zdi bM _ o' lq) bN hk (n:=n) (Q:=Q) (next:=wpAnyIn F n E.P .any ops Q fuel (listed.setIfInBounds q true)) (fun S2 m2 a2 w2 gA gK=>ih (q+1) rq (by omega) (by omega) fuel _ S2 m2 a2 w2 (by simp at kC;omega) (by simpa using cM) (fun j hj=>by
    by_cases e:j=q
    ·subst e;simp[Array.getD,fD]
    ·rw[getD_set_ne false (Ne.symm e)]
     exact bV j (by omega)) (fun j hj=>by
    rw[getD_set_ne false (by omega)]
    exact eB j (by omega)) gA gK)
   unfold wpOpIn
   simp only[ho']
   exact this
def St.wenv(S:St)(e:Nat→Option SV):St:={ S with env:=e }
theorem ZhQ(S:St)(e:Nat→Option SV):∀ids,Zbu (S.wenv e) ids=Zbu S ids
 | []=>rfl
 | id::l=>by simp only[Zbu,ZhQ S e l];rfl
theorem ZjE(S:St)(e:Nat→Option SV):∀ks,Zew (S.wenv e) ks=Zew S ks
 | []=>rfl
 | q::l=>by simp only[Zew,ZjE S e l];rfl
theorem ZqE(S:St)(e:Nat→Option SV)(b:Nat)(k:Prop):∀l,nfz (S.wenv e) b l k=nfz S b l k
 | []=>rfl
 | id::l=>by simp only[nfz,ZqE S e b k l];rfl
theorem ZqF(S:St)(e:Nat→Option SV)(b:Nat)(ks:List Nat):∀l,ntk (S.wenv e) b ks l=ntk S b ks l
 | []=>rfl
 | k::l=>by simp only[ntk,ZqF S e b ks l];rfl
theorem ZlA(S:St)(e:Nat→Option SV):∀(ids:List Nat)(bxs:List Box) (css:List (List Value)),Zdn (S.wenv e) ids bxs css=(Zdn S ids bxs css).wenv e
 | [],_,_=>by simp[Zdn]
 | id::ids,[],_=>by simp[Zdn]
 | id::ids,x::xs,[]=>by simp[Zdn]
 | id::ids,x::xs,cs::css=>by simp only[Zdn,ZlA S e ids xs css];rfl
theorem ZtL{S:St}{e:Nat→Option SV}{x:Operand}(h:∀t,x=.tmp t→e t=S.env t):(S.wenv e).val x=S.val x:=by
 unfold St.val
 have:(S.wenv e).ev x=S.ev x:=by
  cases x with
  | tmp t=>exact h t rfl
  | _=>rfl
 rw[this]
 cases S.ev x with
 | none=>rfl
 | some sv=>cases sv <;> rfl
theorem ZuY{S:St}{e:Nat→Option SV}{x:Operand}(h:∀t,x=.tmp t→e t=S.env t):(S.wenv e).ev x=S.ev x:=by
 cases x with
 | tmp t=>exact h t rfl
 | _=>rfl
theorem ZqG{S:St}{e:Nat→Option SV}{k:List Value→Prop}:∀{l:List Operand},(∀x∈l,∀t,x=.tmp t→e t=S.env t)→wvs (S.wenv e) l k=wvs S l k
 | [],_=>rfl
 | x::l,h=>by
  simp only[wvs,wv]
  rw[ZtL (h x (by simp))]
  cases S.val x with
  | none=>rfl
  | some v=>exact ZqG fun y hy=>h y (by simp[hy])
theorem ZjF{S:St}{e:Nat→Option SV}:∀{l:List Operand},(∀x∈l,∀t,x=.tmp t→e t=S.env t)→Zds (S.wenv e) l=Zds S l
 | [],_=>rfl
 | x::l,h=>by
  simp only[Zds]
  rw[ZuY (h x (by simp)),ZjF fun y hy=>h y (by simp[hy])]
  rfl
theorem ZlB:∀{n:Nat} {k k':List (List Value)→Prop},(∀v,v.length=n→k v→k' v)→allL n k→allL n k'
 | 0,k,k',h,hx=>h _ rfl hx
 | n+1,k,k',h,hx=>fun cs=>ZlB (fun l hl hx=>h _ (by simp[hl]) hx) (hx cs)
theorem ZnN{E:Env}{S:St}{e:Nat→Option SV}{m:Mem}{rt:TypeId}{g:FuncId}{args:List Value}{ids:List Nat}{ks:List (Nat×Nat)}{K:Value→St→Mem→Prop}
  (h:Zi3 E (S.wenv e) m rt g args ids ks K):Zi3 E S m rt g args ids ks fun v S' m'=>K v (S'.wenv e) m'∧S'.env=S.env∧∀id,id ∉ ids→S'.L id=S.L id:=by
 unfold Zi3 at *
 rw[ZhQ]at h
 cases hb:Zbu S ids with
 | none=>simp[hb]at h
 | some bxs=>
  simp only[hb]at h ⊢
  cases hm:E.m0 with
  | none=>simp[hm]at h
  | some m0=>
   simp only[hm]at h ⊢
   obtain⟨h1,Y,R,h2,h3,h4,h5,h6⟩:=Zae h
   rw[ZjE]at h2 h3 h4 h6
   refine Zab h1 ⟨Y,R,h2,h3,fun b hb=>?_,h5,?_⟩
   ·rcases h4 b hb with q|⟨q1,q2,q3⟩
    ·exact .inl q
    ·have e1:∀k,nfz (S.wenv e) b S.ids k=nfz S b S.ids k:=fun k=>ZqE S e b k S.ids
     have e2:ntk (S.wenv e) b (ks.map (·.1)) S.tkeys=ntk S b (ks.map (·.1)) S.tkeys:=ZqF S e b _ S.tkeys
     refine .inr ⟨q1,q2,?_⟩
     have q3:nfz (S.wenv e) b S.ids (ntk (S.wenv e) b (ks.map (·.1)) S.tkeys):=q3
     rw[e1,e2]at q3;exact q3
   ·simp only[Bool.and_eq_true]at h1
    have eQ:=ZaO h1.2.1
    have bO:=(Zcq hb).1
    refine Shape.all_mono _ (fun v z m' hm' hn=>?_) h6
    refine ZlB (fun css hc z=>ZiC (fun tvs z hR=>⟨?_,?_,fun id cT=>?_⟩) z) (z m' hm' hn)
    ·have:=z hR
     rw[ZlA]at this;exact this
    ·rw[Zdr]
    ·rcases Ze7 (S:=S) eQ bO hc id with⟨_,q⟩|⟨i,x,cs,q,_⟩
     ·exact q
     ·exact absurd (List.mem_of_getElem? q) cT
theorem ZtM{l:List Value}{n:Nat}{k:Value→Prop}(h:ZsL l n k):∃v,k v∧ZsL l n (·=v):=by
 obtain⟨v,h1,h2⟩:=Zhv h
 exact⟨v,h2,Zan h1 rfl⟩
theorem ZnO{i:TI}{x:Box}{off:Nat}{k:Value→Prop}(h:ZcV i x off k):∃v,k v∧ZcV i x off (·=v):=by
 unfold ZcV at *
 cases ha:i.agg with
 | true=>
  simp only[ha,cond_true]at *
  cases hf:(x.full&&(Nat.beq x.cap i.size&&Nat.beq off 0))with
  | true=>
   simp only[hf,cond_true]at *
   exact⟨_,h,rfl⟩
  | false=>
   simp only[hf,cond_false]at *
   obtain⟨h1,h2⟩:=Zae h
   exact⟨_,h2,Zab h1 rfl⟩
 | false=>
  simp only[ha,cond_false]at *
  exact ZtM h
theorem ZnP{i:TI}{m:Mem}{b o:Nat}{k:Value→Prop}(h:Zdq i m b o k):∃v,k v∧∀m':Mem,m.le m'→Zdq i m' b o (·=v):=by
 unfold Zdq at *
 cases ha:i.agg with
 | false=>
  simp only[ha,cond_false]at *
  obtain⟨v,h1,h2⟩:=h
  exact⟨v,h2,fun m' hm=>⟨v,hm _ _ _ h1,rfl⟩⟩
 | true=>
  simp only[ha,cond_true]at *
  cases hb:Nat.ble i.size 16 with
  | true=>
   simp only[hb,cond_true]at *
   obtain⟨vs,h1,h2,h3⟩:=Ziz h
   exact⟨_,h3,fun m' hm=>Zke vs h1 ⟨fun j v hv=>hm _ _ _ (h2 j v hv),rfl⟩⟩
  | false=>
   simp only[hb,cond_false]at *
   obtain⟨vs,h1,h2,h3⟩:=h
   exact⟨_,h3,fun m' hm=>⟨vs,h1,fun j v hv=>hm _ _ _ (h2 j v hv),rfl⟩⟩
def ZxJ(E:Env)(S:St)(ids:List Nat)(o:Oper)(X:St):Prop:=
 ∃T x d v,o.op=.load T x∧o.dst=some d∧X.env d=some (.v v)∧∀(S':St)(m':Mem),(∀t,x=.tmp t→S'.env t=S.env t)→(∀id,id ∉ ids→S'.L id=S.L id)→(∀mm:Mem,E.m0=some mm→mm.le m')→Zge E S' m' T x (·=v)
theorem ZrX{E:Env}{S:St}{ids:List Nat}{T:TypeId}{x:Operand}{k:Value→Prop}(h:Zs1 E S ids T x k):
  ∃v,k v∧∀(S':St)(m':Mem),(∀t,x=.tmp t→S'.env t=S.env t)→(∀id,id ∉ ids→S'.L id=S.L id)→(∀mm:Mem,E.m0=some mm→mm.le m')→Zge E S' m' T x (·=v):=by
 have jM:∀S':St,(∀t,x=.tmp t→S'.env t=S.env t)→S'.ev x=S.ev x:=fun S' h=>by
  cases x with
  | tmp t=>exact h t rfl
  | _=>rfl
 unfold Zs1 at h
 cases ht:E.tt T with
 | none=>simp[ht]at h
 | some i=>
  simp only[ht]at h
  split at h
  ·rename_i id off he
   cases hL:S.L id with
   | none=>simp[hL]at h
   | some bx=>
    simp only[hL]at h
    obtain⟨h1,h2⟩:=Zae h
    obtain⟨v,h3,h4⟩:=ZnO h2
    refine⟨v,h3,fun S' m' q1 q2 q3=>?_⟩
    have cT:id ∉ ids:=fun hm=>by rw[Za9.2 hm]at h1;cases h1
    unfold Zge
    simp only[ht,jM S' q1,he,q2 id cT,hL]
    exact h4
  ·rename_i v0 he
   cases hm:E.m0 with
   | none=>simp[hm]at h
   | some m0=>
    simp only[hm]at h
    obtain⟨h1,h2⟩:=Zae h
    simp only[Bool.and_eq_true,Option.isNone_iff_eq_none]at h1
    obtain⟨v,h3,h4⟩:=ZnP h2
    refine⟨v,h3,fun S' m' q1 q2 q3=>?_⟩
    unfold Zge
    simp only[ht,jM S' q1,he,h1.2]
    exact Zab h1.1 (h4 m' (q3 m0 rfl))
  ·exact h.elim
theorem ZjG{E:Env}{S:St}{ids:List Nat}:∀{r:List Oper} {S1:St} {k:St→Prop},Zbl (Zaw r)=true→(∀o∈r,o.dst.isSome=true)→Zmp E S ids r S1 k→
  ∃e:Nat→Option SV,k (S1.wenv e)∧(∀o∈r,ZxJ E S ids o (S1.wenv e))∧∀t,t ∉ Zaw r→e t=S1.env t
 | [],S1,k,_,_,h=>⟨S1.env,h,by simp,fun _ _=>rfl⟩
 | o::r,S1,k,hn,hd,h=>by
  have oh:=hd o (by simp)
  obtain⟨d,oi⟩:=Option.isSome_iff_exists.1 oh
  unfold Zmp at h
  split at h
  ·rename_i T x ho
   obtain⟨v,h1,h2⟩:=ZrX h
   have hn':=ZaO hn
   simp only[Zaw,oi,List.nodup_cons]at hn'
   have k7:Zbl (Zaw r)=true:=by
    simp only[Zaw,oi,Zbl,Bool.and_eq_true]at hn
    exact hn.2
   obtain⟨e,g1,g2,g3⟩:=ZjG k7 (fun o ho=>hd o (by simp[ho])) h1
   rw[oi]at g1 g2 g3
   refine⟨e,g1,fun o' ho'=>?_,fun t ht=>?_⟩
   ·rcases List.mem_cons.1 ho' with rfl|ho'
    ·refine⟨T,x,d,v,ho,oi,?_,h2⟩
     show e d=_
     rw[g3 d hn'.1]
     simp[St.put,Zcz]
    ·exact g2 o' ho'
   ·simp only[Zaw,oi,List.mem_cons,not_or]at ht
    rw[g3 t ht.2]
    simp[St.put,Zat ht.1]
  ·exact h.elim
theorem ZiJ{α:Type}{l:List α}(h:ZrP l=true):l=[]:=by
 cases l with
 | nil=>rfl
 | cons=>cases h
theorem ZnQ{E:Env}{ops:Array Oper}{o:Oper}{q:Go.Call}{f:Operand}{S:St}{e:Nat→Option SV}{m:Mem}{K:St→Mem→Prop}(hg:o.guard=none)(hq:o.op=.call q)(hf:q.callee=.value f)(iU:(Ze8 E o.dst).isSome=true)(jL:Zep E o.dst=[])
  (oh:o.dst.isSome=true) {g0:FuncId} (uU:f=.func g0) (ha:∀x∈q.args.toList,∀t,x=.tmp t→e t=S.env t) (hl:Zds (S.wenv e) q.args.toList=[]) (h:opG E ops o (S.wenv e) m K):
  opG E ops o S m fun S' m'=>∃S2,K S2 m'∧S'.wenv S2.env=S2∧(∀t,o.dst≠some t→S2.env t=e t∧S'.env t=S.env t)∧(∀t,o.dst=some t→S'.env t=S2.env t)∧∀id,id ∉ ZdZ E o.dst→S2.L id=S.L id:=by
 unfold opG at *
 simp only[hg]at h ⊢
 unfold opW at *
 simp only[hq,hf]at h ⊢
 unfold ZuB at *
 simp only[jL]at h ⊢
 obtain⟨ks,kK⟩:=Option.isSome_iff_exists.1 iU
 obtain⟨d,hd⟩:=Option.isSome_iff_exists.1 oh
 unfold Zuq at *
 subst uU
 simp only[St.ev]at h ⊢
 have hl':Zds S q.args.toList=[]:=by rw[←ZjF (e:=e) ha];exact hl
 simp only[kK]at h ⊢
 cases cP:E.fix with
 | some f=>simp[cP]at h
 | none=>
  simp only[cP,Option.isSome_none,cond_false]at h ⊢
  rw[ZqG ha]at h
  refine ZcU (fun vs y=>?_) h
  rw[hl]at y
  rw[hl']
  refine Zjt (fun v S' m' _ z=>?_) (ZnN y)
  obtain⟨z1,z2,z3⟩:=z
  rw[hd]at z1 ⊢
  refine⟨_,z1,rfl,fun t ht=>?_,fun t ht=>?_,fun id cT=>?_⟩
  ·have:t≠d:=fun e=>ht (by rw[e])
   simp[St.put,Zat this,St.wenv,z2]
  ·cases ht
   simp[St.put,Zcz,St.wenv]
  ·exact z3 id (by simpa[hd]using cT)
theorem ZjH{p q:Nat→Bool}{i:Nat}(hp:p i=true)(hq:∀j,q j=(p j&&!Nat.beq j i)):∀{l:List Nat},l.Nodup→i∈l→l.countP q+1=l.countP p
 | [],_,h=>by cases h
 | x::l,hn,hi=>by
  rw[List.nodup_cons]at hn
  rw[List.countP_cons,List.countP_cons]
  by_cases e:x=i
  ·subst e
   have:l.countP q=l.countP p:=List.countP_congr fun j hj=>by
    have:j≠x:=fun e=>hn.1 (e ▸ hj)
    rw[hq,Zat this];simp
   rw[this,hq,Zcz,hp];simp
  ·have ih:=ZjH hp hq hn.2 ((List.mem_cons.1 hi).resolve_left fun h=>e h.symm)
   rw[hq x,Zat e]
   simp only[Bool.not_false,Bool.and_true]
   omega
def unl(ops:Array Oper)(c:Nat)(listed:Array Bool)(t:Nat):Bool:=(List.range c).any fun j=>!listed.getD j false&&match ops.toList[j]? with
 | none=>false
 | some o=>Zgm o t
def Zrp(ops:Array Oper)(c:Nat)(listed:Array Bool)(S X:St):St:=X.wenv fun t=>bif unl ops c listed t then S.env t else X.env t
theorem ZlC:∀{l:List Oper},(Zaw l).Nodup→∀{i j:Nat} {o o':Oper} {t:Nat},l[i]?=some o→l[j]?=some o'→o.dst=some t→o'.dst=some t→i=j
 | [],_,i,j,o,o',t,h,_,_,_=>by simp at h
 | x::l,hn,0,0,_,_,_,_,_,_,_=>rfl
 | x::l,hn,0,j+1,o,o',t,h1,h2,h3,h4=>by
  simp at h1 h2;subst h1
  simp only[Zaw,h3,List.nodup_cons]at hn
  exact absurd (Zbc h2 h4) hn.1
 | x::l,hn,i+1,0,o,o',t,h1,h2,h3,h4=>by
  simp at h1 h2;subst h2
  simp only[Zaw,h4,List.nodup_cons]at hn
  exact absurd (Zbc h1 h3) hn.1
 | x::l,hn,i+1,j+1,o,o',t,h1,h2,h3,h4=>by
  simp at h1 h2
  have:(Zaw l).Nodup:=by
   unfold Zaw at hn
   split at hn
   ·exact hn
   ·exact(List.nodup_cons.1 hn).2
  rw[ZlC this h1 h2 h3 h4]
theorem ZuZ{E:Env}(hE:E.ok){F:Fence}(hF:FOk F){C:Ctx}(hY:YOk E C){ops:Array Oper}(bM:Zlk C.n ops.toList=true){id n:Nat}{Q:Exit→Act→World→Prop}{K:St→Mem→Prop}
  (over:∀(fuel:Nat)(listed:Array Bool)(S':St)(m':Mem)(a':Act)(w':World),listed.size=ops.size→(∀j,j < ops.size→listed.getD j false=true)→K S' m'→Rel C S' m' a' w'→wpAnyIn F n E.P .any ops Q fuel listed a' w')
  {S:St} {m:Mem} {a:Act} {w:World} (hr:Rel C S m a w) (h:ZwG E id ops K S m):wpAnyIn F n E.P .any ops Q ops.size (Array.replicate ops.size false) a w:=by
 unfold ZwG at h
 obtain⟨h1,h2⟩:=Zae h
 generalize E.lastK id=k at *
 simp only[Bool.and_eq_true]at h1
 have cH:=h1.2
 unfold Zv1 at cH
 simp only[Bool.and_eq_true,List.all_eq_true]at cH
 obtain⟨⟨jq,gA,i5⟩,rr,eQ,dZ,om⟩:=cH
 have jq:=Nat.le_of_ble_eq_true jq
 have gA:=Nat.le_of_ble_eq_true gA
 have ru:=ZaO eQ
 generalize hc:ops.size - k=c at *
 have tI:c < ops.size:=by omega
 split at h2
 ·exact h2.elim
 rename_i oc r nj
 have l6:ops.toList[c]?=some oc:=by
  have:=congrArg (fun l=>l[0]?) nj
  simpa using this
 have oo:ops[c]?=some oc:=by simpa using l6
 rw[l6]at dZ
 simp only at dZ
 split at h2
 rotate_left
 ·exact h2.elim
 rename_i q hq
 unfold ZnJ at dZ
 simp only[hq,Bool.and_eq_true]at dZ
 obtain⟨rv,dZ⟩:=dZ
 cases kQ:q.callee with
 | builtin b=>simp[kQ]at dZ
 | invoke _ _=>simp[kQ]at dZ
 | value f=>
 simp only[kQ,Bool.and_eq_true,List.all_eq_true]at dZ
 obtain⟨⟨iU,rx,oq,ml,uV,uW⟩,ou⟩:=dZ
 have rv:=Option.isNone_iff_eq_none.1 rv
 obtain⟨g0,uX⟩:∃g0,f=.func g0:=by
  cases f <;> simp[ZwF]at uV
  exact⟨_,rfl⟩
 obtain⟨dc,ov⟩:=Option.isSome_iff_exists.1 oq
 have ldAt:∀j,j < c→∃o,ops[j]?=some o∧(ops.toList.take c)[j]?=some o:=fun j hj=>by
  have:j < ops.toList.length:=by simp;omega
  refine⟨ops[j]'(by omega),by simp[show j < ops.size by omega],?_⟩
  rw[List.getElem?_take_of_lt hj];simp[show j < ops.size by omega]
 have ldOk:∀o∈ops.toList.take c,o.guard=none∧Zbv o=[]∧∃T x d,o.op=.load T x∧o.dst=some d∧Zqn E o.dst=none∧∀t,x=.tmp t→t ∉ Zaw ops.toList:=fun o ho=>by
  have:=rr o ho
  unfold Zs2 at this
  simp only[Bool.and_eq_true]at this
  obtain⟨q1,q2,q3⟩:=this
  split at q3
  ·rename_i T x lN
   simp only[Bool.and_eq_true]at q3
   obtain⟨q4,q5,q6⟩:=q3
   obtain⟨d,hd⟩:=Option.isSome_iff_exists.1 q5
   refine⟨Option.isNone_iff_eq_none.1 q1,ZiJ q2,T,x,d,lN,hd,Option.isNone_iff_eq_none.1 q4,fun t e hm=>?_⟩
   subst e
   simp only[ZnI,Bool.not_eq_true']at q6
   rw[Za9.2 hm]at q6;cases q6
  ·cases q3
 have ow:dc ∉ Zaw (ops.toList.take c):=fun hm=>by
  simp only[ZnH,ov,Bool.not_eq_true']at ml
  rw[Za9.2 hm]at ml;cases ml
 obtain⟨e,h3,hV,he⟩:=ZjG eQ (fun o ho=>by
  obtain⟨_,_,_,_,d,_,hd,_⟩:=ldOk o ho
  simp[hd]) h2
 obtain⟨h4,h5⟩:=Zae h3
 have h4:=ZiJ h4
 have unl_mem:∀{listed:Array Bool} {t:Nat},unl ops c listed t=true→t∈Zaw (ops.toList.take c):=fun {listed t} hu=>by
  unfold unl at hu
  simp only[List.any_eq_true,Bool.and_eq_true,List.mem_range]at hu
  obtain⟨j,hj,_,hu⟩:=hu
  obtain⟨o,ho,ho'⟩:=ldAt j hj
  have:ops.toList[j]?=some o:=by simpa using ho
  rw[this]at hu
  exact Zbc ho' (Zb0.1 hu)
 have takeSub:∀t,t∈Zaw (ops.toList.take c)→t∈Zaw ops.toList:=by
  have:∀(l:List Oper)(k t:Nat),t∈Zaw (l.take k)→t∈Zaw l:=by
   intro l
   induction l with
   | nil=>intro k t h;simp[Zaw]at h
   | cons x l ih=>
    intro k t h
    cases k with
    | zero=>simp[Zaw]at h
    | succ k=>
     simp only[List.take_succ_cons,Zaw]at h ⊢
     cases hx:x.dst with
     | none=>simp only[hx]at h ⊢;exact ih k t h
     | some d=>
      simp only[hx,List.mem_cons]at h ⊢
      exact h.imp (fun h=>h) (ih k t)
  exact this _ c
 have gf:∀i,c+1≤i→i < ops.size→∃o,ops[i]?=some o∧(∀j,c≤j→j < i→j∈Zbv o)∧(∀j∈Zbv o,j < i)∧(i=c+1→∀j,j < c→j∈Zbv o∨j∈Zbv oc):=by
  intro i iJ iB
  have:=om (i - c) (List.mem_range.2 (by omega))
  have dH:Nat.beq (i - c) 0=false:=Zat (by omega)
  rw[dH,cond_false,show c+(i - c)=i by omega,l6]at this
  split at this
  ·rename_i o oc' ho ry
   cases ry
   simp only[Bool.and_eq_true,List.all_eq_true]at this
   refine⟨o,by simpa using ho,fun j nn hj=>?_,fun j hj=>Nat.le_of_ble_eq_true (this.2.1 j hj),fun hi j hj=>?_⟩
   ·have h3:=Za9.1 (this.1 (j - c) (List.mem_range.2 (by omega)))
    rw[show c+(j - c)=j by omega]at h3
    exact h3
   ·have h3:=this.2.2
    rw[hi,show c+1 - c=1 by omega]at h3
    simp only[show Nat.beq 1 1=true from rfl,cond_true,List.all_eq_true,Bool.or_eq_true,List.mem_range]at h3
    exact(h3 j hj).imp Za9.1 Za9.1
  ·cases this
 have mo:ops.toList.drop (c+1)=r:=by
  have:=congrArg (List.drop 1) nj
  simpa[List.drop_drop,Nat.add_comm]using this
 have tR:r.length=ops.size - (c+1):=by rw[←mo];simp
 have memo:∀mm:Mem,E.m0=some mm→C.m0=mm:=fun mm hm=>(hY.m0 mm hm).1
 have prd:∀{o:Oper} {listed:Array Bool},(∀e∈o.after,Region.binds .any e=true→listed.getD e.on false=true)→∀j∈Zbv o,listed.getD j false=true:=fun {o listed} gJ j hj=>by
  simp only[Zbv,List.mem_map,List.mem_filter]at hj
  obtain⟨e,⟨he,hb⟩,rfl⟩:=hj
  exact gJ e (by simpa using he) hb
 have prd':∀{o:Oper} {listed:Array Bool},(∀j∈Zbv o,listed.getD j false=true)→∀e∈o.after,Region.binds .any e=true→listed.getD e.on false=true:=fun {o listed} gJ e he hb=>gJ e.on (by
  simp only[Zbv,List.mem_map,List.mem_filter]
  exact⟨e,⟨by simpa using he,hb⟩,rfl⟩)
 have main:∀(fuel:Nat)(listed:Array Bool)(X:St)(m':Mem)(a':Act)(w':World),listed.size=ops.size→(∀j,c+1≤j→listed.getD j false=false)→
   ((List.range (c+1)).countP fun j=>!listed.getD j false)+r.length≤fuel→(∀o∈ops.toList.take c,ZxJ E S (ZdZ E oc.dst) o X)→(∀id,id ∉ ZdZ E oc.dst→X.L id=S.L id)→SameOut (Zaw ops.toList) S X→
   (listed.getD c false=false→m'=m∧X=S.wenv e)→(listed.getD c false=true→ZjA E ops K r X m'∧∀p∈Zbv oc,listed.getD p false=true)→
   Rel C (Zrp ops c listed S X) m' a' w'→wpAnyIn F n E.P .any ops Q fuel listed a' w':=by
  intro fuel
  induction fuel with
  | zero=>
   intro listed X m' a' w' cM iq kC hX pS pT hA hB bN
   have hz:((List.range (c+1)).countP fun j=>!listed.getD j false)=0:=by omega
   have bV:∀j,j < c+1→listed.getD j false=true:=fun j hj=>by
    have:=List.countP_eq_zero.1 hz j (List.mem_range.2 hj)
    simpa using this
   have iM:Zrp ops c listed S X=X:=by
    have:∀t,unl ops c listed t=false:=fun t=>by
     cases hu:unl ops c listed t with
     | false=>rfl
     | true=>
      exfalso
      unfold unl at hu
      simp only[List.any_eq_true,Bool.and_eq_true,List.mem_range]at hu
      obtain⟨j,hj,hu,_⟩:=hu
      rw[bV j (by omega)]at hu;cases hu
    unfold Zrp
    simp only[this,cond_false];rfl
   rw[iM]at bN
   exact ZqD hE hF hY bM over (i0:=c+1) (fun i h1 h2=>by
    obtain⟨o,q1,q2,q3,_⟩:=gf i h1 h2
    exact⟨o,q1,fun j hj=>q2 j (by omega),q3⟩) r (c+1) mo (Nat.le_refl _) (by omega) 0 listed X m' a' w' (by omega) cM bV iq (hB (bV c (by omega))).1 bN
  | succ fuel ih=>
   intro listed X m' a' w' cM iq kC hX pS pT hA hB bN
   by_cases bV:∀j,j < c+1→listed.getD j false=true
   ·have iM:Zrp ops c listed S X=X:=by
     have:∀t,unl ops c listed t=false:=fun t=>by
      cases hu:unl ops c listed t with
      | false=>rfl
      | true=>
       exfalso
       unfold unl at hu
       simp only[List.any_eq_true,Bool.and_eq_true,List.mem_range]at hu
       obtain⟨j,hj,hu,_⟩:=hu
       rw[bV j (by omega)]at hu;cases hu
     unfold Zrp
     simp only[this,cond_false];rfl
    rw[iM]at bN
    exact ZqD hE hF hY bM over (i0:=c+1) (fun i h1 h2=>by
     obtain⟨o,q1,q2,q3,_⟩:=gf i h1 h2
     exact⟨o,q1,fun j hj=>q2 j (by omega),q3⟩) r (c+1) mo (Nat.le_refl _) (by omega) _ listed X m' a' w' (by omega) cM bV iq (hB (bV c (by omega))).1 bN
   have dec:∀{i:Nat},i < c+1→listed.getD i false=false→((List.range (c+1)).countP fun j=>!(listed.setIfInBounds i true).getD j false)+1=((List.range (c+1)).countP fun j=>!listed.getD j false):=fun {i} hi iV=>
    ZjH (p:=fun j=>!listed.getD j false) (q:=fun j=>!(listed.setIfInBounds i true).getD j false) (i:=i) (by simp[iV]) (fun j=>by
     by_cases e:j=i
     ·subst e;rw[ZcZ (by omega),Zcz];simp
     ·rw[getD_set_ne false (Ne.symm e),Zat e];simp) List.nodup_range (List.mem_range.2 hi)
   refine⟨fun cQ=>?_,fun i hi=>?_⟩
   ·exfalso
    apply bV
    have hl:∀j,j < c→listed.getD j false=true:=fun j hj=>by
     cases hb:listed.getD j false with
     | true=>rfl
     | false=>
      exfalso
      obtain⟨o,ho,ho'⟩:=ldAt j hj
      obtain⟨_,hp,_⟩:=ldOk o (List.mem_of_getElem? ho')
      have fD:j < listed.size:=by omega
      have:j∈Region.ready .any ops listed:=mem_ready.2 ⟨by simpa[Array.getD,fD]using hb,o,ho,prd' (by rw[hp];intro j hj;cases hj)⟩
      rw[cQ]at this;simp at this
    intro j hj
    by_cases e:j=c
    ·subst e
     cases hb:listed.getD j false with
     | true=>rfl
     | false=>
      exfalso
      have fD:j < listed.size:=by omega
      have:j∈Region.ready .any ops listed:=mem_ready.2 ⟨by simpa[Array.getD,fD]using hb,oc,oo,prd' fun p hp=>hl p (Nat.le_of_ble_eq_true (ou p hp))⟩
      rw[cQ]at this;simp at this
    ·exact hl j (by omega)
   obtain⟨iV,o,ho,gJ⟩:=mem_ready.1 hi
   have hi':i < ops.size:=(Array.getElem?_eq_some_iff.1 ho).1
   have hl:i < listed.size:=by omega
   have j5:listed.getD i false=false:=by simp[Array.getD,hl]at iV ⊢;exact iV
   have gJ:=prd gJ
   have lq:ops.toList[i]?=some o:=by simpa using ho
   have gX:∀j,c+1≤j→(i < c+1)→(listed.setIfInBounds i true).getD j false=false:=fun j hj hi=>by
    rw[getD_set_ne false (by omega)];exact iq j hj
   have gu:∀mm:Mem,E.m0=some mm→mm.le m':=fun mm hm=>by rw[←memo mm hm];exact bN.le
   unfold wpOpIn
   simp only[ho]
   rcases Nat.lt_trichotomy i c with pU|pU|pU
   ·
    obtain⟨o',jO,gp⟩:=ldAt i pU
    rw[ho]at jO;cases jO
    have gQ:=List.mem_of_getElem? gp
    obtain⟨hg,_,T,x,d,lN,hd,uY,uZ⟩:=ldOk o gQ
    obtain⟨T',x',d',v,q1,q2,q3,q4⟩:=hX o gQ
    rw[lN]at q1;cases q1
    rw[hd]at q2;cases q2
    have oz:opG E ops o (Zrp ops c listed S X) m' fun S' m''=>S'=(Zrp ops c listed S X).put (some d) (some (.v v))∧m''=m':=by
     unfold opG
     simp only[hg]
     unfold opW
     simp only[lN,uY]
     refine Zgh (fun u hu=>?_) (q4 (Zrp ops c listed S X) m' (fun t ht=>?_) (fun id cT=>pS id cT) gu)
     ·subst hu;rw[hd];first|exact⟨rfl,rfl⟩|exact⟨rfl,trivial⟩
     ·have u0:=uZ t ht
      show(bif unl ops c listed t then S.env t else X.env t)=S.env t
      cases unl ops c listed t with
      | true=>rfl
      | false=>exact(pT t u0)
    refine Zd6 hE hF hY (Zdi bM _ o lq) bN oz (n:=n) (Q:=Q) (next:=wpAnyIn F n E.P .any ops Q fuel (listed.setIfInBounds i true)) (fun S2 m2 a2 w2 gA gK=>?_)
    obtain⟨rfl,rfl⟩:=gA
    have tS:(listed.setIfInBounds i true).getD c false=listed.getD c false:=getD_set_ne false (by omega)
    refine ih _ X m2 a2 w2 (by simpa using cM) (fun j hj=>gX j hj (by omega)) (by have:=dec (i:=i) (by omega) j5;omega) hX pS pT (fun hb=>hA (tS ▸ hb)) (fun hb=>?_) ?_
    ·obtain⟨q5,q6⟩:=hB (tS ▸ hb)
     refine⟨q5,fun p hp=>?_⟩
     by_cases e:p=i
     ·subst e;exact ZcZ hl
     ·rw[getD_set_ne false (Ne.symm e)];exact q6 p hp
    ·have:(Zrp ops c listed S X).put (some d) (some (.v v))=Zrp ops c (listed.setIfInBounds i true) S X:=by
      have mq:∀t,unl ops c (listed.setIfInBounds i true) t=(unl ops c listed t&&!Nat.beq t d):=fun t=>by
       by_cases ht:t=d
       ·subst ht
        rw[Zcz]
        simp only[Bool.not_true,Bool.and_false]
        cases hu:unl ops c (listed.setIfInBounds i true) t with
        | false=>rfl
        | true=>
         exfalso
         unfold unl at hu
         simp only[List.any_eq_true,Bool.and_eq_true,List.mem_range]at hu
         obtain⟨j,hj,gx,i7⟩:=hu
         obtain⟨oj,rz,rA⟩:=ldAt j hj
         have:ops.toList[j]?=some oj:=by simpa using rz
         rw[this]at i7
         have:j=i:=ZlC ru rA gp (Zb0.1 i7) hd
         subst this
         rw[ZcZ hl]at gx;cases gx
       ·rw[Zat ht]
        simp only[Bool.not_false,Bool.and_true]
        unfold unl
        rw[Bool.eq_iff_iff]
        simp only[List.any_eq_true,Bool.and_eq_true,List.mem_range]
        constructor
        ·rintro⟨j,hj,gx,i7⟩
         refine⟨j,hj,?_,i7⟩
         by_cases e:j=i
         ·subst e;rw[ZcZ hl]at gx;cases gx
         ·rw[getD_set_ne false (Ne.symm e)]at gx;exact gx
        ·rintro⟨j,hj,gx,i7⟩
         refine⟨j,hj,?_,i7⟩
         by_cases e:j=i
         ·subst e
          rw[lq]at i7
          have:=Zb0.1 i7
          rw[hd]at this;cases this
          exact absurd rfl ht
         ·rw[getD_set_ne false (Ne.symm e)];exact gx
      unfold Zrp St.wenv St.put
      simp only[mq]
      congr 1
      funext t
      by_cases ht:t=d
      ·subst ht;simp[Zcz,q3]
      ·simp[Zat ht]
     rw[←this];exact gK
   ·
    subst pU
    rw[oo]at ho;cases ho
    obtain⟨rfl,rfl⟩:=hA j5
    have u2:S.wenv e=(Zrp ops i listed S (S.wenv e)).wenv e:=rfl
    have lR:∀x∈q.args.toList,∀t,x=.tmp t→e t=(Zrp ops i listed S (S.wenv e)).env t:=fun x hx t ht=>by
     show e t=(bif unl ops i listed t then S.env t else e t)
     cases hu:unl ops i listed t with
     | false=>rfl
     | true=>
      exfalso
      unfold unl at hu
      simp only[List.any_eq_true,Bool.and_eq_true,List.mem_range]at hu
      obtain⟨j,hj,gx,i7⟩:=hu
      have:=uW j (List.mem_range.2 hj)
      simp only[Bool.or_eq_true]at this
      rcases this with h6|h6
      ·rw[gJ j (Za9.1 h6)]at gx;cases gx
      ·split at h6
       ·cases h6
       ·rename_i oj rz
        rw[rz]at i7
        have u4:=Zb0.1 i7
        simp only[u4,List.all_eq_true]at h6
        have:=h6 x hx
        subst ht
        simp[ZnI,mem,Zcz]at this
    rw[u2]at h5 h4
    have h6:=ZnQ rv hq kQ iU (ZiJ rx) oq uX lR h4 h5
    refine Zd6 hE hF hY (Zdi bM _ _ l6) bN h6 (n:=n) (Q:=Q) (next:=wpAnyIn F n E.P .any ops Q fuel (listed.setIfInBounds i true)) (fun S2 m2 a2 w2 gA gK=>?_)
    obtain⟨X2,z1,z2,z3,z4,z5⟩:=gA
    have rB:∀t,t≠dc→X2.env t=e t:=fun t ht=>(z3 t (by rw[ov];exact fun h=>ht (Option.some.inj h).symm)).1
    refine ih _ X2 m2 a2 w2 (by simpa using cM) (fun j hj=>gX j hj (by omega)) (by have:=dec (i:=i) (by omega) j5;omega) (fun o' ho'=>?_) (fun id cT=>(z5 id cT).trans (pS id cT)) (fun t ht=>?_) (fun hb=>?_) (fun _=>⟨z1,fun p hp=>?_⟩) ?_
    ·obtain⟨T',x',d',v,q1,q2,q3,q4⟩:=hX o' ho'
     refine⟨T',x',d',v,q1,q2,?_,q4⟩
     obtain⟨j,hj⟩:=List.getElem?_of_mem ho'
     rw[rB d' (fun e=>ow (e ▸ Zbc hj q2))];exact q3
    ·have:t≠dc:=fun e=>ht (e ▸ Zbc l6 ov)
     rw[rB t this];exact pT t ht
    ·rw[ZcZ hl]at hb;cases hb
    ·have:=gJ p hp
     by_cases e:p=i
     ·subst e;exact ZcZ hl
     ·rw[getD_set_ne false (Ne.symm e)];exact this
    ·have:S2=Zrp ops i (listed.setIfInBounds i true) S X2:=by
      have mq:∀t,unl ops i (listed.setIfInBounds i true) t=unl ops i listed t:=fun t=>by
       unfold unl
       rw[Bool.eq_iff_iff]
       simp only[List.any_eq_true,Bool.and_eq_true,List.mem_range]
       constructor
       ·rintro⟨j,hj,gx,i7⟩
        rw[getD_set_ne false (by omega)]at gx
        exact⟨j,hj,gx,i7⟩
       ·rintro⟨j,hj,gx,i7⟩
        exact⟨j,hj,by rw[getD_set_ne false (by omega)];exact gx,i7⟩
      have hs:S2=X2.wenv S2.env:=by rw[←z2];rfl
      rw[hs]
      unfold Zrp
      congr 1
      funext t
      rw[mq]
      by_cases ht:t=dc
      ·subst ht
       have:unl ops i listed t=false:=by
        cases hu:unl ops i listed t with
        | false=>rfl
        | true=>exact absurd (unl_mem hu) ow
       rw[this,cond_false]
       exact z4 t ov
      ·rw[(z3 t (by rw[ov];exact fun h=>ht (Option.some.inj h).symm)).2,rB t ht]
       rfl
     rw[←this];exact gK
   ·exfalso
    obtain⟨o3,mj,kP,_,rC⟩:=gf i (by omega) hi'
    rw[mj]at ho;cases ho
    by_cases oA:i=c+1
    ·apply bV
     intro j hj
     by_cases e:j=c
     ·subst e;exact gJ _ (kP _ (Nat.le_refl _) (by omega))
     ·rcases rC oA j (by omega)with h6|h6
      ·exact gJ j h6
      ·exact(hB (gJ c (kP c (Nat.le_refl _) (by omega)))).2 j h6
    ·have:=gJ (c+1) (kP (c+1) (by omega) (by omega))
     rw[iq (c+1) (Nat.le_refl _)]at this;cases this
 have none0:∀j,(Array.replicate ops.size false).getD j false=false:=fun j=>by simp[Array.getD]
 refine main ops.size _ (S.wenv e) m a w (by simp) (fun j _=>none0 j) ?_ hV (fun _ _=>rfl) (fun t ht=>he t (fun hm=>ht (takeSub t hm))) (fun _=>⟨rfl,rfl⟩) (fun hb=>?_) ?_
 ·have:=List.countP_le_length (p:=fun j=>!(Array.replicate ops.size false).getD j false) (l:=List.range (c+1))
  simp only[List.length_range]at this
  omega
 ·rw[none0]at hb;cases hb
 ·have:Zrp ops c (Array.replicate ops.size false) S (S.wenv e)=S:=by
   have:∀t,(bif unl ops c (Array.replicate ops.size false) t then S.env t else e t)=S.env t:=fun t=>by
    cases hu:unl ops c (Array.replicate ops.size false) t with
    | true=>rfl
    | false=>
     refine he t fun hm=>?_
     have:unl ops c (Array.replicate ops.size false) t=true:=by
      have u5:∀{l:List Oper} {t:Nat},t∈Zaw l→∃(j:Nat)(o:Oper),l[j]?=some o∧o.dst=some t:=by
       intro l
       induction l with
       | nil=>intro t h;simp[Zaw]at h
       | cons x l ih=>
        intro t h
        unfold Zaw at h
        split at h
        ·obtain⟨j,o,h1,h2⟩:=ih h
         exact⟨j+1,o,by simpa using h1,h2⟩
        ·rename_i d hd
         rcases List.mem_cons.1 h with rfl|h
         ·exact⟨0,x,by simp,hd⟩
         ·obtain⟨j,o,h1,h2⟩:=ih h
          exact⟨j+1,o,by simpa using h1,h2⟩
      obtain⟨j,o,hj,hd⟩:=u5 hm
      have tT:j < c:=by
       have:=(List.getElem?_eq_some_iff.1 hj).1
       simp at this;omega
      have hj':ops.toList[j]?=some o:=by rw[List.getElem?_take_of_lt tT]at hj;exact hj
      unfold unl
      simp only[List.any_eq_true,Bool.and_eq_true,List.mem_range]
      refine⟨j,tT,by rw[none0];rfl,?_⟩
      rw[hj'];exact Zb0.2 hd
     rw[hu]at this;cases this
   unfold Zrp St.wenv
   cases S
   simp only at this ⊢
   congr 1
   funext t;exact this t
  rw[this];exact hr
end Go.Eng
namespace Go.Eng
open Go Go.RowKit
theorem Zkz:∀{l:List DOp} {p j:Nat},j∈ZwE l p→∃c∈l,c.i=p∧j∈c.an
 | [],p,j,h=>by simp[ZwE]at h
 | d::l,p,j,h=>by
  simp only[ZwE]at h
  cases hb:Nat.beq d.i p with
  | true=>simp only[hb,cond_true]at h;exact⟨d,by simp,Nat.eq_of_beq_eq_true hb,h⟩
  | false=>
   simp only[hb,cond_false]at h
   obtain⟨c,hc,h1⟩:=Zkz h
   exact⟨c,by simp[hc],h1⟩
theorem ZnR{E:Env}{ops:Array Oper}:∀{r before l1:List DOp} {d:DOp} {l2:List DOp},Zi5 E ops r before=true→r=l1++d::l2→Zv0 E ops d (l1.reverse++before)=true
 | [],before,l1,d,l2,h,e=>by simp at e
 | x::r,before,[],d,l2,h,e=>by
  simp only[Zi5,Bool.and_eq_true]at h
  simp at e
  rw[←e.1];exact h.1
 | x::r,before,y::l1,d,l2,h,e=>by
  simp only[Zi5,Bool.and_eq_true]at h
  simp at e
  obtain⟨rfl,e⟩:=e
  have:=ZnR h.2 e
  simpa using this
structure Fact (E:Env)(ops:Array Oper)(ds:List DOp)(d:DOp)(o:Oper):Prop where
 ok:DOk E ops d o
 vw:∀j,j∈d.vw→j∈d.an
 an:∀j,j∈d.an→j∈Zbv o∨∃p∈Zbv o,∃c∈ds,c.i=p∧j∈c.an
theorem ZkA{E:Env}{ops:Array Oper}{ds:List DOp}(h:Zi5 E ops ds []=true){l1 l2:List DOp}{d:DOp}(e:ds=l1++d::l2):
  ∃o,Fact E ops ds d o∧(∀p∈Zbv o,∃c∈l1,c.i=p)∧(∀c∈l1,(c.i∈d.an∨Zqx ops c d=true)∧c.i≠d.i):=by
 have h1:=ZnR h e
 simp only[List.append_nil]at h1
 unfold Zv0 at h1
 split at h1
 ·cases h1
 ·rename_i o ho
  simp only[Bool.and_eq_true,List.all_eq_true,Bool.or_eq_true,List.any_eq_true]at h1
  obtain⟨⟨⟨⟨⟨⟨g1,g2⟩,g3⟩,g4,g5⟩,g6⟩,g7⟩,g8⟩:=h1
  have gQ:∀c∈l1.reverse,c∈ds:=fun c hc=>by rw[e];simp at hc ⊢;exact .inl hc
  refine⟨o,⟨⟨ho,g1,ZhP g2,ZhP g3⟩,ZhP g4,fun j hj=>?_⟩,fun p hp=>?_,fun c hc=>⟨?_,?_⟩⟩
  ·rcases g6 j hj with h2|⟨p,hp,h2⟩
   ·exact .inl (Za9.1 h2)
   ·obtain⟨c,hc,h3,h4⟩:=Zkz (Za9.1 h2)
    exact .inr ⟨p,hp,c,gQ c hc,h3,h4⟩
  ·have:=ZhP g5 p hp
   obtain⟨c,hc,h2⟩:=List.mem_map.1 this
   exact⟨c,by simpa using hc,h2⟩
  ·exact(g7 c (by simpa using hc)).imp Za9.1 id
  ·have:=g8 c (by simpa using hc)
   intro e;rw[e,Zcz]at this;simp at this
theorem ZgZ{α:Type}{R:α→α→Prop}:∀{l:List α},(∀l1 d l2,l=l1++d::l2→∀c∈l1,R c d)→l.Pairwise R
 | [],_=>List.Pairwise.nil
 | x::l,h=>by
  refine List.Pairwise.cons (fun y hy=>?_) (ZgZ fun l1 d l2 e c hc=>h (x::l1) d l2 (by simp[e]) c (by simp[hc]))
  obtain⟨s,t,rfl⟩:=List.append_of_mem hy
  exact h (x::s) y t (by simp) x (by simp)
structure Inv (ds:List DOp)(dn:Nat→Bool)(rem:List DOp):Prop where
 rem:rem=ds.filter fun c=>!dn c.i
 closed:∀d∈ds,dn d.i=true→∀j,j∈d.an→dn j=true
section
variable {E:Env} {ops:Array Oper} {ds:List DOp} {dn:Nat→Bool}
theorem Inv.an_of{rem:List DOp}(h:Inv ds dn rem){d:DOp}{o:Oper}(hd:Fact E ops ds d o)(hp:∀p,p∈Zbv o→dn p=true):∀j,j∈d.an→dn j=true:=fun j hj=>by
 rcases hd.an j hj with h1|⟨p,h1,c,h2,h3,h4⟩
 ·exact hp j h1
 ·exact h.closed c h2 (h3 ▸ hp p h1) j h4
theorem Inv.step{r1 r2:List DOp}{d:DOp}(hp:ds.Pairwise fun c d=>c.i≠d.i)(h:Inv ds dn (r1++d::r2))(hd:∀j,j∈d.an→dn j=true):Inv ds (fun j=>dn j||Nat.beq j d.i) (r1++r2):=by
 have gJ:(r1++d::r2).Pairwise fun c d=>c.i≠d.i:=by rw[h.rem];exact hp.sublist List.filter_sublist
 refine⟨?_,fun c hc oq j hj=>?_⟩
 ·have e:(ds.filter fun c=>!(dn c.i||Nat.beq c.i d.i))=(r1++d::r2).filter fun c=>!Nat.beq c.i d.i:=by
   rw[h.rem,List.filter_filter]
   congr 1;funext c
   cases dn c.i <;> simp
  rw[e,List.filter_append,List.filter_cons]
  simp only[Zcz,Bool.not_true,Bool.false_eq_true,if_false]
  rw[List.pairwise_append]at gJ
  obtain⟨_,h2,h3⟩:=gJ
  rw[List.pairwise_cons]at h2
  rw[List.filter_eq_self.2,List.filter_eq_self.2]
  ·intro c hc
   have:=h2.1 c hc
   simp[Zat (Ne.symm this)]
  ·intro c hc
   have:=h3 c hc d (by simp)
   simp[Zat this]
 ·simp only[Bool.or_eq_true]at oq ⊢
  rcases oq with h1|h1
  ·exact .inl (h.closed c hc h1 j hj)
  ·have:c=d:=by
    have lr:d∈ds:=by
     have:d∈ds.filter fun c=>!dn c.i:=by rw[←h.rem];simp
     exact(List.mem_filter.1 this).1
    have hi:=Nat.eq_of_beq_eq_true h1
    by_cases e:c=d
    ·exact e
    ·exfalso
     obtain⟨s,t,rfl⟩:=List.append_of_mem hc
     rw[List.pairwise_append,List.pairwise_cons]at hp
     simp only[List.mem_append,List.mem_cons]at lr
     rcases lr with lr|lr|lr
     ·exact hp.2.2 d lr c (by simp) hi.symm
     ·exact e lr.symm
     ·exact hp.2.1.1 d lr hi
   subst this
   exact .inl (hd j hj)
theorem Inv.head{d:DOp}{r:List DOp}(cH:Zi5 E ops ds []=true)(h:Inv ds dn (d::r)):∃o,Fact E ops ds d o∧∀p,p∈Zbv o→dn p=true:=by
 obtain⟨l1,l2,h1,h2,h3,_⟩:=List.filter_eq_cons_iff.1 h.rem.symm
 obtain⟨o,hf,hp,_⟩:=ZkA cH h1
 refine⟨o,hf,fun p nP=>?_⟩
 obtain⟨c,hc,rfl⟩:=hp p nP
 have:=h2 c hc
 simpa using this
theorem Inv.topo(cH:Zi5 E ops ds []=true)(hp:ds.Pairwise fun c d=>c.i≠d.i):∀{r1 r2:List DOp} {dn:Nat→Bool},Inv ds dn (r1++r2)→Zv2 (fun j=>dn j=true) r1
 | [],r2,dn,h=>trivial
 | c::r1,r2,dn,h=>by
  obtain⟨o,hf,gJ⟩:=h.head cH
  have np:=h.an_of hf gJ
  refine⟨fun j hj=>np j (hf.vw j hj),?_⟩
  have:=Inv.topo cH hp (r1:=r1) (r2:=r2) (Inv.step (r1:=[]) hp h np)
  have e:(fun j=>(dn j||Nat.beq j c.i)=true)=(fun j=>dn j=true∨j=c.i):=by
   funext j
   rw[Bool.or_eq_true]
   exact propext ⟨fun h=>h.imp id Nat.eq_of_beq_eq_true,fun h=>h.imp id fun e=>by rw[e];exact Zcz _⟩
  rw[e]at this
  exact this
end
theorem ZhR{ops:Array Oper}:∀{ds:List DOp} {j:Nat},j∈Zi1 ops ds→∃d∈ds,d.i=j
 | [],j,h=>by simp[Zi1]at h
 | d::r,j,h=>by
  simp only[Zi1]at h
  split at h
  ·obtain⟨c,hc,e⟩:=ZhR h;exact⟨c,by simp[hc],e⟩
  ·rename_i o _
   cases hg:Zeq o with
   | true=>
    simp only[hg,cond_true,List.mem_cons]at h
    rcases h with h|h
    ·exact⟨d,by simp,h.symm⟩
    ·obtain⟨c,hc,e⟩:=ZhR h;exact⟨c,by simp[hc],e⟩
   | false=>
    simp only[hg,cond_false]at h
    obtain⟨c,hc,e⟩:=ZhR h;exact⟨c,by simp[hc],e⟩
theorem ZkB{ops:Array Oper}:∀{ds:List DOp},Zi1 ops ds=[]→∀d∈ds,∀o,ops.toList[d.i]?=some o→Zeq o=false
 | [],_,d,hd=>by simp at hd
 | c::r,h,d,hd=>fun o ho=>by
  simp only[Zi1]at h
  rcases List.mem_cons.1 hd with rfl|hd
  ·simp only[ho]at h
   cases hg:Zeq o with
   | false=>rfl
   | true=>simp[hg]at h
  ·split at h
   ·exact ZkB h d hd o ho
   ·rename_i oc _
    cases hg:Zeq oc with
    | true=>simp[hg]at h
    | false=>simp only[hg,cond_false]at h;exact ZkB h d hd o ho
theorem ZnS{C:Ctx}{E:Env}(hE:E.ok){F:Fence}(hF:FOk F)(hY:YOk E C){ops:Array Oper}(bM:Zlk C.n ops.toList=true)(gW:E.fix=none){m0:Mem}{f:Fx}{ds:List DOp}(cH:Zi5 E ops ds []=true)
  {n e:Nat} {Q:Exit→Act→World→Prop} {K:St→Mem→Prop}
  (mr:∀(listed:Array Bool)(rem:List DOp) i,Inv ds (fun j=>listed.getD j false) rem→(∀j,listed.getD j false=true→∃d∈ds,d.i=j)→listed.size=ops.size→i∈Region.ready .any ops listed→(∃d∈ds,d.i=i)∨∀d∈ds,listed.getD d.i false=true)
  (j2:∀(fuel:Nat)(listed:Array Bool)(S':St)(m':Mem)(a':Act)(w':World),e≤fuel→listed.size=ops.size→(∀d∈ds,listed.getD d.i false=true)→(∀j,listed.getD j false=true→∃d∈ds,d.i=j)→K S' m'→Rel C S' m' a' w'→wpAnyIn F n E.P .any ops Q fuel listed a' w'):
  ∀(fuel:Nat){listed:Array Bool}{rem:List DOp}{S:St}{μ:Nat→Mem}{A:Mem}{a:Act}{w:World},listed.size=ops.size→Inv ds (fun j=>listed.getD j false) rem→rem.length+e≤fuel→Rel C S A a w→m0.le A→
   (∀j,listed.getD j false=true→(μ j).le A)→(∀j,listed.getD j false=true→∃d∈ds,d.i=j)→(Zi1 ops ds=[]→A=m0)→(∀d∈ds,(∀i,i∈d.ws→i∈S.ids)∧∀k,d.tk=some k→k∈S.tkeys)→
   ZiZ E ops m0 f rem (fun S' μ=>ZvY m0 μ (Zi1 ops ds) fun M=>K S' M) S μ→wpAnyIn F n E.P .any ops Q fuel listed a w:=by
 have lh:ds.Pairwise fun c d=>(c.i∈d.an∨Zqx ops c d=true)∧c.i≠d.i:=ZgZ fun l1 d l2 e c hc=>by
  obtain⟨o,_,_,h⟩:=ZkA cH e
  exact h c hc
 have lm:ds.Pairwise fun c d=>c.i≠d.i:=lh.imp fun h=>h.2
 have factOf:∀d∈ds,∃o,Fact E ops ds d o:=fun d hd=>by
  obtain⟨s,t,e⟩:=List.append_of_mem hd
  obtain⟨o,h,_⟩:=ZkA cH e
  exact⟨o,h⟩
 have allOf:∀{listed:Array Bool} {rem:List DOp},Inv ds (fun j=>listed.getD j false) rem→rem=[]→∀d∈ds,listed.getD d.i false=true:=fun dA he d hd=>by
  subst he
  have:=List.filter_eq_nil_iff.1 dA.rem.symm d hd
  simpa using this
 have fin:∀{fuel:Nat} {listed:Array Bool} {rem:List DOp} {S:St} {μ:Nat→Mem} {A:Mem} {a:Act} {w:World},listed.size=ops.size→Inv ds (fun j=>listed.getD j false) rem→Rel C S A a w→m0.le A→(∀j,listed.getD j false=true→(μ j).le A)→(∀j,listed.getD j false=true→∃d∈ds,d.i=j)→(Zi1 ops ds=[]→A=m0)→
   ZiZ E ops m0 f rem (fun S' μ=>ZvY m0 μ (Zi1 ops ds) fun M=>K S' M) S μ→rem=[]→e≤fuel→wpAnyIn F n E.P .any ops Q fuel listed a w:=by
  intro fuel listed rem S μ A a w cM dA hr h0 hμ hl hg hn he kC
  have bV:=allOf dA he
  subst he
  refine j2 fuel listed S A a w kC cM bV hl (ZrR hn h0 hg fun j hj=>?_) hr
  obtain⟨d,hd,rfl⟩:=ZhR hj
  exact hμ _ (bV d hd)
 have stuck:∀{listed:Array Bool} {rem:List DOp},listed.size=ops.size→Inv ds (fun j=>listed.getD j false) rem→Region.ready .any ops listed=[]→rem=[]:=by
  intro listed rem cM dA cQ
  cases rem with
  | nil=>rfl
  | cons d r=>
   exfalso
   obtain⟨o,hf,hp⟩:=dA.head cH
   have cU:d∈ds.filter fun c=>!listed.getD c.i false:=by rw[←dA.rem];simp
   have h1:=(List.mem_filter.1 cU).2
   have ho':ops[d.i]?=some o:=by simpa using hf.ok.at_
   have bL:d.i < ops.size:=(Array.getElem?_eq_some_iff.1 ho').1
   have:d.i∈Region.ready .any ops listed:=mem_ready.2 ⟨by
    have hl:d.i < listed.size:=by omega
    simpa[Array.getD,hl]using h1,o,ho',fun e he hb=>hp e.on (by
     simp only[Zbv,List.mem_map,List.mem_filter]
     exact⟨e,⟨by simpa using he,hb⟩,rfl⟩)⟩
   rw[cQ]at this;simp at this
 intro fuel
 induction fuel with
 | zero=>
  intro listed rem S μ A a w cM dA bO hr h0 hμ jt hg eL hn
  have he:rem=[]:=List.eq_nil_of_length_eq_zero (by omega)
  exact fin cM dA hr h0 hμ jt hg hn he (by omega)
 | succ fuel ih=>
  intro listed rem S μ A a w cM dA bO hr h0 hμ jt hg eL hn
  by_cases mt:rem=[]
  ·exact fin cM dA hr h0 hμ jt hg hn mt (by omega)
  refine⟨fun cQ=>absurd (stuck cM dA cQ) mt,fun i hi=>?_⟩
  rcases mr listed rem i dA jt cM hi with⟨d,hd,rfl⟩|oB
  rotate_left
  ·exfalso
   apply mt
   rw[dA.rem,List.filter_eq_nil_iff]
   intro d hd
   simp[oB d hd]
  obtain⟨iV,o,ho,bV⟩:=mem_ready.1 hi
  have bL:d.i < ops.size:=(Array.getElem?_eq_some_iff.1 ho).1
  have hl:d.i < listed.size:=by omega
  have j5:listed.getD d.i false=false:=by simp[Array.getD,hl]at iV ⊢;exact iV
  obtain⟨o',hf⟩:=factOf d hd
  have:o'=o:=by
   have h1:=hf.ok.at_
   have h2:ops.toList[d.i]?=some o:=by simpa using ho
   rw[h1]at h2;exact Option.some.inj h2
  subst this
  have gJ:∀p,p∈Zbv o'→listed.getD p false=true:=fun p hp=>by
   simp only[Zbv,List.mem_map,List.mem_filter]at hp
   obtain⟨e,⟨he,hb⟩,rfl⟩:=hp
   exact bV e (by simpa using he) hb
  have np:=dA.an_of hf gJ
  have nj:d∈rem:=by rw[dA.rem];exact List.mem_filter.2 ⟨hd,by simp[j5]⟩
  obtain⟨r1,r2,rfl⟩:=List.append_of_mem nj
  have dC:(r1++d::r2).Sublist ds:=by rw[dA.rem];exact List.filter_sublist
  have oC:=lh.sublist dC
  have gI:∀c∈r1,Zqx ops c d=true:=fun c hc=>by
   rw[List.pairwise_append]at oC
   rcases(oC.2.2 c hc d (by simp)).1 with h1|h1
   ·have h2:=np _ h1
    have u6:c∈ds.filter fun c=>!listed.getD c.i false:=by rw[←dA.rem];simp[hc]
    have h3:=(List.mem_filter.1 u6).2
    rw[h2]at h3;cases h3
   ·exact h1
  have gQ:∀c∈r1++d::r2,c∈ds:=fun c hc=>dC.subset hc
  have hT:=extract hE hF hY bM gW (r1:=r1) (D:=fun j=>listed.getD j false=true) hr h0 hμ (dA.topo cH lm) (fun c hc=>by
   obtain⟨oc,k9⟩:=factOf c (gQ c (by simp[hc]))
   exact⟨⟨oc,k9.ok⟩,eL c (gQ c (by simp[hc]))⟩) gI hn
  refine ZqB hE hF hY bM gW hf.ok (eL d hd).1 (eL d hd).2 hr h0 (fun j hj=>hμ j (np j (hf.vw j hj))) hT ?_
  intro S' m' A' a' w' ge bN hA hm ls
  have oD:(fun j=>(listed.setIfInBounds d.i true).getD j false)=fun j=>listed.getD j false||Nat.beq j d.i:=by
   funext j
   by_cases hj:j=d.i
   ·subst hj;simp[Array.getD,hl]
   ·have:Nat.beq j d.i=false:=Zat hj
    rw[getD_set_ne false (Ne.symm hj),this,Bool.or_false]
  refine ih (rem:=r1++r2) (S:=Zpy ops d S S') (μ:=upd μ d.i m') (A:=A') (by simpa using cM) ?_ (by simp at bO ⊢;omega) bN (Mem.le_trans h0 hA) ?_ ?_ ?_ ?_ (ZqA hf.ok.ws gI hn ge)
  ·rw[oD];exact dA.step lm np
  ·intro j hj
   have hj':(listed.getD j false||Nat.beq j d.i)=true:=by rw[←hj];exact(congrFun oD j).symm
   by_cases e:j=d.i
   ·subst e;rw[ZqC];exact hm
   ·rw[ZuX e]
    rw[Zat e,Bool.or_false]at hj'
    exact Mem.le_trans (hμ j hj') hA
  ·intro j hj
   have hj':(listed.getD j false||Nat.beq j d.i)=true:=by rw[←hj];exact(congrFun oD j).symm
   rw[Bool.or_eq_true]at hj'
   rcases hj' with h|h
   ·exact jt j h
   ·exact⟨d,hd,(Nat.eq_of_beq_eq_true h).symm⟩
  ·intro tU
   rw[ls (ZkB tU d hd o' hf.ok.at_)]
   exact hg tU
  ·intro c hc
   rw[(Zky ops d S S').1,(Zky ops d S S').2]
   exact eL c hc
theorem ZnT:∀{ds:List DOp} {d:DOp} {i:Nat},d∈ds→i∈d.ws→i∈ZuR ds
 | [],d,i,hd,_=>by simp at hd
 | c::r,d,i,hd,hi=>by
  simp only[ZuR,List.mem_append]
  rcases List.mem_cons.1 hd with rfl|hd
  ·exact .inl hi
  ·exact .inr (ZnT hd hi)
theorem ZnU:∀{ds:List DOp} {d:DOp} {k:Nat},d∈ds→d.tk=some k→k∈Zuv ds
 | [],d,k,hd,_=>by simp at hd
 | c::r,d,k,hd,hk=>by
  simp only[Zuv]
  rcases List.mem_cons.1 hd with rfl|hd
  ·simp[hk]
  ·have:=ZnU hd hk
   cases c.tk <;> simp[this]
theorem ZnV{C:Ctx}{S:St}{m:Mem}{a:Act}{w:World}(h:Rel C S m a w)(ds:List DOp):Rel C (Zku ds S) m a w:=
 h.restrict rfl (fun _ _ hx=>hx) (fun _ _ ht=>.inl ht) (fun i sv he=>by
  obtain⟨v,h1,h2⟩:=h.env i sv he
  exact⟨v,by cases sv <;> exact h1,h2⟩) (fun id x hx=>by simp only[Zku];exact List.mem_append_right _ (h.ids id x hx)) (fun k t ht=>by simp only[Zku];exact List.mem_append_right _ (h.tkeys k t ht))
theorem ZlD{E:Env}(hE:E.ok)(eO:E.P.follows .mixedOrders=true):Zea E (Zkv E):=by
 intro C F hF hY n id ops K S m a w Q bM hr h hK
 have over:∀(fuel:Nat)(listed:Array Bool)(S':St)(m':Mem)(a':Act)(w':World),listed.size=ops.size→(∀j,j < ops.size→listed.getD j false=true)→K S' m'→Rel C S' m' a' w'→wpAnyIn F n E.P .any ops Q fuel listed a' w':=by
  intro fuel listed S' m' a' w' cM bV hk bN
  have iq:Region.ready .any ops listed=[]:=by
   cases cQ:Region.ready .any ops listed with
   | nil=>rfl
   | cons i l=>
    exfalso
    have hi:i∈Region.ready .any ops listed:=by rw[cQ];simp
    obtain⟨iV,o,ho,_⟩:=mem_ready.1 hi
    have bL:i < ops.size:=(Array.getElem?_eq_some_iff.1 ho).1
    have h1:=bV i bL
    have hl:i < listed.size:=by omega
    simp[Array.getD,hl]at iV h1
    rw[iV]at h1;cases h1
  cases fuel with
  | zero=>exact⟨iq,hK _ _ _ _ hk bN⟩
  | succ fuel=>exact⟨fun _=>hK _ _ _ _ hk bN,fun i hi=>by rw[iq]at hi;simp at hi⟩
 unfold Zkv at h
 cases hh:E.hot id with
 | true=>
  simp only[hh,cond_true]at h
  exact wpIn_region_any eO (ZuZ hE hF hY bM over hr.drew h)
 | false=>
 simp only[hh,cond_false]at h
 obtain⟨h1,h2⟩:=Zae h
 obtain⟨f,h2⟩:=ZtG h2
 have h2:ZiZ E ops m f (E.dr id) (fun S' μ=>ZvY m μ (Zi1 ops (E.dr id)) fun M=>bif E.last id then ZrO E ops (E.lastK id) K S' M else K S' M) (Zku (E.dr id) S) (fun _=>m):=by
  cases oa:E.gb with
  | false=>simp only[oa,cond_false]at h2;exact h2
  | true=>simp only[oa,cond_true]at h2;exact ZjB h2
 simp only[ZuS,Bool.and_eq_true,List.all_eq_true,List.any_eq_true]at h1
 obtain⟨⟨⟨⟨mr,bO⟩,cH⟩,gW⟩,cF⟩:=h1
 refine wpIn_region_any eO ?_
 have ie:∀i,i < (bif E.last id then ops.size - E.lastK id else ops.size)→∃d∈E.dr id,d.i=i:=fun i hi=>by
  obtain⟨d,hd,e⟩:=mr i (List.mem_range.2 hi)
  exact⟨d,hd,Nat.eq_of_beq_eq_true e⟩
 have bO:(E.dr id).length≤ops.size:=Nat.le_of_ble_eq_true bO
 have inv0:Inv (E.dr id) (fun j=>(Array.replicate ops.size false).getD j false) (E.dr id):=by
  refine⟨(List.filter_eq_self.2 fun c hc=>?_).symm,fun d hd oD=>?_⟩
  ·simp[Array.getD]
  ·simp[Array.getD]at oD
 have none0:∀j,(Array.replicate ops.size false).getD j false=true→False:=fun j hj=>by simp[Array.getD]at hj
 have ids0:∀d∈E.dr id,(∀i,i∈d.ws→i∈(Zku (E.dr id) S).ids)∧∀k,d.tk=some k→k∈(Zku (E.dr id) S).tkeys:=fun d hd=>
  ⟨fun i hi=>List.mem_append_left _ (ZnT hd hi),fun k hk=>List.mem_append_left _ (ZnU hd hk)⟩
 cases hl:E.last id with
 | false=>
  simp only[hl,cond_false]at h2 ie
  refine ZnS hE hF hY bM (by simpa using gW) cH (e:=0) (fun listed _ i _ _ _ hi=>.inl ?_) (fun fuel listed S' m' a' w' _ cM bV _ hk bN=>over fuel listed S' m' a' w' cM (fun j hj=>by obtain⟨d,hd,rfl⟩:=ie j hj;exact bV d hd) hk bN) ops.size (rem:=E.dr id) (A:=m) (by simp) inv0 (by omega) ((ZnV hr.drew (E.dr id))) (Mem.le_refl m) (fun j hj=>(none0 j hj).elim) (fun j hj=>(none0 j hj).elim) (fun _=>rfl) ids0 h2
  obtain⟨_,o,ho,_⟩:=mem_ready.1 hi
  exact ie i (Array.getElem?_eq_some_iff.1 ho).1
 | true=>
  simp only[hl,cond_true]at h2 ie cF
  generalize E.lastK id=k at *
  unfold ZuT at cF
  simp only[Bool.and_eq_true,List.all_eq_true]at cF
  obtain⟨⟨kK,rD⟩,oh⟩:=cF
  have kK:=Nat.le_of_ble_eq_true kK
  have gf:∀i,ops.size - k≤i→i < ops.size→∃o,ops[i]?=some o∧(∀j,ops.size - k≤j→j < i→j∈Zbv o)∧(∀j∈Zbv o,j < i)∧(i=ops.size - k→∀j,j < ops.size - k→j∈Zbv o∨∃p∈Zbv o,∃c∈E.dr id,c.i=p∧j∈c.an):=by
   intro i h1 h2
   have:=rD (i - (ops.size - k)) (List.mem_range.2 (by omega))
   rw[show ops.size - k+(i - (ops.size - k))=i by omega]at this
   split at this
   ·cases this
   ·rename_i o ho
    simp only[Bool.and_eq_true,List.all_eq_true]at this
    refine⟨o,by simpa using ho,fun j nn hj=>?_,fun j hj=>Nat.le_of_ble_eq_true (this.2.1 j hj),fun hi j hj=>?_⟩
    ·have h3:=Za9.1 (this.1 (j - (ops.size - k)) (List.mem_range.2 (by omega)))
     rw[show ops.size - k+(j - (ops.size - k))=j by omega]at h3
     exact h3
    ·have h3:=this.2.2
     rw[hi,Nat.sub_self]at h3
     simp only[show Nat.beq 0 0=true from rfl,cond_true,List.all_eq_true,Bool.or_eq_true,List.any_eq_true]at h3
     rcases h3 j (List.mem_range.2 hj)with h4|⟨p,hp,h4⟩
     ·exact .inl (Za9.1 h4)
     ·obtain⟨c,hc,h5,h6⟩:=Zkz (Za9.1 h4)
      exact .inr ⟨p,hp,c,hc,h5,h6⟩
  have kR:∀d∈E.dr id,d.i < ops.size - k:=fun d hd=>Nat.le_of_ble_eq_true (oh d hd)
  have wQ:(E.dr id).length+k≤ops.size:=by
   have lm:(E.dr id).Pairwise fun c d=>c.i≠d.i:=ZgZ fun l1 d l2 e c hc=>by
    obtain⟨o,_,_,h⟩:=ZkA cH e
    exact(h c hc).2
   have eQ:((E.dr id).map (·.i)).Nodup:=by
    unfold List.Nodup
    rw[List.pairwise_map]
    exact lm
   have:=List.Nodup.length_le_of_subset eQ (l₂:=List.range (ops.size - k)) (fun j hj=>by
    obtain⟨d,hd,rfl⟩:=List.mem_map.1 hj
    exact List.mem_range.2 (kR d hd))
   simp at this
   omega
  have tail:∀(r:List Oper)(i:Nat),ops.toList.drop i=r→ops.size - k≤i→i≤ops.size→∀(fuel:Nat)(listed:Array Bool)(S':St)(m':Mem)(a':Act)(w':World),r.length≤fuel→listed.size=ops.size→(∀j,j < i→listed.getD j false=true)→(∀j,i≤j→listed.getD j false=false)→ZjA E ops K r S' m'→Rel C S' m' a' w'→wpAnyIn F n E.P .any ops Q fuel listed a' w':=by
   intro r
   induction r with
   | nil=>
    intro i hi h1 h2 fuel listed S' m' a' w' _ cM bV _ hk bN
    have:ops.size≤i:=by
     have:=congrArg List.length hi
     simp at this
     omega
    exact over fuel listed S' m' a' w' cM (fun j hj=>bV j (by omega)) hk bN
   | cons o r ih=>
    intro i hi h1 h2 fuel listed S' m' a' w' kC cM bV eB hk bN
    have io:i < ops.size:=by
     have:=congrArg List.length hi
     simp at this
     omega
    obtain⟨o',ho',iF,dD,_⟩:=gf i h1 io
    have lq:ops.toList[i]?=some o:=by
     have:=congrArg (fun l=>l[0]?) hi
     simpa using this
    have nk:o'=o:=by
     have:ops.toList[i]?=some o':=by simpa using ho'
     rw[lq]at this;cases this;rfl
    subst nk
    have rq:ops.toList.drop (i+1)=r:=by
     have:=congrArg (List.drop 1) hi
     simpa[List.drop_drop,Nat.add_comm]using this
    obtain⟨fuel,rfl⟩:∃k,fuel=k+1:=⟨fuel - 1,by simp at kC;omega⟩
    have iV:listed.getD i false=false:=eB i (Nat.le_refl _)
    have fD:i < listed.size:=by omega
    refine⟨fun cQ=>?_,fun q hq=>?_⟩
    ·exfalso
     have:i∈Region.ready .any ops listed:=mem_ready.2 ⟨by simpa[Array.getD,fD]using iV,o',ho',fun e he hb=>?_⟩
     ·rw[cQ]at this;simp at this
     ·have hm:e.on∈Zbv o':=by
       simp only[Zbv,List.mem_map,List.mem_filter]
       exact⟨e,⟨by simpa using he,hb⟩,rfl⟩
      exact bV _ (dD _ hm)
    ·obtain⟨og,o2,gp,gJ⟩:=mem_ready.1 hq
     have hq':q < ops.size:=(Array.getElem?_eq_some_iff.1 gp).1
     have:q=i:=by
      by_cases h3:q < i
      ·have h4:=bV q h3
       have hl:q < listed.size:=by omega
       simp[Array.getD,hl]at og h4
       rw[og]at h4;cases h4
      ·by_cases h4:q=i
       ·exact h4
       ·exfalso
        obtain⟨o3,mj,kP,_⟩:=gf q (by omega) hq'
        rw[mj]at gp;cases gp
        have:=kP i h1 (by omega)
        simp only[Zbv,List.mem_map,List.mem_filter]at this
        obtain⟨e,⟨he,hb⟩,h5⟩:=this
        have:=gJ e (by simpa using he) hb
        rw[h5,iV]at this;cases this
     subst this
     simp only[ZjA]at hk
     have:=ZiD hE hF hY (Zdi bM _ o' lq) bN hk (n:=n) (Q:=Q) (next:=wpAnyIn F n E.P .any ops Q fuel (listed.setIfInBounds q true)) (fun S2 m2 a2 w2 gA gK=>ih (q+1) rq (by omega) (by omega) fuel _ S2 m2 a2 w2 (by simp at kC;omega) (by simpa using cM) (fun j hj=>by
      by_cases e:j=q
      ·subst e;simp[Array.getD,fD]
      ·rw[getD_set_ne false (Ne.symm e)]
       exact bV j (by omega)) (fun j hj=>by
      rw[getD_set_ne false (by omega)]
      exact eB j (by omega)) gA gK)
     unfold wpOpIn
     simp only[ho']
     exact this
  refine ZnS hE hF hY bM (by simpa using gW) cH (e:=k) (fun listed rem i dA jt cM hi=>?_) (fun fuel listed S' m' a' w' kC cM bV jt hk bN=>?_) ops.size (rem:=E.dr id) (A:=m) (by simp) inv0 (by omega) ((ZnV hr.drew (E.dr id))) (Mem.le_refl _) (fun j hj=>(none0 j hj).elim) (fun j hj=>(none0 j hj).elim) (fun _=>rfl) ids0 h2
  ·obtain⟨_,o2,gp,bV⟩:=mem_ready.1 hi
   have hi':i < ops.size:=(Array.getElem?_eq_some_iff.1 gp).1
   by_cases iB:i < ops.size - k
   ·exact .inl (ie i iB)
   ·right
    obtain⟨o3,mj,kP,_,rC⟩:=gf i (by omega) hi'
    have u9:o2=o3:=by rw[mj]at gp;cases gp;rfl
    subst u9
    have rE:∀j∈Zbv o2,listed.getD j false=true:=fun j hj=>by
     simp only[Zbv,List.mem_map,List.mem_filter]at hj
     obtain⟨e,⟨he,hb⟩,h3⟩:=hj
     have:=bV e (by simpa using he) hb
     rw[h3]at this
     exact this
    intro d hd
    by_cases oA:i=ops.size - k
    ·rcases rC oA d.i (kR d hd)with h3|⟨p,hp,c,hc,h3,h4⟩
     ·exact rE _ h3
     ·exact dA.closed c hc (h3 ▸ rE p hp) d.i h4
    ·exfalso
     have h3:=rE _ (kP (ops.size - k) (Nat.le_refl _) (by omega))
     obtain⟨d',hd',h4⟩:=jt _ h3
     have:=kR d' hd'
     omega
  ·unfold ZrO at hk
   refine tail _ (ops.size - k) rfl (Nat.le_refl _) (Nat.sub_le _ _) fuel listed S' m' a' w' (by simp;omega) cM (fun j hj=>?_) (fun j hj=>?_) hk bN
   ·obtain⟨d,hd,rfl⟩:=ie j hj
    exact bV d hd
   ·cases hb:listed.getD j false with
    | false=>rfl
    | true=>
     obtain⟨d,hd,h3⟩:=jt _ hb
     have:=kR d hd
     omega
theorem Rel.ptrS{C:Ctx}{S:St}{m:Mem}{a:Act}{w:World}(h:Rel C S m a w)(ts:List Nat):Rel C (ptrS S ts) m a w:=by
 refine h.restrict rfl (fun _ _ hx=>hx) (fun _ _ ht=>.inl ht) (fun t sv he=>?_) h.ids h.tkeys
 have den:∀sv,(Eng.ptrS S ts).den sv=S.den sv:=fun sv=>by cases sv <;> rfl
 rw[den]
 have he:(bif mem ts t then Zw6 S (S.env t)else S.env t)=some sv:=he
 cases hm:mem ts t with
 | false=>rw[hm]at he;exact h.env t sv he
 | true=>
  rw[hm,cond_true]at he
  unfold Zw6 at he
  split at he
  ·rename_i i off hi
   cases hx:S.L i with
   | none=>simp[hx]at he
   | some x=>
    simp only[hx,Option.some.injEq]at he
    subst he
    obtain⟨v,h1,h2⟩:=h.env t _ hi
    simp only[St.den,hx]at h1
    cases h1
    exact⟨_,rfl,h2⟩
  ·exact h.env t sv he
theorem ZqH{E:Env}(hE:E.ok)(eO:E.P.follows .mixedOrders=true){C:Ctx}{F:Fence}(hF:FOk F)(hY:YOk E C)(n:Nat)(id:Nat)(ops:Array Oper){K:St→Mem→Prop}{S2:St}{m2:Mem}{a:Act}{w:World}{Q:Exit→Act→World→Prop}
  (bM:Zlk C.n ops.toList=true) (fZ:Rel C S2 m2 a w) (h2:ZwH (E.ptrAt id) (Zaw ops.toList) (Zkv E id ops) K S2 m2) (hK:∀S' m' a' w',K S' m'→Rel C S' m' a' w'→Q .normal a' w'):(Code.region id ops true).wpIn F n E.P Q a w:=by
 unfold ZwH at h2
 split at h2
 ·exact ZlD hE eO hF hY n id ops bM fZ h2 hK
 ·rename_i t0 tl kL
  obtain⟨h3,h4⟩:=Zae h2
  generalize E.ptrAt id=ts at *
  have h5:=Zkw E id ops _ (fun S' m'=>SameOut (Zaw ops.toList) (ptrS S2 ts) S'∧Zi6 S2 S' ts (K (ZuU S2 S' ts) m')) _ m2 (fun S' m' hs _ y=>⟨hs,y⟩) h4
  refine ZlD hE eO hF hY n id ops bM (fZ.ptrS ts) h5 (fun S' m' a' w' hk bN=>?_)
  obtain⟨hs,hk⟩:=hk
  obtain⟨hk,hp⟩:=ZgY hk
  refine hK _ m' a' w' hk (bN.restrict rfl (fun _ _ hx=>hx) (fun _ _ ht=>.inl ht) (fun t sv he=>?_) bN.ids bN.tkeys)
  have den:∀sv,(ZuU S2 S' ts).den sv=S'.den sv:=fun sv=>by cases sv <;> rfl
  rw[den]
  have he:(bif mem ts t then S2.env t else S'.env t)=some sv:=he
  cases hm:mem ts t with
  | false=>rw[hm]at he;exact bN.env t sv he
  | true=>
   rw[hm,cond_true]at he
   have me:=Za9.1 hm
   have eQ:t ∉ Zaw ops.toList:=fun hd=>by
    have:=List.all_eq_true.1 h3 t me
    simp[Za9.2 hd]at this
   have h6:=hs t eQ
   have h7:(ptrS S2 ts).env t=Zw6 S2 (S2.env t):=by show(bif mem ts t then _ else _)=_;rw[hm];rfl
   rcases hp t me with⟨i,off,q1,q2⟩|⟨v,q1⟩
   ·rw[q1]at he;cases he
    obtain⟨v,r1,r2⟩:=fZ.env t _ q1
    simp only[St.den]at r1
    cases hx:S2.L i with
    | none=>simp[hx]at r1
    | some x=>
     rw[q1]at h7
     simp only[Zw6,hx]at h7
     obtain⟨u,r3,r4⟩:=bN.env t _ (h6.trans h7)
     simp only[St.den]at r3;cases r3
     refine⟨_,?_,r4⟩
     simp only[St.den,q2,hx]
   ·rw[q1]at he;cases he
    rw[q1]at h7
    exact bN.env t _ (h6.trans h7)
theorem Rel.lessMem{C:Ctx}{S:St}{m m1:Mem}{a:Act}{w:World}(h:Rel C S m a w)(hm:m1.le m)(h0:C.m0.le m1)(hk:∀id x,S.L id=some x→x.fz=true→∀o,m1 x.b o=m x.b o):Rel C S m1 a w:=by
 have eB:∀b o,m b o=none→m1 b o=none:=fun b o hn=>by
  cases he:m1 b o with
  | none=>rfl
  | some v=>have:=hm _ _ _ he;rw[hn]at this;cases this
 refine⟨h.defers,h.size,h.env,fun id x hx=>?_,h.apart,h.ids,fun k t ht=>?_,h.tkeys,h.tapart,fun b o v hv=>h.sub b o v (hm _ _ _ hv),h0,?_⟩
 ·obtain⟨g1,g2,g3,g4⟩:=h.own id x hx
  exact⟨g1,fun hz o=>eB _ _ (g2 hz o),fun hz j u hu=>by rw[hk id x hx hz];exact g3 hz j u hu,g4⟩
 ·obtain⟨g1,g2⟩:=h.toks k t ht
  exact⟨g1.same (fun b _=>rfl) (fun b o _=>eB b o),g2⟩
 ·obtain⟨M,hd⟩:=h.dom
  exact⟨M,hd.p,hd.lt,hd.own,hd.tok,hd.mks,fun b o v hv=>hd.new b o v (hm _ _ _ hv)⟩
theorem Rel.acq{E:Env}{C:Ctx}(hY:YOk E C){mm:Mem}(gu:E.m0=some mm){S:St}{m:Mem}{a:Act}{w:World}(hr:Rel C S m a w){key esz:Nat}{p:Option Addr}{n c:Nat}(h1:Zxg m mm esz p n c)
  (h2:∀b,(Tok.mk (.slice p n c) esz).blk=some b→nfz S b S.ids (ntk S b [key] S.tkeys)):
  Rel C { S with tok:=fun k=>bif Nat.beq k key then some ⟨.slice p n c,esz⟩ else S.tok k,tkeys:=key::S.tkeys } (m.cutA p (n*esz)) a w:=by
 obtain⟨kI,hW⟩:=hY.m0 mm gu
 rcases h1 with⟨rfl,rfl,rfl⟩|⟨b,rfl,iL,gU,mW,gy⟩
 ·exact hr.tokNil key _ rfl
 ·obtain⟨q1,q2⟩:=ZgO (h2 b rfl)
  have cN:(m.cutA (some ⟨b,0,none⟩) (n*esz)).le m:=fun b' o v hv=>by
   simp only[Mem.cutA]at hv
   split at hv
   ·cases hv
   ·exact hv
  have gX:∀b',b'≠b→∀o,m.cutA (some ⟨b,0,none⟩) (n*esz) b' o=m b' o:=fun b' hb o=>by simp[Mem.cutA,hb]
  have jL:∀id x,S.L id=some x→x.b≠b:=fun id x hx e=>by
   have ho:=hr.own id x hx
   cases hz:x.fz with
   | true=>exact q2 id x (hr.ids id x hx) hx hz e
   | false=>
    obtain⟨v,hv⟩:=mW 0 gU
    have:=ho.free hz 0
    rw[e,hv]at this;cases this
  have eF:Rel C S (m.cutA (some ⟨b,0,none⟩) (n*esz)) a w:=hr.lessMem cN (fun b' o v hv=>by
   by_cases hb:b'=b
   ·subst hb;rw[kI]at hv;rw[gy o]at hv;cases hv
   ·rw[gX b' hb];exact hr.le _ _ _ hv) (fun id x hx _ o=>gX _ (jL id x hx) o)
  obtain⟨v0,vb⟩:=mW 0 gU
  have hM:∀M,Dom C S m a w M→M b:=fun M hd=>(hd.new b 0 v0 vb).resolve_left fun h=>by rw[kI,gy 0]at h;cases h
  have dE:∀o,o < c*esz→∃v,w.cell? ⟨b,o,none⟩=some v:=fun o ho=>by
   obtain⟨v,hv⟩:=mW o ho
   exact⟨v,hr.sub _ _ _ hv⟩
  obtain⟨cur,T,fr,hh⟩:∃cur T fr,w.heap[b]?=some (.cells cur T fr):=by
   obtain⟨v,hv⟩:=dE 0 gU
   unfold World.cell? at hv
   cases hh:w.heap[b]? with
   | none=>simp[hh]at hv
   | some ob=>
    cases ob <;> simp[hh]at hv
    exact⟨_,_,_,rfl⟩
  have cM:c*esz≤cur.size:=by
   obtain⟨v,hv⟩:=dE (c*esz - 1) (by omega)
   simp only[World.cell?,hh]at hv
   simp at hv
   have:=(Array.getElem?_eq_some_iff.1 hv).1
   omega
  obtain⟨M,hd⟩:=hr.dom
  have iC:Wr w b:=hW _ _ _ hd.p b (hM M hd)
  refine eF.tokUpd key _ (.inr ⟨b,0,n,c,cur,T,fr,rfl,iL,hh,by rw[Nat.zero_add];exact cM,iC cur T fr hh,fun o ho _=>by rw[Nat.zero_add]at ho;simp[Mem.cutA,ho]⟩) (fun b' hb'=>?_) ?_
  ·have:b'=b:=by simp[Tok.blk]at hb';exact hb'.symm
   subst this
   exact⟨⟨jL,by rw[kI];exact gy⟩,fun k' t' dH ht'=>ZiB q1 k' t' (hr.tkeys k' t' ht') ht' (by simpa using dH)⟩
  ·obtain⟨M1,jF⟩:=eF.dom
   refine⟨M,⟨hd.p,hd.lt,hd.own,hd.tok,hd.mks,fun b o v hv=>hd.new b o v (cN _ _ _ hv)⟩,fun b' hb'=>?_⟩
   have:b'=b:=by simp[Tok.blk]at hb';exact hb'.symm
   subst this
   exact hM M hd
theorem Rel.unacq{C:Ctx}{S:St}{m:Mem}{a:Act}{w:World}(hr:Rel C S m a w){key:Nat}{t:Tok}(ht:S.tok key=some t):
  ∃zs:List Value,zs.length=(slC t.v - slN t.v)*t.esz∧Rel C { S with tok:=fun k=>bif Nat.beq k key then none else S.tok k } (m.addA (slA t.v) (slN t.v*t.esz) zs) a w:=by
 have eF:Rel C { S with tok:=fun k=>bif Nat.beq k key then none else S.tok k } m a w:=by
  refine hr.restrict rfl (fun _ _ hx=>hx) (fun k t' hk=>?_) (fun i sv he=>?_) hr.ids (fun k t' hk=>?_)
  ·by_cases e:k=key
   ·subst e;simp at hk
   ·simp[Zat e]at hk;exact .inl hk
  ·obtain⟨v,h1,h2⟩:=hr.env i sv he
   exact⟨v,by cases sv <;> exact h1,h2⟩
  ·by_cases e:k=key
   ·subst e;simp at hk
   ·simp[Zat e]at hk;exact hr.tkeys k t' hk
 obtain⟨g1,g2⟩:=hr.toks key t ht
 rcases g1 with g1|⟨b,o0,n,c,cur,T,fr,hv,iL,hh,cM,fR,dB⟩
 ·rw[g1]
  exact⟨[],by simp[slC,slN],eF⟩
 ·have dW:t.blk=some b:=by simp[Tok.blk,hv]
  rw[hv]
  simp only[slC,slN,slA]
  have wR:c*t.esz=n*t.esz+(c - n)*t.esz:=by rw[←Nat.add_mul];congr 1;omega
  obtain⟨P0,pJ⟩:∃P0,P0=o0+n*t.esz:=⟨_,rfl⟩
  refine⟨(cur.toList.drop P0).take ((c - n)*t.esz),by simp;omega,?_⟩
  simp only[Mem.addA]
  rw[←pJ]at dB ⊢
  obtain⟨zs,oE⟩:∃zs,zs=(cur.toList.drop (P0)).take ((c - n)*t.esz):=⟨_,rfl⟩
  rw[←oE]
  have ve:∀q v,zs[q]?=some v→cur[P0+q]?=some v:=fun q v hq=>by
   rw[oE,List.getElem?_take]at hq
   split at hq
   ·rw[List.getElem?_drop]at hq;simpa using hq
   ·cases hq
  have cN:m.le (m.addAt b (P0) zs):=fun b' o v hv'=>by
   simp only[Mem.addAt]
   split
   ·rename_i hc
    obtain⟨rfl,ho⟩:=hc
    cases hz:zs[o - P0]? with
    | none=>simp only[hz];exact hv'
    | some u=>
     have hq:=(List.getElem?_eq_some_iff.1 hz).1
     rw[oE,List.length_take]at hq
     rw[dB o ho (by omega)]at hv';cases hv'
   ·exact hv'
  have gX:∀b',b'≠b→∀o,m.addAt b (P0) zs b' o=m b' o:=fun b' hb o=>by simp[Mem.addAt,hb]
  have qu:∀id x,S.L id=some x→x.b≠b:=(g2 b dW).1
  refine⟨eF.defers,eF.size,eF.env,fun id x hx=>?_,eF.apart,eF.ids,fun k t' hk=>?_,eF.tkeys,eF.tapart,fun b' o v hv'=>?_,Mem.le_trans eF.le cN,?_⟩
  ·obtain⟨q1,q2,q3,q4⟩:=hr.own id x hx
   exact⟨q1,fun hz o=>by rw[gX _ (qu id x hx)];exact q2 hz o,fun hz j u hu=>cN _ _ _ (q3 hz j u hu),q4⟩
  ·obtain⟨q1,q2⟩:=eF.toks k t' hk
   refine⟨q1.same (fun b' _=>rfl) (fun b' o hb' hn=>?_),q2⟩
   have dH:b'≠b:=fun e=>by
    subst e
    by_cases e:k=key
    ·subst e;simp at hk
    ·simp[Zat e]at hk
     exact e (hr.tapart k key t' t _ hk ht hb' dW)
   rw[gX b' dH];exact hn
  ·by_cases hb:b'=b
   ·subst hb
    simp only[Mem.addAt]at hv'
    by_cases ho:P0≤o
    ·simp only[ho,and_self,if_true]at hv'
     cases hz:zs[o - P0]? with
     | none=>simp only[hz]at hv';exact hr.sub _ _ _ hv'
     | some u=>
      simp only[hz]at hv';cases hv'
      have:=ve _ _ hz
      rw[show P0+(o - P0)=o by omega]at this
      simp only[World.cell?,hh]
      simpa using this
    ·simp only[ho,and_false,if_false]at hv';exact hr.sub _ _ _ hv'
   ·rw[gX b' hb]at hv';exact hr.sub _ _ _ hv'
  ·obtain⟨M,hd⟩:=hr.dom
   refine⟨M,hd.p,hd.lt,hd.own,fun k t' b' hk hb'=>?_,hd.mks,fun b' o v hv'=>?_⟩
   ·by_cases e:k=key
    ·subst e;simp at hk
    ·simp[Zat e]at hk;exact hd.tok k t' b' hk hb'
   ·by_cases hb:b'=b
    ·subst hb;exact .inr (hd.tok key t _ ht dW)
    ·rw[gX b' hb]at hv';exact hd.new b' o v hv'
theorem ZhS{E:Env}(hE:E.ok)(eO:E.P.follows .mixedOrders=true):Zea E (Zbe E):=by
 intro C F hF hY n id ops K S m a w Q bM hr h hK
 obtain⟨S2,m2,fZ,h2⟩:=ZiA hr h
 unfold Zxh at h2
 split at h2
 ·exact ZqH hE eO hF hY n id ops bM fZ h2 hK
 ·rename_i key esz _
  obtain⟨h3,h4⟩:=Zae h2
  cases gu:E.m0 with
  | none=>simp[gu]at h4
  | some mm=>
   simp only[gu]at h4
   obtain⟨p,n',c,z1,z2,z3⟩:=h4
   refine ZqH hE eO hF hY n id ops bM (fZ.acq hY gu z1 z2) z3 (fun S' m' a' w' hk bN=>?_)
   split at hk
   ·exact hk.elim
   ·rename_i t ht
    obtain⟨jq,gA⟩:=Zae hk
    obtain⟨zs,vf,kS⟩:=bN.unacq ht
    exact hK _ _ _ _ (gA zs vf) kS
def ZhT(fn:Func):Code:=match fn.body with
 | some c=>c
 | none=>.skip
def Env.at(E:Env)(m:Mem):Env:={ E with m0:=some m }
def FW(E:Env)(fn:Func)(svs:List SV)(xs:List Box)(m:Mem)(R:Value→Mem→List (List Value)→Prop):Prop:=
 W (E.at m) (Zbe (E.at m)) (ZhT fn) (ZxH (E.at m) fn.results.toList m xs R) (S0 svs xs) m
def ZwI(E:Env)(fn:Func)(svs:List SV)(xs:List Box):Bool:=
 !(fn.name == "runtime.NumGoroutine")&&fn.body.isSome&&Zaz E (ZhT fn)&&ZbM fn.ntmps (ZhT fn)&&Zuu E.frz&&E.yl.isNone&&Nat.ble svs.length fn.ntmps&&Zlr xs svs
theorem Zfd{fn:Func}(h:fn.body.isSome=true):fn.body=some (ZhT fn):=by
 unfold ZhT
 cases hb:fn.body with
 | none=>rw[hb]at h;cases h
 | some c=>rfl
theorem Zbt(E:Env)(m:Mem):∀c:Code,Zaz (E.at m) c=Zaz E c
 | .region _ _ _=>rfl
 | .seq a b=>by simp only[Zaz,Zbt E m a,Zbt E m b];rfl
 | .cond _ a b=>by simp only[Zaz,Zbt E m a,Zbt E m b]
 | .block _ a=>by simp only[Zaz,Zbt E m a]
 | .loop a=>by simp only[Zaz,Zbt E m a];rfl
 | .rangeFunc _ _ a b=>by simp only[Zaz,Zbt E m a,Zbt E m b]
 | .scope a=>by simp only[Zaz,Zbt E m a]
 | .skip=>rfl
 | .label _=>rfl
 | .goto _=>rfl
 | .exit _=>rfl
 | .ret=>rfl
 | .refuse _=>rfl
theorem Zaj{E:Env}(hE:E.ok)(eO:E.P.follows .mixedOrders=true){g:FuncId}{fn:Func}(hf:E.P.funcs[g]?=some fn){m:Mem}{R:Value→Mem→List (List Value)→Prop}(svs:List SV)(xs:List Box)
  (cH:ZwI E fn svs xs=true) (h:FW E fn svs xs m R):CX E.P g (svs.map (Zpt xs)).toArray m xs R:=by
 simp only[ZwI,Bool.and_eq_true,Bool.not_eq_true']at cH
 obtain⟨⟨⟨⟨⟨⟨⟨h1,h2⟩,h3⟩,h4⟩,h5⟩,h8⟩,h6⟩,h7⟩:=cH
 exact ZuK (E:=E.at m) hE (Zkx _) (ZhS (E:=E.at m) hE eO) hf h1 (Zfd h2) (by rw[Zbt];exact h3) h4 h5 (show E.yl=none by simpa using h8) (fun mm f8=>Option.some.inj f8) svs xs h6 h7 h
theorem ZaZ(E:Env)(l:Nat)(xs:List (List Value)):∀c:Code,Zaz (E.yields l xs) c=Zaz E c
 | .region _ _ _=>rfl
 | .seq a b=>by simp only[Zaz,ZaZ E l xs a,ZaZ E l xs b];rfl
 | .cond _ a b=>by simp only[Zaz,ZaZ E l xs a,ZaZ E l xs b]
 | .block _ a=>by simp only[Zaz,ZaZ E l xs a]
 | .loop a=>by simp only[Zaz,ZaZ E l xs a];rfl
 | .rangeFunc _ _ a b=>by simp only[Zaz,ZaZ E l xs a,ZaZ E l xs b]
 | .scope a=>by simp only[Zaz,ZaZ E l xs a]
 | .skip=>rfl
 | .label _=>rfl
 | .goto _=>rfl
 | .exit _=>rfl
 | .ret=>rfl
 | .refuse _=>rfl
def FWI(E:Env)(fn:Func)(first captured:List Value)(m:Mem)(xs:List (List Value)):Prop:=
 ∀l,W (E.yields l xs) (Zbe (E.yields l xs)) (ZhT fn) (ZwD E fn.results.toList xs.length) (S0 ((first++.func (.yield l) #[] #[]::captured).map .v) []) m
def ZwJ(E:Env)(fn:Func)(k:Nat):Bool:=
 !(fn.name == "runtime.NumGoroutine")&&fn.body.isSome&&Zaz E (ZhT fn)&&ZbM fn.ntmps (ZhT fn)&&Nat.ble (k+1) fn.ntmps
theorem ZnW{E:Env}(hE:E.ok)(eO:E.P.follows .mixedOrders=true){g:FuncId}{fn:Func}(hf:E.P.funcs[g]?=some fn){m:Mem}(first captured:List Value)(xs:List (List Value))
  (cH:ZwJ E fn (first.length+captured.length)=true) (h:FWI E fn first captured m xs):IX E.P g first captured m xs:=by
 simp only[ZwJ,Bool.and_eq_true,Bool.not_eq_true']at cH
 obtain⟨⟨⟨⟨h1,h2⟩,h3⟩,h4⟩,h5⟩:=cH
 exact ZuL (Zbe:=Zbe) hE hf h1 (Zfd h2) h4 first captured xs h5 fun l=>
  ⟨Zkx _,ZhS (E:=E.yields l xs) hE eO,by rw[ZaZ];exact h3,h l⟩
end Go.Eng
set_option linter.unusedSectionVars false
namespace Go.Eng
open Go Go.RowKit
set_option maxRecDepth 100000
def Zu0:List ResultVar→Nat
 | [.tmp d]=>d
 | _=>0
def Zxy(E:Env)(rs:List ResultVar)(m0:Mem)(esz:Nat)(R:Value→Mem→List (List Value)→Prop)(S:St)(m:Mem):Prop:=
 ZvW E S m rs fun vs=>(match S.tok (E.tokOf (Zu0 rs))with
  | none=>ZsN vs=.slice none 0 0
  | some t=>some t=some ⟨ZsN vs,esz⟩)∧R (ZsN vs) m []
def ZwK(E:Env)(rs:List ResultVar)(m0:Mem)(esz:Nat)(R:Value→Mem→List (List Value)→Prop):KT:=fun e S m=>match e with
 | .normal=>Zxy E rs m0 esz R S m
 | .ret=>Zxy E rs m0 esz R S m
 | _=>False
theorem ZtN{E:Env}(hE:E.ok){Zbe:Nat→Array Oper→(St→Mem→Prop)→St→Mem→Prop}(hD:ZeN E Zbe)(gV:Zea E Zbe){g:FuncId}{fn:Func}{c:Code}
  (hf:E.P.funcs[g]?=some fn) (hn:(fn.name == "runtime.NumGoroutine")=false) (hb:fn.body=some c) (hc:Zaz E c=true) (hl:ZbM fn.ntmps c=true) (eR:E.yl=none)
  {m:Mem} (gu:∀mm,E.m0=some mm→m=mm) {esz:Nat} {R:Value→Mem→List (List Value)→Prop} (svs:List SV) (bO:Nat.ble svs.length fn.ntmps=true) (cH:Zlr [] svs=true)
  (h:W E Zbe c (ZwK E fn.results.toList m esz R) (S0 svs []) m):CXT E.P g (svs.map (Zpt [])).toArray m esz R:=by
 refine⟨Zhx hf hn (by simp[hb]),fun w hs=>?_⟩
 have bN:=ZnD (n:=fn.ntmps) (xs:=[]) hs (fun x hx=>by cases hx) List.nodup_nil cH (Nat.le_of_ble_eq_true bO)
 refine callsIn_wide.1 (callsIn_of_wp_marks (F:=Fence.wide) (n:=0) hf hb trivial ?_)
 refine ZcI hE hD gV c hc (.inl rfl) (YOk.none eR (fun mm f8=>⟨gu mm f8,fun g M w' hp k hk=>ZsY (fun k hk=>by cases hk) hp k hk⟩)) (fun l hl=>by cases hl) 0 hl bN h ?_
 have key:∀S' m' a' w',Zxy E fn.results.toList m esz R S' m'→Rel (Zw4 fn.ntmps m w (([]:List Box).map (·.b))) S' m' a' w'→LeavesInM Fence.wide 0 E.P fn a'.tmps (fun e w'=>
   ∃v m',e=Ending.returned v∧m.le m'∧Sub m' w'∧Zhu m m' w.heap.size∧Keep w.heap.size [] w w'∧TokOk m' w' ⟨v,esz⟩∧(∀b,(Tok.mk v esz).blk=some b→w.heap.size≤b)∧R v m' []) a'.defers .returning w':=by
  intro S' m' a' w' hk hr
  obtain⟨ms,q1,_,_⟩:=hr.defers
  refine Rel.leave ?_ ms a' w' rfl q1 hr
  clear hr q1
  intro a2 w2 ht hr
  rw[←ht]
  obtain⟨vs,⟨cE,hk⟩,bR⟩:=ZeZ hE hr hk
  obtain⟨M,hd⟩:=hr.dom
  have iK:∀b o v,m' b o=some v→m b o=some v∨w.heap.size≤b:=fun b o v hv=>by
   rcases hd.new b o v hv with h6|h6
   ·exact .inl h6
   ·rcases hd.p.2 b h6 with h6|h6
    ·exact .inr h6
    ·cases h6
  split at cE
  ·refine⟨ZsN vs,ZdN bR,ZsN vs,m',rfl,hr.le,hr.sub,iK,hd.p.1,.inl cE,fun b hb=>?_,hk⟩
   rw[cE]at hb;simp[Tok.blk]at hb
  ·rename_i t ht
   cases cE
   refine⟨ZsN vs,ZdN bR,ZsN vs,m',rfl,hr.le,hr.sub,iK,hd.p.1,(hr.toks _ _ ht).1,fun b hb=>?_,hk⟩
   rcases hd.p.2 b (hd.tok _ _ _ ht hb)with h6|h6
   ·exact h6
   ·cases h6
 intro e S' m' a' w' hk hr
 cases e with
 | normal=>exact key S' m' a' w' hk hr
 | ret=>exact key S' m' a' w' hk hr
 | exit _=>exact hk.elim
 | goto _=>exact hk.elim
 | panic _=>exact hk.elim
 | outgrown=>exact hk.elim
def FWT(E:Env)(fn:Func)(svs:List SV)(m:Mem)(esz:Nat)(R:Value→Mem→List (List Value)→Prop):Prop:=
 W (E.at m) (Zbe (E.at m)) (ZhT fn) (ZwK (E.at m) fn.results.toList m esz R) (S0 svs []) m
theorem ZlE{E:Env}(hE:E.ok)(eO:E.P.follows .mixedOrders=true){g:FuncId}{fn:Func}(hf:E.P.funcs[g]?=some fn){m:Mem}{esz:Nat}{R:Value→Mem→List (List Value)→Prop}(svs:List SV)
  (cH:ZwI E fn svs []=true) (h:FWT E fn svs m esz R):CXT E.P g (svs.map (Zpt [])).toArray m esz R:=by
 simp only[ZwI,Bool.and_eq_true,Bool.not_eq_true']at cH
 obtain⟨⟨⟨⟨⟨⟨⟨h1,h2⟩,h3⟩,h4⟩,h5⟩,h8⟩,h6⟩,h7⟩:=cH
 exact ZtN (E:=E.at m) hE (Zkx _) (ZhS (E:=E.at m) hE eO) hf h1 (Zfd h2) (by rw[Zbt];exact h3) h4 (show E.yl=none by simpa using h8) (fun mm f8=>Option.some.inj f8) svs h6 h7 h
theorem CXT.toCX{P:Program}{g:FuncId}{args:Array Value}{m:Mem}{esz:Nat}{R:Value→Mem→List (List Value)→Prop}(h:CXT P g args m esz R):CX P g args m [] R:=
 ⟨h.1,fun w h1 _ _=>(h.2 w h1).mono fun _ _ ⟨v,m',a1,a2,a3,a4,a5,_,_,a8⟩=>⟨v,m',[],a1,a2,a3,a4,a5,rfl,fun i x cs hi=>by simp at hi,a8⟩⟩
theorem CXT.mono{P:Program}{g:FuncId}{args:Array Value}{m:Mem}{esz:Nat}{R R':Value→Mem→List (List Value)→Prop}(h:CXT P g args m esz R)(k:∀v m' css,m.le m'→R v m' css→R' v m' css):CXT P g args m esz R':=
 ⟨h.1,fun w h1=>(h.2 w h1).mono fun _ _ ⟨v,m',a1,a2,a3,a4,a5,a6,a7,a8⟩=>⟨v,m',a1,a2,a3,a4,a5,a6,a7,k _ _ _ a2 a8⟩⟩
end Go.Eng
namespace Go.Eng
open Go Go.RowKit
set_option maxRecDepth 100000
def Zmq:List Nat→List Tok→Nat→Option Tok
 | k::ks,t::ts=>fun i=>bif Nat.beq i k then some t else Zmq ks ts i
 | _,_=>fun _=>none
theorem ZjI:∀{ks:List Nat} {ts:List Tok} {i:Nat} {t:Tok},Zmq ks ts i=some t→∃q:Nat,ks[q]?=some i∧ts[q]?=some t
 | [],ts,i,t,h=>by simp[Zmq]at h
 | k::ks,[],i,t,h=>by simp[Zmq]at h
 | k::ks,t0::ts,i,t,h=>by
  by_cases hi:i=k
  ·subst hi;simp[Zmq]at h;subst h;exact⟨0,rfl,rfl⟩
  ·simp only[Zmq,Zat hi,cond_false]at h
   obtain⟨q,h1,h2⟩:=ZjI h
   exact⟨q+1,by simpa using h1,by simpa using h2⟩
def S0Y(svs:List SV)(xs:List Box)(ks:List Nat)(ts:List Tok):St:={ S0 svs xs with tok:=Zmq ks ts,tkeys:=ks }
def ZkC(S:St):List Nat→List Tok→(List Value→Prop)→Prop
 | k::ks,t::ts,r=>match S.tok k with
  | none=>False
  | some t'=>chk (Nat.beq t'.esz t.esz) (ZkC S ks ts fun tvs=>r (t'.v::tvs))
 | [],[],r=>r []
 | _,_,_=>False
theorem Zf5{S:St}:∀{ks:List Nat} {ts:List Tok} {r:List Value→Prop},ZkC S ks ts r→∃tvs,tvs.length=ts.length∧ks.length=ts.length∧(∀(i:Nat)(t:Tok)(tv:Value),ts[i]?=some t→tvs[i]?=some tv→∃k:Nat,ks[i]?=some k∧S.tok k=some ⟨tv,t.esz⟩)∧r tvs
 | [],[],r,h=>⟨[],rfl,rfl,fun i t tv h=>by simp at h,h⟩
 | [],_::_,r,h=>h.elim
 | _::_,[],r,h=>h.elim
 | k::ks,t::ts,r,h=>by
  unfold ZkC at h
  cases ht:S.tok k with
  | none=>simp[ht]at h
  | some t'=>
   simp only[ht]at h
   obtain⟨h1,h2⟩:=Zae h
   have he:=Nat.eq_of_beq_eq_true h1
   obtain⟨tvs,g1,g2,g3,g4⟩:=Zf5 h2
   refine⟨t'.v::tvs,by simp[g1],by simp[g2],fun i t0 tv hi hv=>?_,g4⟩
   cases i with
   | zero=>
    simp at hi hv;subst hi hv
    exact⟨k,rfl,by rw[ht,←he]⟩
   | succ i=>simpa using g3 i t0 tv (by simpa using hi) (by simpa using hv)
def Zv3(E:Env)(rs:List ResultVar)(xs:List Box)(ks:List Nat)(ts:List Tok)(R:Value→Mem→List (List Value)→List Value→Prop)(S:St)(m:Mem):Prop:=
 ZvW E S m rs fun vs=>Zut S 0 xs fun css=>ZkC S ks ts fun tvs=>R (ZsN vs) (ZsS S E.frz m) css tvs
def ZwL(E:Env)(rs:List ResultVar)(xs:List Box)(ks:List Nat)(ts:List Tok)(R:Value→Mem→List (List Value)→List Value→Prop):KT:=fun e S m=>match e with
 | .normal=>Zv3 E rs xs ks ts R S m
 | .ret=>Zv3 E rs xs ks ts R S m
 | _=>False
def Zv4(n:Nat)(m:Mem)(w:World)(B:Nat→Prop):Ctx where
 n:=n
 m0:=m
 p:=fun _ M w'=>Upd B w w'∧∀k,M k→w.heap.size≤k∨B k
 st:=by
  rintro g M M' w1 w2 ⟨h1,h2⟩ hu hg
  refine⟨⟨hu.os.trans h1.os,hu.tape.trans h1.tape,hu.output.trans h1.output,Nat.le_trans h1.size hu.size,fun k hk hn=>?_,fun k hk=>hu.wr k (h1.wr k hk)⟩,fun k hk=>?_⟩
  ·rw[hu.block k (Nat.lt_of_lt_of_le hk h1.size) fun hm=>?_,h1.block k hk hn]
   rcases h2 k hm with h|h
   ·omega
   ·exact hn h
  ·rcases hg k hk with h|h
   ·exact h2 k h
   ·have:=h1.size;exact .inl (by omega)
theorem ZpE{n:Nat}{w:World}{m:Mem}{Y:Nat→Prop}{xs:List Box}{svs:List SV}{ks:List Nat}{ts:List Tok}(hs:Sub m w)(hx:∀x∈xs,Own m w x∧x.fz=false∧¬Y x.b)(eQ:(xs.map (·.b)).Nodup)(cH:Zlr xs svs=true)(hn:svs.length≤n)
  (ht:∀t∈ts,TokOk m w t∧∀b,t.blk=some b→Y b) (lh:Zup ts) (hY:∀b,Y b→b < w.heap.size∧Wr w b):
  Rel (Zv4 n (m.off Y) w (fun k=>k∈xs.map (·.b)∨Y k)) (S0Y svs xs ks ts) m { tmps:=(svs.map (Zpt xs)).toArray++Array.replicate (n - (svs.map (Zpt xs)).toArray.size) undef,defers:=[] } w:=by
 have hL:∀id x,(S0Y svs xs ks ts).L id=some x→100000≤id∧xs[id - 100000]?=some x:=fun id x h=>by
  simp only[S0Y,S0]at h
  cases hb:Nat.ble 100000 id with
  | false=>simp[hb]at h
  | true=>simp only[hb,cond_true]at h;exact⟨Nat.le_of_ble_eq_true hb,h⟩
 have hT:∀k t,(S0Y svs xs ks ts).tok k=some t→∃q:Nat,ks[q]?=some k∧ts[q]?=some t:=fun k t h=>ZjI h
 refine⟨⟨[],rfl,List.nodup_nil,by simp⟩,by simp[Zv4];omega,?_,?_,?_,?_,?_,?_,?_,hs,Mem.off_le m Y,⟨fun k=>k∈xs.map (·.b)∨Y k,⟨Upd.refl _ _,fun k hk=>.inr hk⟩,fun k hk=>?_,fun id x hx=>?_,fun k t b h1 h2=>?_,by simp,fun b o v hv=>?_⟩⟩
 ·intro i sv he
  simp only[S0Y,S0]at he
  have bM:=(List.getElem?_eq_some_iff.1 he).1
  have h1:=ZiF cH i sv he
  refine⟨Zpt xs sv,?_,?_⟩
  ·cases sv with
   | v x=>rfl
   | loc id off=>
    simp only[Zwh,Bool.and_eq_true]at h1
    have h2:id - 100000 < xs.length:=Zmo h1.2
    simp[St.den,S0Y,S0,Zpt,h1.1,List.getElem?_eq_getElem h2]
   | sl id n c=>
    simp only[Zwh,Bool.and_eq_true]at h1
    have h2:id - 100000 < xs.length:=Zmo h1.2
    simp[St.den,S0Y,S0,Zpt,h1.1,List.getElem?_eq_getElem h2]
  ·rw[Array.getElem?_append_left (by simpa using bM)]
   simp[he]
 ·intro id x hx'
  exact(hx x (List.mem_of_getElem? (hL id x hx').2)).1
 ·intro id id' x x' h1 h2 hb
  obtain⟨g1,g2⟩:=hL _ _ h1
  obtain⟨g3,g4⟩:=hL _ _ h2
  have hi:=(List.getElem?_eq_some_iff.1 g2).1
  have:=(List.getElem?_inj (l:=xs.map (·.b)) (i:=id - 100000) (j:=id' - 100000) (by simpa using hi) eQ).1 (by simp[g2,g4,hb])
  omega
 ·intro id x h1
  obtain⟨g1,g2⟩:=hL _ _ h1
  have hi:=(List.getElem?_eq_some_iff.1 g2).1
  simp only[S0Y,S0,List.mem_map,List.mem_range,bid]
  exact⟨id - 100000,hi,by omega⟩
 ·intro k t h1
  obtain⟨q,_,h2⟩:=hT k t h1
  obtain⟨g1,g2⟩:=ht t (List.mem_of_getElem? h2)
  exact⟨g1,fun b hb=>⟨fun id x rj e=>(hx x (List.mem_of_getElem? (hL id x rj).2)).2.2 (e ▸ g2 b hb),Mem.off_free (g2 b hb)⟩⟩
 ·intro k t h1
  obtain⟨q,h2,_⟩:=hT k t h1
  exact List.mem_of_getElem? h2
 ·intro k k' t t' b h1 h2 h3 h4
  obtain⟨q,g1,g2⟩:=hT k t h1
  obtain⟨q',g3,g4⟩:=hT k' t' h2
  have:=lh q q' t t' b g2 g4 h3 h4
  subst this
  rw[g1]at g3;exact Option.some.inj g3
 ·rcases hk with hk|hk
  ·obtain⟨x,h1,h2⟩:=List.mem_map.1 hk
   exact h2 ▸ (hx x h1).1.lt
  ·exact(hY k hk).1
 ·exact .inl (List.mem_map.2 ⟨x,List.mem_of_getElem? (hL id x hx).2,rfl⟩)
 ·obtain⟨q,_,g2⟩:=hT k t h1
  exact .inr ((ht t (List.mem_of_getElem? g2)).2 b h2)
 ·by_cases gR:Y b
  ·exact .inr (.inr gR)
  ·exact .inl (by show m.off Y b o=some v;rw[Mem.off_at gR];exact hv)
theorem TokOk.sl{m:Mem}{w:World}{t:Tok}(h:TokOk m w t):Ze3 t.v=true:=by
 rcases h with h|⟨b,o0,n,c,_,_,_,h,_⟩
 ·rw[h];rfl
 ·rw[h];rfl
theorem ZtO{E:Env}(hE:E.ok){Zbe:Nat→Array Oper→(St→Mem→Prop)→St→Mem→Prop}(hD:ZeN E Zbe)(gV:Zea E Zbe){g:FuncId}{fn:Func}{c:Code}
  (hf:E.P.funcs[g]?=some fn) (hn:(fn.name == "runtime.NumGoroutine")=false) (hb:fn.body=some c) (hc:Zaz E c=true) (hl:ZbM fn.ntmps c=true) (hz:Zuu E.frz=true) (eR:E.yl=none)
  {m:Mem} {Y:Nat→Prop} (gu:∀mm,E.m0=some mm→m.off Y=mm) {R:Value→Mem→List (List Value)→List Value→Prop} (svs:List SV) (xs:List Box) (ks:List Nat) (ts:List Tok) (kK:Zbl ks=true) (bO:Nat.ble svs.length fn.ntmps=true) (cH:Zlr xs svs=true)
  (h:W E Zbe c (ZwL E fn.results.toList xs ks ts R) (S0Y svs xs ks ts) m):CXY E.P g (svs.map (Zpt xs)).toArray m Y xs ts R:=by
 refine⟨Zhx hf hn (by simp[hb]),fun w hs hx eQ ht lh hY=>?_⟩
 have bN:=ZpE (n:=fn.ntmps) (ks:=ks) hs hx eQ cH (Nat.le_of_ble_eq_true bO) ht lh hY
 refine callsIn_wide.1 (callsIn_of_wp_marks (F:=Fence.wide) (n:=0) hf hb trivial ?_)
 refine ZcI hE hD gV c hc (.inl rfl) (YOk.none eR (fun mm f8=>⟨gu mm f8,fun g M w' hp k hk=>?_⟩)) (fun l hl=>by cases hl) 0 hl bN h ?_
 ·rcases hp.2 k hk with h1|h1|h1
  ·exact hp.1.wr k (Wr.of_none h1)
  ·obtain⟨x,h2,rfl⟩:=List.mem_map.1 h1
   exact hp.1.wr _ (hx x h2).1.wr
  ·exact hp.1.wr k (hY k h1).2
 have key:∀S' m' a' w',Zv3 E fn.results.toList xs ks ts R S' m'→Rel (Zv4 fn.ntmps (m.off Y) w (fun k=>k∈xs.map (·.b)∨Y k)) S' m' a' w'→LeavesInM Fence.wide 0 E.P fn a'.tmps (fun e w'=>
   ∃v m' css tvs,e=.returned v∧(m.off Y).le m'∧Sub m' w'∧(∀b o u,m' b o=some u→m b o=some u∨Y b∨w.heap.size≤b)∧Upd (fun k=>k∈xs.map (·.b)∨Y k) w w'∧
   css.length=xs.length∧(∀(i:Nat)(x:Box)(cs:List Value),xs[i]?=some x→css[i]?=some cs→Own m' w' { x with cs:=cs })∧
   tvs.length=ts.length∧(∀(i:Nat)(t:Tok)(tv:Value),ts[i]?=some t→tvs[i]?=some tv→Ze3 tv=true∧TokOk m' w' ⟨tv,t.esz⟩∧∀b,(Tok.mk tv t.esz).blk=some b→(Y b∨w.heap.size≤b)∧b ∉ xs.map (·.b))∧
   Zup ((ts.zip tvs).map fun q=>⟨q.2,q.1.esz⟩)∧R v m' css tvs) a'.defers .returning w':=by
  intro S' m' a' w' hk hr
  obtain⟨ms,q1,_,_⟩:=hr.defers
  refine Rel.leave ?_ ms a' w' rfl q1 hr
  clear hr q1
  intro a2 w2 vg hr
  rw[←vg]
  obtain⟨vs,hk,bR⟩:=ZeZ hE hr hk
  obtain⟨css,h1,h2,hk⟩:=ZgW hk
  obtain⟨tvs,k1,k2,k3,h5⟩:=Zf5 hk
  obtain⟨M,hd⟩:=hr.dom
  simp only[Zuu,Bool.and_eq_true]at hz
  have ri:=ZaO hz.1
  have mW:=ZaO kK
  obtain⟨f1,f2,f3⟩:=Zqs hr ri
  have frzlt:∀id∈E.frz,id < 100000:=fun id cT=>Zmo (List.all_eq_true.1 hz.2 id cT)
  have boxOf:∀b,b∈xs.map (·.b)→∃(i:Nat)(x:Box)(cs:List Value),xs[i]?=some x∧x.b=b∧S'.L (bid i)=some { x with cs:=cs }:=fun b hb=>by
   obtain⟨y,hy,gR⟩:=List.mem_map.1 hb
   obtain⟨i,hi⟩:=List.getElem?_of_mem hy
   obtain⟨cs,_,jk⟩:=h2 i y hi
   exact⟨i,y,cs,hi,gR,by rw[Nat.zero_add]at jk;exact jk⟩
  have tokY:∀(i:Nat)(t:Tok)(tv:Value),ts[i]?=some t→tvs[i]?=some tv→∃k:Nat,ks[i]?=some k∧S'.tok k=some ⟨tv,t.esz⟩:=k3
  have frzNb:∀id∈E.frz,∀x,S'.L id=some x→x.b ∉ xs.map (·.b):=fun id cT x jg hm=>by
   obtain⟨i,y,cs,_,gR,jk⟩:=boxOf _ hm
   have:=hr.apart _ _ _ _ jg jk gR.symm
   have:=frzlt id cT
   simp only[bid]at *
   omega
  refine⟨ZsN vs,ZdN bR,ZsN vs,ZsS S' E.frz m',css,tvs,rfl,Mem.le_trans hr.le f1,f2,?_,hd.p.1,h1,?_,k1,?_,?_,h5⟩
  ·intro b o u hu
   have inM:M b→m b o=some u∨Y b∨w.heap.size≤b∨b∈xs.map (·.b):=fun hm=>by
    rcases hd.p.2 b hm with h|h|h
    ·exact .inr (.inr (.inl h))
    ·exact .inr (.inr (.inr h))
    ·exact .inr (.inl h)
   rcases f3 b o u hu with hv|⟨id,cT,x,jg,kG⟩
   ·rcases hd.new b o u hv with h6|h6
    ·exact .inl (Mem.off_le m Y b o u h6)
    ·rcases inM h6 with h|h|h|h
     ·exact .inl h
     ·exact .inr (.inl h)
     ·exact .inr (.inr h)
     ·exfalso
      obtain⟨i,y,cs,hi,gR,jk⟩:=boxOf b h
      have:=(hr.own _ _ jk).free (hx y (List.mem_of_getElem? hi)).2.1 o
      simp only[gR]at this
      rw[this]at hv;cases hv
   ·subst kG
    rcases inM (hd.own id x jg)with h|h|h|h
    ·exact .inl h
    ·exact .inr (.inl h)
    ·exact .inr (.inr h)
    ·exact(frzNb id cT x jg h).elim
  ·intro i x cs hi cG
   obtain⟨cs',h6,h7⟩:=h2 i x hi
   rw[cG]at h6;cases h6
   have ho:=hr.own _ _ h7
   have mh:=(hx x (List.mem_of_getElem? hi)).2.1
   refine⟨ho.cells,fun _ o=>?_,fun hz'=>by simp[mh]at hz',ho.whole⟩
   show ZsS S' E.frz m' x.b o=none
   rw[Ze0 S' m' (fun id cT y hy e=>frzNb id cT y hy (e ▸ List.mem_map.2 ⟨x,List.mem_of_getElem? hi,rfl⟩))]
   exact ho.free mh o
  ·intro i t tv hi hv
   obtain⟨k,g1,g2⟩:=tokY i t tv hi hv
   obtain⟨g3,g4⟩:=hr.toks k _ g2
   refine⟨g3.sl,g3.same (fun _ _=>rfl) (fun b o hb hn=>?_),fun b hb=>⟨?_,fun hm=>?_⟩⟩
   ·rw[Ze0 S' m' (fun id _ y hy e=>(g4 b hb).1 id y hy e)];exact hn
   ·rcases hd.p.2 b (hd.tok _ _ _ g2 hb)with h|h|h
    ·exact .inr h
    ·obtain⟨i,y,cs,_,gR,jk⟩:=boxOf b h
     exact((g4 b hb).1 _ _ jk gR).elim
    ·exact .inl h
   ·obtain⟨i,y,cs,_,gR,jk⟩:=boxOf b hm
    exact(g4 b hb).1 _ _ jk gR
  ·intro i j t t' b hi hj fS il
   rw[List.getElem?_map]at hi hj
   obtain⟨⟨t0,tv⟩,iB,rfl⟩:=Option.map_eq_some_iff.1 hi
   obtain⟨⟨t0',tv'⟩,nq,rfl⟩:=Option.map_eq_some_iff.1 hj
   obtain⟨a1,a2⟩:=List.getElem?_zip_eq_some.1 iB
   obtain⟨a3,a4⟩:=List.getElem?_zip_eq_some.1 nq
   obtain⟨k,g1,g2⟩:=tokY i t0 tv a1 a2
   obtain⟨k',g3,g4⟩:=tokY j t0' tv' a3 a4
   have:=hr.tapart k k' _ _ b g2 g4 fS il
   subst this
   have hi':=(List.getElem?_eq_some_iff.1 g1).1
   exact(List.getElem?_inj (l:=ks) (i:=i) (j:=j) hi' mW).1 (by rw[g1,g3])
 intro e S' m' a' w' hk hr
 cases e with
 | normal=>exact key S' m' a' w' hk hr
 | ret=>exact key S' m' a' w' hk hr
 | exit _=>exact hk.elim
 | goto _=>exact hk.elim
 | panic _=>exact hk.elim
 | outgrown=>exact hk.elim
def FWY(E:Env)(fn:Func)(svs:List SV)(xs:List Box)(ks:List Nat)(ts:List Tok)(m:Mem)(Y:Nat→Prop)(R:Value→Mem→List (List Value)→List Value→Prop):Prop:=
 W (E.at (m.off Y)) (Zbe (E.at (m.off Y))) (ZhT fn) (ZwL (E.at (m.off Y)) fn.results.toList xs ks ts R) (S0Y svs xs ks ts) m
theorem ZaY{E:Env}(hE:E.ok)(eO:E.P.follows .mixedOrders=true){g:FuncId}{fn:Func}(hf:E.P.funcs[g]?=some fn){m:Mem}{Y:Nat→Prop}{R:Value→Mem→List (List Value)→List Value→Prop}(svs:List SV)(xs:List Box)(ks:List Nat)(ts:List Tok)(kK:Zbl ks=true)
  (cH:ZwI E fn svs xs=true) (h:FWY E fn svs xs ks ts m Y R):CXY E.P g (svs.map (Zpt xs)).toArray m Y xs ts R:=by
 simp only[ZwI,Bool.and_eq_true,Bool.not_eq_true']at cH
 obtain⟨⟨⟨⟨⟨⟨⟨h1,h2⟩,h3⟩,h4⟩,h5⟩,h8⟩,h6⟩,h7⟩:=cH
 exact ZtO (E:=E.at (m.off Y)) hE (Zkx _) (ZhS (E:=E.at (m.off Y)) hE eO) hf h1 (Zfd h2) (by rw[Zbt];exact h3) h4 h5 (show E.yl=none by simpa using h8) (fun mm f8=>Option.some.inj f8) svs xs ks ts kK h6 h7 h
theorem CX.frameY{P:Program}{g:FuncId}{args:Array Value}{m:Mem}{R:Value→Mem→List (List Value)→Prop}(h:CX P g args m [] R)(Y:Nat→Prop)(X:List Box)(ts:List Tok):
  CXY P g args m Y X ts (fun v m' css tvs=>m.le m'∧css=X.map (·.cs)∧tvs=ts.map (·.v)∧R v m' []):=by
 refine⟨h.1,fun w h1 h2 h3 h4 h5 h6=>(h.2 w h1 (by simp) (by simp)).mono ?_⟩
 rintro e w' ⟨v,m',css,a1,a2,a3,a4,a5,a6,a7,a8⟩
 obtain rfl:css=[]:=by simpa using a6
 have hb:∀k,k < w.heap.size→w'.heap[k]?=w.heap[k]?:=fun k hk=>a5.block k hk (by simp)
 have bW:∀b,b < w.heap.size→∀o,m b o=none→m' b o=none:=fun b bM o ho=>by
  cases he:m' b o with
  | none=>rfl
  | some v=>
   rcases a4 _ _ _ he with he|he
   ·rw[ho]at he;cases he
   ·omega
 have kL:∀(i:Nat)(t:Tok)(tv:Value),ts[i]?=some t→(ts.map (·.v))[i]?=some tv→(Tok.mk tv t.esz)=t:=fun i t tv hi hv=>by
  rw[List.getElem?_map,hi]at hv
  cases hv;rfl
 refine⟨v,m',X.map (·.cs),ts.map (·.v),a1,Mem.le_trans (Mem.off_le _ _) a2,a3,fun b o u hu=>(a4 b o u hu).imp_right .inr,⟨a5.os,a5.tape,a5.output,a5.size,fun k hk _=>hb k hk,a5.wr⟩,by simp,fun i x cs hi cG=>?_,by simp,fun i t tv hi hv=>?_,fun i j t t' b hi hj=>?_,a2,rfl,rfl,a8⟩
 ·rw[List.getElem?_map,hi]at cG
  cases cG
  have ho:=(h2 x (List.mem_of_getElem? hi)).1
  exact ho.same (hb _ ho.lt) a2 (fun hz o=>bW _ ho.lt o (ho.free hz o))
 ·have e:=kL i t tv hi hv
  obtain⟨g1,g2⟩:=h4 t (List.mem_of_getElem? hi)
  refine⟨?_,?_,fun b hb'=>?_⟩
  ·have:=congrArg Tok.v e;simp only at this;rw[this];exact g1.sl
  ·rw[e];exact g1.same (fun b dW=>hb _ (g1.lt dW)) (fun b o dW=>bW _ (g1.lt dW) o)
  ·rw[e]at hb'
   refine⟨.inl (g2 b hb'),fun hm=>?_⟩
   obtain⟨x,hx,nG⟩:=List.mem_map.1 hm
   exact(h2 x hx).2.2 (nG ▸ g2 b hb')
 ·have e:((ts.zip (ts.map (·.v))).map fun q=>(⟨q.2,q.1.esz⟩:Tok))=ts:=by
   refine List.ext_getElem? fun i=>?_
   rw[List.getElem?_map]
   cases ht:ts[i]? with
   | none=>
    have:(ts.zip (ts.map (·.v)))[i]?=none:=by
     rw[List.getElem?_eq_none_iff]at ht ⊢;simp;omega
    rw[this];rfl
   | some t=>
    have:(ts.zip (ts.map (·.v)))[i]?=some (t,t.v):=List.getElem?_zip_eq_some.2 ⟨ht,by rw[List.getElem?_map,ht];rfl⟩
    rw[this];rfl
  rw[e]at hi hj
  exact h5 i j t t' b hi hj
theorem CXY.mono{P:Program}{g:FuncId}{args:Array Value}{m:Mem}{Y:Nat→Prop}{X:List Box}{ts:List Tok}{R R':Value→Mem→List (List Value)→List Value→Prop}(h:CXY P g args m Y X ts R)(k:∀v m' css tvs,(m.off Y).le m'→R v m' css tvs→R' v m' css tvs):CXY P g args m Y X ts R':=
 ⟨h.1,fun w h1 h2 h3 h4 h5 h6=>(h.2 w h1 h2 h3 h4 h5 h6).mono fun _ _ ⟨v,m',css,tvs,a1,a2,a3,a4,a5,a6,a7,a8,a9,a10,a11⟩=>⟨v,m',css,tvs,a1,a2,a3,a4,a5,a6,a7,a8,a9,a10,k _ _ _ _ a2 a11⟩⟩
end Go.Eng
namespace Go.Eng
open Go Go.RowKit
def zok(i:TI):Bool:=Nat.beq i.zero.cells.size i.size&&Zdl i.zero.cells.toList&&(i.agg||Nat.beq i.size 1)
structure TRow (P:Program)(t:TypeId)(i:TI):Prop where
 und:P.underlying t=some i.d
 info:(P.info? t).map (fun x=>(x.size,x.zero,x.bytes))=some (i.size,some i.zero,i.bytes)
 ok:zok i=true
theorem TRow.tok{P:Program}{t:TypeId}{i:TI}(h:TRow P t i):TOk P t i:=by
 have hz:=h.ok
 simp only[zok,Bool.and_eq_true,Bool.or_eq_true]at hz
 refine⟨h.und,?_,Nat.eq_of_beq_eq_true hz.1.1,Zgd hz.1.2,fun ha=>?_⟩
 ·obtain⟨x,hx,e⟩:=Option.map_eq_some_iff.1 h.info
  simp only[Prod.mk.injEq]at e
  exact⟨x,hx,e.1,e.2.1,e.2.2⟩
 ·rcases hz.2 with h1|h1
  ·rw[ha]at h1;cases h1
  ·exact Nat.eq_of_beq_eq_true h1
def Zuw:List (Nat×TI)→Nat→Option TI
 | [],_=>none
 | q::l,t=>bif Nat.beq t q.1 then some q.2 else Zuw l t
def Zv5(P:Program):List (Nat×TI)→Prop
 | []=>True
 | q::l=>TRow P q.1 q.2∧Zv5 P l
theorem ZqI{P:Program}:∀{l:List (Nat×TI)},Zv5 P l→∀t i,Zuw l t=some i→TOk P t i
 | [],_,t,i,h=>by simp[Zuw]at h
 | q::l,hl,t,i,h=>by
  simp only[Zuw]at h
  cases hb:Nat.beq t q.1 with
  | true=>
   simp only[hb,cond_true,Option.some.injEq]at h
   rw[Nat.eq_of_beq_eq_true hb,←h];exact hl.1.tok
  | false=>simp only[hb,cond_false]at h;exact ZqI hl.2 t i h
abbrev Zav(l:List (Option Box)):Prop:=l=l
end Go.Eng
namespace Go.Eng
open Go Go.RowKit
abbrev Ret(u:Value):Value→Mem→List (List Value)→Prop:=fun v _ _=>v=u
theorem Zag{m m':Mem}{R:Value→Mem→List (List Value)→Prop}{v:Value}(h:m.le m')(k:R v m []):∃m'':Mem,m.le m''∧m''.le m'∧R v m'' []:=⟨m,Mem.le_refl m,h,k⟩
theorem ZjJ{m m':Mem}{R:Value→Mem→List (List Value)→Prop}{v:Value}(h:m.le m')(k:R v m' []):∃m'':Mem,m.le m''∧m''.le m'∧R v m'' []:=⟨m',h,Mem.le_refl _,k⟩
section
variable {P:Program} {g:FuncId} {args:Array Value} {m:Mem}
theorem Zai{K:Bool→Mem→Prop}{x:Bool}(h:CX P g args m [] (Ret (.bool x)))(k:∀m',m.le m'→K x m'):
  ∃R:Value→Mem→List (List Value)→Prop,True∧CX P g args m [] R∧(∀(v:Value)(m':Mem) (css:List (List Value)),R v m' css→Shape.fits .bool v=true)∧∀(b:Bool)(m':Mem),m.le m'→R (.bool b) m' []→K b m':=
 ⟨_,trivial,h,fun v _ _ e=>by rw[e];rfl,fun b m' hm e=>by cases e;exact k m' hm⟩
theorem Zdv{kk:IntKind}{K:Int→Mem→Prop}{x:Int}(h:CX P g args m [] (Ret (.int kk x)))(k:∀m',m.le m'→K x m'):
  ∃R:Value→Mem→List (List Value)→Prop,True∧CX P g args m [] R∧(∀(v:Value)(m':Mem) (css:List (List Value)),R v m' css→Shape.fits (.int kk) v=true)∧∀(b:Int)(m':Mem),m.le m'→R (.int kk b) m' []→K b m':=
 ⟨_,trivial,h,fun v _ _ e=>by rw[e];simp[Shape.fits],fun b m' hm e=>by cases e;exact k m' hm⟩
theorem Zam{s:Shape}{R:Value→Mem→List (List Value)→Prop}{Q:(Value→Mem→List (List Value)→Prop)→Prop}(h:CX P g args m [] R)(hs:∀(v:Value)(m':Mem) (css:List (List Value)),R v m' css→s.fits v=true)(k:Q R):
  ∃R:Value→Mem→List (List Value)→Prop,True∧CX P g args m [] R∧(∀(v:Value)(m':Mem) (css:List (List Value)),R v m' css→s.fits v=true)∧Q R:=⟨R,trivial,h,hs,k⟩
end
theorem ZrY{b:Bool}{p q:Prop}:br b p q↔(if b=true then p else q):=by cases b <;> simp[br]
theorem ZaA{n:Int}(h1 : -9223372036854775808≤n)(h2:n≤9223372036854775807):IntKind.i64.wrap n=n:=by
 unfold IntKind.wrap
 simp only[IntKind.bits,IntKind.signed,Bool.true_and]
 have e:(2:Int) ^ 64=18446744073709551616:=by decide
 have e':(2:Int) ^ (64 - 1)=9223372036854775808:=by decide
 simp only[e,e']
 split
 ·rename_i h
  have:=of_decide_eq_true h
  omega
 ·rename_i h
  have:¬(n % 18446744073709551616 ≥ 9223372036854775808):=fun hh=>h (decide_eq_true hh)
  omega
theorem ZiK{f f':Nat}{a b a' b':List Value}(h:Value.func (.func f) a.toArray b.toArray=.func (.func f') a'.toArray b'.toArray):f=f'∧a=a'∧b=b':=by
 simpa using h
theorem Zay{a b:Bool}(h:a=b):[Value.bool a]=[Value.bool b]:=by rw[h]
end Go.Eng
namespace Go.Eng
open Go Go.RowKit Go.ChangeShapes Go.WideShapes
def Zux(W:World):Mem:=fun b o=>W.cell? ⟨b,o,none⟩
theorem Zg0{H:Type}{enc:TypeId×Value→H}{P:Program}(hl:laidOutB P=true){W W':World}{sp:Nat→Bool}:∀{ts:List TypeId} {vs:List Value} {ds:List (DataW H)} {ps:List MemPlace},(∀t∈ts,P.readableRec t=true∧t < P.types.size)→DataW.TrodAll enc P W 0 (fun _=>true) true ts vs ds ps→(∀p∈ps,W.sameAt W' p)→(∀p∈ps,sp p.block=true)→DataW.TrodAll enc P W' 0 sp true ts vs ds ps
 | [],[],[],ps,_,h,_,_=>h
 | t::ts,v::vs,d::ds,ps,ht,h,hs,pV=>by
  obtain⟨p,q,h1,h2,rfl⟩:=h
  exact⟨p,q,WideElems.Trod_stays hl (ht t (by simp)).1 (ht t (by simp)).2 h1 (fun x hx=>hs x (by simp[hx])) (fun x hx=>pV x (by simp[hx])),Zg0 hl (fun t' h'=>ht t' (by simp[h'])) h2 (fun x hx=>hs x (by simp[hx])) (fun x hx=>pV x (by simp[hx])),rfl⟩
 | [],[],_::_,_,_,h,_,_=>h.elim
 | [],_::_,_,_,_,h,_,_=>by simp[DataW.TrodAll]at h
 | _::_,[],_,_,_,h,_,_=>by simp[DataW.TrodAll]at h
 | _::_,_::_,[],_,_,h,_,_=>h.elim
theorem ZrZ{H:Type}{enc:TypeId×Value→H}{P:Program}{g:FuncId}{f:Func}{s:ChangeSpec}{W:World}{args:Array Value}{ds gs:List (DataW H)}{before:List MemPlace}{tb:TypeId}(hl:laidOutB P=true)
  (kL:∀t∈f.params.toList,P.readableRec t=true∧t < P.types.size) (hW:DataW.Whole enc P f.params.toList s.vars false W args.toList ds gs before) (hv:s.vars=[])
  (hr:(s.fn H (ds++gs)).results=[.lit (.bool true)]) (ha:(s.fn H (ds++gs)).args=ds) (hw:(s.fn H (ds++gs)).vars=[]) (kM:f.resultTypes=#[tb]) (vh:P.underlying tb=some .bool)
  (ic:CX P g args (Zux W) [] (Ret (.bool true))):
  Calls P g args W fun e W'=>∃v,e=.returned v∧s.post enc P f false true false false W args v W':=by
 refine(ic.2 W (fun _ _ _ h=>h) (by simp) (by simp)).mono ?_
 rintro e W' ⟨v,m',css,rfl,hm,dC,cZ,hk,_,_,rfl⟩
 have hb:Below W.heap.size W W':=hk.below
 have bM:∀p∈before,p.block < W.heap.size:=fun p hp=>by simpa using hW.lt p hp
 have hW':=hW
 obtain⟨p,q,hA,hV,rfl,hz,hn⟩:=hW
 rw[hv]at hV
 obtain⟨rfl,rfl⟩:gs=[]∧q=[]:=by
  cases gs with
  | nil=>exact⟨rfl,hV⟩
  | cons g gs=>exact hV.elim
 refine⟨_,rfl,ds,[],p++[],[],p,[],hW',?_,?_,?_,hb.frame _,fun h=>by cases h⟩
 ·rw[hr,kM]
  exact trodAll_cons_mk (shut_bool vh _) trodAll_mk0
 ·rw[ha]
  exact Zg0 hl kL hA (fun x hx=>hb.same (bM x (by simp[hx]))) (fun x hx=>by simpa using bM x (by simp[hx]))
 ·rw[hw,hv];rfl
end Go.Eng

