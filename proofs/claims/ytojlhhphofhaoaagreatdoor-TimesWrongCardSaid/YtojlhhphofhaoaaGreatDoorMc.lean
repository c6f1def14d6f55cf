/- The engine: a reckoner over the code of a program in Lean, with its soundness; it names no program. No condition. -/
import Derived.Test.YtojlhhphofhaoaaGreatDoorMb
import Derived.OrdersIn
import Derived.ProofKit
import Derived.OpenShut
import Derived.JoinedCond
import Derived.Deep.Slices
set_option linter.unusedVariables false
set_option linter.unusedSimpArgs false
set_option linter.unusedSectionVars false
namespace Go.Eng
open Go Go.RowKit
theorem ZnZ{F:Fence}{n:Nat}{P:Program}{c:Code}{Q:Exit->Act->World->Prop}{a:Act}{w:World}(Inv:Nat->Act->World->Prop)(h0:∃q,Inv q a w)
  (round:∀q a w,Inv q a w->c.wpIn F n P (Exit.then (λa' w'=>∃q',q' < q/\Inv q' a' w') Q) a w):(Code.loop c).wpIn F n P Q a w:=by
 classical
 have iM:∀a w,(∃q,Inv q a w)->∃q,Inv q a w/\∀q',Inv q' a w->q<=q':=by
  intro a w ⟨q,hq⟩
  induction q using Nat.strongRecOn with
  | _ q ih=>
   by_cases hh:∃q',q' < q/\Inv q' a w
   ·obtain⟨q',h1,h2⟩:=hh;exact ih q' h1 h2
   ·exact⟨q,hq,λq' hq'=>Nat.le_of_not_lt λbB=>hh ⟨q',bB,hq'⟩⟩
 let μ:Act->World->Nat:=λa w=>if h:∃q,Inv q a w then Classical.choose (iM a w h)else 0
 have hμ:∀a w (h:∃q,Inv q a w),Inv (μ a w) a w/\∀q',Inv q' a w->μ a w<=q':=λa w h=>by
  have:=Classical.choose_spec (iM a w h)
  simp only[μ,h,dif_pos];exact this
 refine wpIn_loop (λa w=>∃q,Inv q a w) μ h0 λa w hI=>?_
 refine wpIn_mono (round _ a w (hμ a w hI).1) λe a' w' he=>?_
 cases e with
 | normal=>
  obtain⟨q',h1,h2⟩:=he
  exact⟨⟨q',h2⟩,Nat.lt_of_le_of_lt ((hμ a' w' ⟨q',h2⟩).2 q' h2) h1⟩
 | _=>exact he
theorem ZcH{P:Program}{b:Frame}{a:Act}{k:List Item}{cs:List Frame}{w:World}{c:Code}:step P (lone (b.atR a (.code (.scope c)::k)) cs w)=.next (lone (b.atR a (.code c::.inScope c::k)) cs w):=
 step_lone_go (by simp[stepG,stepG.exec,Frame.atR])
theorem ZjT{P:Program}{b:Frame}{a:Act}{k:List Item}{cs:List Frame}{w:World}{c:Code}:step P (lone (b.atR a (.inScope c::k)) cs w)=.next (lone (b.atR a k) cs w):=
 step_lone_go (by simp[stepG,stepG.exec,Frame.atR])
theorem ZpS{F:Fence}{n:Nat}{P:Program}{a:Act}{w:World}{Q:Exit->Act->World->Prop}{c:Code}(h:c.wpIn F n P (λe a w=>match e with
  | .goto _=>False
  | e=>Q e a w) a w):(Code.scope c).wpIn F n P Q a w:=by
 intro b k cs ri hb hr
 have h0:(lone (b.atR a (.code (.scope c)::k)) cs w).fenced P F:=fenced_calm hb hr rfl
 obtain⟨e,a₁,w₁,hq,eK⟩:=h b (.inScope c::k) cs ri hb hr
 cases e with
 | normal=>exact⟨.normal,a₁,w₁,hq,.head h0 ZcH (StepsIn.trans eK (.one (fenced_calm hb hr rfl) ZjT))⟩
 | exit id=>
  have hx:exitTo id (.inScope c::k)=exitTo id k:=by simp[exitTo]
  exact⟨.exit id,a₁,w₁,hq,λk' hk=>.head h0 ZcH (eK.1 k' (by rw[hx];exact hk)),
    λhr' hk=>let ⟨k₁,h1,h2⟩:=eK.2 hr' (by rw[hx];exact hk);⟨k₁,h1,.head h0 ZcH h2⟩⟩
 | goto l=>exact hq.elim
 | ret=>exact⟨_,a₁,w₁,hq,.of_steps (.one h0 ZcH) eK⟩
 | panic ch=>exact⟨_,a₁,w₁,hq,.of_steps (.one h0 ZcH) eK⟩
 | outgrown=>exact⟨_,a₁,w₁,hq,.of_steps (.one h0 ZcH) eK⟩
theorem YOk.cold{E:Env}{C:Ctx}(h:YOk E C):YOk E.cold C:=⟨h.y,h.yY,h.m0⟩
def Zei(E:Env)(Zba:Nat->Array Oper->(St->Mem->Prop)->St->Mem->Prop):Prop:=
 ∀{C:Ctx} {F:Fence} (_:FOk F) (_:YOk E C) (n:Nat) (id:Nat) (ops:Array Oper) {K:St->Mem->Prop} {S:St} {m:Mem} {a:Act} {w:World} {Q:Exit->Act->World->Prop},
  Zlm C.n ops.toList=true->Rel C S m a w->Zba id ops K S m->(∀S' m' a' w',K S' m'->Rel C S' m' a' w'->Q .normal a' w')->(Code.region id ops true).wpIn F n E.P Q a w
theorem Zcg{E:Env}(hE:E.ok){Zba:Nat->Array Oper->(St->Mem->Prop)->St->Mem->Prop}(hD:ZeD E Zba)(gW:Zei E Zba):
  ∀(c:Code),Zav E c=true->∀{F:Fence} (_:FOk F) {C:Ctx} (_:YOk E C) (_:ROk F C) (n:Nat),Zbk C.n c=true->∀{S:St} {m:Mem} {a:Act} {w:World} {K:KT} {Q:Exit->Act->World->Prop},Rel C S m a w->W E Zba c K S m->
   (∀e S' m' a' w',K e S' m'->Rel C S' m' a' w'->Q e a' w')->c.wpIn F n E.P Q a w
 | .skip,_,F,hF,C,hY,hR,n,_,S,m,a,w,K,Q,hr,h,hK=>wpIn_skip (hK _ _ _ _ _ h hr)
 | .label _,_,F,hF,C,hY,hR,n,_,S,m,a,w,K,Q,hr,h,hK=>wpIn_label (hK _ _ _ _ _ h hr)
 | .exit _,_,F,hF,C,hY,hR,n,_,S,m,a,w,K,Q,hr,h,hK=>wpIn_exit (hK _ _ _ _ _ h hr)
 | .ret,_,F,hF,C,hY,hR,n,_,S,m,a,w,K,Q,hr,h,hK=>wpIn_ret (hK _ _ _ _ _ h hr)
 | .region id ops draw,hc,F,hF,C,hY,hR,n,hl,S,m,a,w,K,Q,hr,h,hK=>by
  simp only[W]at h
  simp only[Zbk]at hl
  cases hj:E.joins id with
  | none=>
   simp only[hj]at h
   cases draw with
   | true=>exact gW hF hY n id ops hl hr (by simpa using h) (λS' m' a' w' hk bP=>hK _ _ _ _ _ hk bP)
   | false=>
    simp only[cond_false]at h
    exact ZvQ hY hr h λK' S' m' hr' h' fin=>wpIn_region (ZhR hE hF hY hl _ hr' h' (λS2 m2 a2 w2 hk bP=>by
     obtain⟨S3,m3,k3,r3⟩:=fin S2 m2 a2 w2 hk bP
     exact hK _ _ _ _ _ k3 r3))
  | some outs=>
   simp only[hj]at h
   obtain⟨xs,_,h1,h2⟩:=Shape.exL_elim _ _ h
   have fin:∀S' m' a' w',((S'.gh=S.gh/\S'.fo=S.fo/\Zby S' ZfI S.ids=Zby S ZfI S.ids/\ZaX S' ZfI S.tkeys=ZaX S ZfI S.tkeys/\Zga S' outs λxs'=>xs'=xs)/\SameOut (ZaD ops.toList) S S'/\m.le m')->Rel C S' m' a' w'->Q .normal a' w':=by
    rintro S' m' a' w' ⟨⟨g0,gf,g1,g2,g3⟩,g4,g5⟩ bP
    obtain⟨xs',_,e2,e3,rfl⟩:=ZcO bP g3
    refine hK _ _ _ _ _ h2 ?_
    have hz:=Zc1 (A:=⟨outs,[],[],false⟩) (css:=[]) (tvs:=[]) hr.ok bP gf g4 (by simpa[Zby,ZfI]using g1) (by simpa[ZaX,ZfI]using g2) e2 rfl (by simp) rfl (by simp)
    have:Za1 S (ZaD ops.toList) ⟨outs,[],[],false⟩ S'.gh xs' [] []={ S with env:=ZbD (λi=>bif (ZaD ops.toList).any (Nat.beq i ·)then none else S.env i) outs xs' }:=by
     simp[Za1,Zi9,ZeW,g0]
    rw[this]at hz
    exact hz.forget g5 hr.le (λid x hx hf=>(hr.own id x hx).known hf)
   cases draw with
   | true=>
    simp only[cond_true]at h1
    cases fY:E.last id with
    | true=>simp only[fY,cond_true]at h1
    | false=>
    simp only[fY,cond_false]at h1
    have h1':=hD id ops _ (λS' m'=>(S'.gh=S.gh/\S'.fo=S.fo/\Zby S' ZfI S.ids=Zby S ZfI S.ids/\ZaX S' ZfI S.tkeys=ZaX S ZfI S.tkeys/\Zga S' outs λxs'=>xs'=xs)/\SameOut (ZaD ops.toList) S S'/\m.le m') S m (λS' m' hs hm y=>⟨by have y':=Zdg y;rw[Zcw,Zcx]at y';exact⟨y'.1 rfl,y'.2⟩,hs,hm.le fY⟩) h1
    exact gW hF hY n id ops hl hr h1' fin
   | false=>
    simp only[cond_false]at h1
    have h1':ZvF E.cold ops (List.range ops.size) (λS' m'=>(S'.gh=S.gh/\S'.fo=S.fo/\Zby S' ZfI S.ids=Zby S ZfI S.ids/\ZaX S' ZfI S.tkeys=ZaX S ZfI S.tkeys/\Zga S' outs λxs'=>xs'=xs)/\SameOut (ZaD ops.toList) S S'/\m.le m') S m:=
     ZgQ (E:=E.cold) (λS' m' hs hm y=>⟨by have y':=Zdg y;rw[Zcw,Zcx]at y';exact⟨y'.1 rfl,y'.2⟩,hs,hm⟩) h1
    exact wpIn_region (ZhR (E:=E.cold) hE hF hY.cold hl _ hr h1' fin)
 | .seq x y,hc,F,hF,C,hY,hR,n,hl,S,m,a,w,K,Q,hr,h,hK=>by
  simp only[Zav,Zbk,Bool.and_eq_true]at hc hl
  simp only[W]at h
  cases j1:E.cuts (Zaz y)with
  | none=>
   simp only[j1]at h
   refine wpIn_seq (Zcg hE hD gW x hc.1.1 hF hY hR n hl.1 hr h λe S' m' a' w' hk bP=>?_)
   cases e with
   | normal=>exact Zcg hE hD gW y hc.1.2 hF hY hR n hl.2 bP hk hK
   | _=>exact hK _ _ _ _ _ hk bP
  | some A=>
   simp only[j1]at h hc
   obtain⟨J,h1,h2⟩:=h
   have h1':=ZdP hD x hc.1.1 (K':=λe S' m'=>(match e with
    | .normal=>Zja A.gh S'.gh S.gh S'.fo S.fo (ZjJ (Zby S' A S.ids) (Zby S A S.ids) (ZjK (ZaX S' A S.tkeys) (ZaX S A S.tkeys) (Zga S' A.slots λxs=>ZgL S' A.boxes λcss=>ZdO S' A.toks λtvs=>J (ghs A.gh S'.gh xs) css tvs m')))
    | e=>K e S' m')/\SameOut (Zh7 x) S S'/\leT E.thaw m m') (λe S' m' hs hm y=>⟨y,hs,hm⟩) h1
   refine wpIn_seq (Zcg hE hD gW x hc.1.1 hF hY hR n hl.1 hr h1' ?_)
   rintro e S' m' a' w' ⟨hk,hs,ic⟩ bP
   cases e with
   | normal=>
    obtain⟨r0,rf,hk⟩:=Zdg hk
    obtain⟨r1,hk⟩:=Zcw.1 hk
    obtain⟨r2,hk⟩:=Zcx.1 hk
    obtain⟨xs,f1,f2,f3,hk⟩:=ZcO bP hk
    obtain⟨css,g1,g2,hk⟩:=Zcn hk
    obtain⟨tvs,k1,k2,hJ⟩:=Zbz hk
    have fP:∀v∈tvs,Zbi v=true:=λv hv=>by
     obtain⟨i,hi⟩:=List.getElem?_of_mem hv
     have bB:=(List.getElem?_eq_some_iff.1 hi).1
     obtain⟨qe,i7⟩:∃qe,A.toks[i]?=some qe:=⟨_,List.getElem?_eq_getElem (by omega)⟩
     exact(k2 i qe.1 qe.2 v i7 hi).1
    exact Zcg hE hD gW y hc.1.2 hF hY hR n hl.2 (Zc1 hr.ok bP rf hs r1 r2 f2 g1 g2 k1 k2) (ZcQ (ZcP (Shape.allL_fits _ _ (Zef h2 r0) xs f1) css g1) tvs k1 fP m' ic hJ) hK
   | _=>exact hK _ _ _ _ _ hk bP
 | .cond c x y,hc,F,hF,C,hY,hR,n,hl,S,m,a,w,K,Q,hr,h,hK=>by
  simp only[Zav,Zbk,Bool.and_eq_true]at hc hl
  obtain⟨v,hv,h⟩:=Zau h
  obtain⟨h1,h2⟩:=Zah h
  obtain⟨b,rfl⟩:∃b,v=.bool b:=⟨_,ZbT h1⟩
  simp only[ZcW]at h2
  refine wpIn_cond (hr.ev hv) ?_
  cases b
  ·exact Zcg hE hD gW y hc.2 hF hY hR n hl.2 hr h2 hK
  ·exact Zcg hE hD gW x hc.1 hF hY hR n hl.1 hr h2 hK
 | .block id x,hc,F,hF,C,hY,hR,n,hl,S,m,a,w,K,Q,hr,h,hK=>by
  simp only[Zav,Zbk]at hc hl
  simp only[W]at h
  refine wpIn_block (Zcg hE hD gW x hc hF hY hR n hl hr h λe S' m' a' w' hk bP=>?_)
  cases e with
  | exit id'=>
   simp only at hk
   simp only[Exit.inBlock]
   cases hb:Nat.beq id' id with
   | true=>
    simp only[hb,cond_true]at hk
    rw[if_pos (Nat.eq_of_beq_eq_true hb)]
    exact hK _ _ _ _ _ hk bP
   | false=>
    simp only[hb,cond_false]at hk
    rw[if_neg (λe=>by subst e;simp at hb)]
    exact hK _ _ _ _ _ hk bP
  | _=>exact hK _ _ _ _ _ hk bP
 | .loop x,hc,F,hF,C,hY,hR,n,hl,S,m,a,w,K,Q,hr,h,hK=>by
  simp only[Zav,Zbk,Bool.and_eq_true]at hc hl
  simp only[W]at h
  obtain⟨I,h1,h2⟩:=h
  generalize hA:E.loops (Zaz x)=A at *
  obtain⟨xs,f1,f2,f3,h1⟩:=ZcO hr h1
  obtain⟨css,g1,g2,h1⟩:=Zcn h1
  obtain⟨tvs,k1,k2,q,h1⟩:=Zbz h1
  have cV:=hr.ok
  refine ZnZ (λq a w=>∃g xs css tvs m',(A.gh=false->g=S.gh)/\Shape.fitsL (A.slots.map (·.2)) xs=true/\css.length=A.boxes.length/\tvs.length=A.toks.length/\(∀v∈tvs,Zbi v=true)/\leT E.thaw m m'/\I (ghs A.gh g xs) css tvs m' q/\Rel C (Za1 S (Zh7 x) A g xs css tvs) m' a w) ?_ ?_
  ·refine⟨q,S.gh,xs,css,tvs,m,λ_=>rfl,f1,g1,k1,λv hv=>?_,leT.refl _ m,h1,?_⟩
   ·obtain⟨i,hi⟩:=List.getElem?_of_mem hv
    have bB:=(List.getElem?_eq_some_iff.1 hi).1
    obtain⟨qe,i7⟩:∃qe,A.toks[i]?=some qe:=⟨_,List.getElem?_eq_getElem (by omega)⟩
    exact(k2 i qe.1 qe.2 v i7 hi).1
   ·exact Zc1 cV hr rfl (SameOut.refl _ _) rfl rfl f2 g1 g2 k1 k2
  ·rintro q a w ⟨g,xs,css,tvs,m',hg,f1,g1,k1,k2,hm,hI,bP⟩
   have hb:=ZcQ (ZcP (Shape.allL_fits _ _ (Zef h2 hg) xs f1) css g1) tvs k1 k2 m' q hm hI
   have hb':=ZdP hD x hc.1 (K':=λe S' m''=>(match e with
    | .normal=>Zja A.gh S'.gh S.gh S'.fo S.fo (ZjJ (Zby S' A S.ids) (Zby S A S.ids) (ZjK (ZaX S' A S.tkeys) (ZaX S A S.tkeys) (Zga S' A.slots λxs'=>ZgL S' A.boxes λcss'=>ZdO S' A.toks λtvs'=>∃n',n' < q/\I (ghs A.gh S'.gh xs') css' tvs' m'' n')))
    | e=>K e S' m'')/\SameOut (Zh7 x) (Za1 S (Zh7 x) A g xs css tvs) S'/\leT E.thaw m' m'') (λe S' m'' hs hm y=>⟨y,hs,hm⟩) hb
   refine Zcg hE hD gW x hc.1 hF hY hR n hl bP hb' ?_
   rintro e S' m'' a' w' ⟨hk,hs,ic⟩ j9
   cases e with
   | normal=>
    obtain⟨r0,rf,hk⟩:=Zdg hk
    obtain⟨r1,hk⟩:=Zcw.1 hk
    obtain⟨r2,hk⟩:=Zcx.1 hk
    obtain⟨xs',f1',f2',f3',hk⟩:=ZcO j9 hk
    obtain⟨css',g1',g2',hk⟩:=Zcn hk
    obtain⟨tvs',k1',k2',q',bB,hI'⟩:=Zbz hk
    have hm':leT E.thaw m m'':=leT.trans hm ic
    refine⟨q',bB,S'.gh,xs',css',tvs',m'',r0,f1',g1',k1',λv hv=>?_,hm',hI',?_⟩
    ·obtain⟨i,hi⟩:=List.getElem?_of_mem hv
     have bB:=(List.getElem?_eq_some_iff.1 hi).1
     obtain⟨qe,i7⟩:∃qe,A.toks[i]?=some qe:=⟨_,List.getElem?_eq_getElem (by omega)⟩
     exact(k2' i qe.1 qe.2 v i7 hi).1
    ·have fX:SameOut (Zh7 x) S S':=SameOut.trans (Zdx (S':=Za1 S (Zh7 x) A g xs css tvs) hc.2 rfl) hs
     exact Zc1 cV j9 rf fX r1 r2 f2' g1' g2' k1' k2'
   | _=>exact hK _ _ _ _ _ hk j9
 | .goto _,_,F,hF,C,hY,hR,n,_,S,m,a,w,K,Q,hr,h,hK=>by simp[W]at h
 | .scope x,hc,F,hF,C,hY,hR,n,hl,S,m,a,w,K,Q,hr,h,hK=>by
  simp only[Zav,Zbk]at hc hl
  simp only[W]at h
  refine ZpS (Zcg hE hD gW x hc hF hY hR n hl hr h λe S' m' a' w' hk bP=>?_)
  cases e with
  | goto l=>exact hk.elim
  | _=>exact hK _ _ _ _ _ hk bP
 | .rangeFunc f ps x y,hc,F,hF,C,hY,hR,n,hl,S,m,a,w,K,Q,hr,h,hK=>by
  simp only[Zav,Zbk,Bool.and_eq_true]at hc hl
  simp only[W]at h
  cases oh:E.rgY (Zaz y)with
  | true=>
   rw[oh,cond_true]at h
   exact Zmo hF hY hR n (λhF' _ hY' hR' n' hl'=>Zcg hE hD gW x hc.1 hF' hY' hR' n' hl') (λhF' _ hY' hR' n' hl'=>Zcg hE hD gW y hc.2 hF' hY' hR' n' hl') hl.2.1 hl.2.2 hl.1 hr h hK
  | false=>
  rw[oh,cond_false]at h
  exact ZnX hF hY hR n (λhF' _ hY' hR' n' hl'=>Zcg hE hD gW x hc.1 hF' hY' hR' n' hl') (λhF' _ hY' hR' n' hl'=>Zcg hE hD gW y hc.2 hF' hY' hR' n' hl')
   (λhk=>ZdP hD x hc.1 (λe S' m' _ hm y=>⟨y,hm⟩) hk) (λhk=>ZdP hD y hc.2 (λe S' m' _ hm y=>⟨y,hm⟩) hk) hl.2.1 hl.2.2 hl.1 hr h hK
 | .refuse _,_,F,hF,C,hY,hR,n,_,S,m,a,w,K,Q,hr,h,hK=>by simp[W]at h
def bid(j:Nat):Nat:=100000+j
def ZrH(xs:List Box):SV->Value
 | .v x=>x
 | .loc id off=>match xs[id - 100000]? with
  | some x=>.pointer (some ⟨x.b,off,none⟩)
  | none=>undef
 | .sl id n c=>match xs[id - 100000]? with
  | some x=>.slice (some ⟨x.b,0,none⟩) n c
  | none=>undef
def ZxH(xs:List Box):SV->Bool
 | .v _=>true
 | .loc id _=>Nat.ble 100000 id&&Nat.blt (id - 100000) xs.length
 | .sl id _ _=>Nat.ble 100000 id&&Nat.blt (id - 100000) xs.length
def Zng(xs:List Box):List SV->Bool
 | []=>true
 | s::l=>ZxH xs s&&Zng xs l
def S0(svs:List SV)(xs:List Box):St:=
 {env:=λi=>svs[i]?
  L:=λid=>bif Nat.ble 100000 id then xs[id - 100000]? else none
  ids:=(List.range xs.length).map bid
  tok:=λ_=>none
  tkeys:=[]
  gh:=0
  fo:=false }
def ZtE(E:Env)(S:St)(m:Mem):ResultVar->(Value->Prop)->Prop
 | .tmp t,k=>wv S (.tmp t) k
 | .cell t T,k=>Zea E S m T (.tmp t) k
def ZpT(tmps:Array Value):ResultVar->Sem Value
 | .tmp t=>pure (tmps.getD t undef)
 | .cell a t=>do loadVar t (<-asAddr (tmps.getD a undef))
def ZxI(E:Env)(S:St)(m:Mem):List ResultVar->(List Value->Prop)->Prop
 | [],k=>k []
 | r::l,k=>ZtE E S m r λv=>ZxI E S m l λvs=>k (v::vs)
def Zxo:List Value->Value
 | [v]=>v
 | vs=>.tuple vs.toArray
def Zvu(S:St):Nat->List Box->(List (List Value)->Prop)->Prop
 | _,[],k=>k []
 | j,x::xs,k=>match S.L (bid j)with
  | none=>False
  | some y=>{ y with cs:=x.cs }=x/\Zvu S (j+1) xs λcss=>k (y.cs::css)
def Zvv(l:List Nat):Bool:=Zbd l&&l.all (λi=>Nat.blt i 100000)
def ZtF(S:St):List Nat->Mem->Prop->Prop
 | [],_,k=>k
 | id::l,m,k=>match S.L id with
  | none=>ZtF S l m k
  | some x=>bif x.fz then ZtF S l m k else(m.free x.b->m.k x.b=none->ZtF S l m k)
theorem Ze8{C:Ctx}{S:St}{m:Mem}{a:Act}{w:World}(hr:Rel C S m a w):∀{l:List Nat} {k:Prop},ZtF S l m k->k
 | [],k,h=>h
 | id::l,k,h=>by
  unfold ZtF at h
  cases hx:S.L id with
  | none=>simp only[hx]at h;exact Ze8 hr h
  | some x=>
   simp only[hx]at h
   cases hz:x.fz with
   | true=>simp only[hz,cond_true]at h;exact Ze8 hr h
   | false=>
    simp only[hz,cond_false]at h
    refine Ze8 hr (h ((hr.own id x hx).free hz) ?_)
    cases hk:m.k x.b with
    | none=>rfl
    | some e=>
     exfalso
     obtain⟨c0,T0,f0,h7⟩:=(hr.own _ _ hx).isC
     obtain⟨es,cl,h8,_⟩:=hr.sub.k x.b e hk
     rw[h7]at h8;cases h8
def ZvS(E:Env)(S:St)(m:Mem)(k:Prop):Prop:=bif E.kF then ZtF S E.frz m k else k
theorem Zlt{C:Ctx}{E:Env}{S:St}{m:Mem}{a:Act}{w:World}(hr:Rel C S m a w){k:Prop}(h:ZvS E S m k):k:=by
 unfold ZvS at h
 cases hk:E.kF with
 | true=>rw[hk]at h;exact Ze8 hr h
 | false=>rw[hk]at h;exact h
def Zzf(E:Env)(rs:List ResultVar)(m0:Mem)(xs:List Box)(R:Value->Mem->List (List Value)->Prop)(S:St)(m:Mem):Prop:=
 ZxI E S m rs λvs=>Zvu S 0 xs λcss=>ZvS E S m (∃m'',m0.le m''/\m''.le (ZrL S E.frz m)/\R (Zxo vs) m'' css)
def Zzo(E:Env)(rs:List ResultVar)(m0:Mem)(xs:List Box)(R:Value->Mem->List (List Value)->Prop):KT:=λe S m=>match e with
 | .normal=>Zzf E rs m0 xs R S m
 | .ret=>Zzf E rs m0 xs R S m
 | _=>False
theorem Zn0{P:Program}{T:TypeId}{x v:Value}{w:World}(h:(Instr.loadAt T x).run P w=.ok v w):(do loadVar T (<-asAddr x):Sem Value).run P w=.ok v w:=by
 cases x with
 | pointer p=>
  cases p with
  | none=>simp[Instr.loadAt,Instr.sureAddr]at h
  | some p=>simpa[Instr.loadAt,Instr.sureAddr,asAddr]using h
 | _=>simp[Instr.loadAt,Instr.sureAddr]at h
theorem Zmp{a b:Nat}(h:Nat.blt a b=true):a < b:=Nat.le_of_ble_eq_true h
section
variable {C:Ctx} {S:St} {m:Mem} {a:Act} {w:World}
theorem ZjU{E:Env}(hE:E.ok)(hr:Rel C S m a w){r:ResultVar}{k:Value->Prop}(h:ZtE E S m r k):∃v,k v/\(ZpT a.tmps r).run E.P w=.ok v w:=by
 cases r with
 | tmp t=>
  obtain⟨v,hv,hk⟩:=Zau h
  refine⟨v,hk,?_⟩
  have:=hr.ev hv
  simp only[Act.eval]at this
  simp only[ZpT]
  rw[<-this];rfl
 | cell t T=>
  obtain⟨v,hk,bS⟩:=Zeb hE hr h
  exact⟨v,hk,Zn0 bS⟩
theorem Ze9{E:Env}(hE:E.ok)(hr:Rel C S m a w):∀{rs:List ResultVar} {k:List Value->Prop},ZxI E S m rs k->∃vs,k vs/\(rs.mapM (ZpT a.tmps)).run E.P w=.ok vs w
 | [],k,h=>⟨[],h,by simp⟩
 | r::l,k,h=>by
  obtain⟨v,h,h1⟩:=ZjU hE hr h
  obtain⟨vs,hk,h2⟩:=Ze9 hE hr h
  refine⟨v::vs,hk,?_⟩
  rw[List.mapM_cons]
  simp only[Sem.run_bind,h1,Result.andThen_ok,h2]
  rfl
theorem ZfO{fn:Func}{tmps:Array Value}{P:Program}{w:World}{vs:List Value}(h:(fn.results.toList.mapM (ZpT tmps)).run P w=.ok vs w):(results fn tmps).run P w=.ok (Zxo vs) w:=by
 have e:results fn tmps=(do
  let vs <-fn.results.mapM (ZpT tmps)
  pure (if h:vs.size=1 then vs[0]else .tuple vs)):=rfl
 rw[e,Array.mapM_eq_mapM_toList]
 simp only[Sem.run_bind,Sem.run_map,h,Result.andThen_ok]
 match vs with
 | []=>rfl
 | [v]=>rfl
 | v::u::l=>rfl
theorem ZfP:∀{xs:List Box} {j:Nat} {k:List (List Value)->Prop},Zvu S j xs k->∃css,css.length=xs.length/\(∀(i:Nat)(x:Box),xs[i]?=some x->∃cs,css[i]?=some cs/\S.L (bid (j+i))=some { x with cs:=cs })/\k css
 | [],j,k,h=>⟨[],rfl,by simp,h⟩
 | x::xs,j,k,h=>by
  simp only[Zvu]at h
  cases hL:S.L (bid j)with
  | none=>simp[hL]at h
  | some y=>
   simp only[hL]at h
   obtain⟨h1,h2⟩:=h
   obtain⟨css,g1,g2,g3⟩:=ZfP h2
   refine⟨y.cs::css,by simp[g1],?_,g3⟩
   intro i z hi
   cases i with
   | zero=>
    simp at hi;subst hi
    refine⟨y.cs,by simp,?_⟩
    rw[Nat.add_zero,hL,<-h1]
   | succ i=>
    obtain⟨cs,h3,h4⟩:=g2 i z (by simpa using hi)
    exact⟨cs,by simpa using h3,by rw[<-h4];congr 2;omega⟩
theorem Zd2(S:St)(m:Mem):∀{l:List Nat} {b:Nat},(∀id∈l,∀x,S.L id=some x->x.b≠b)->∀o,ZrL S l m b o=m b o
 | [],b,_,o=>rfl
 | id::l,b,h,o=>by
  have ih:=Zd2 S m (l:=l) (b:=b) (λi hi=>h i (by simp[hi])) o
  simp only[ZrL]
  cases hL:S.L id with
  | none=>exact ih
  | some x=>
   simp only
   cases hz:x.fz with
   | true=>exact ih
   | false=>
    simp only[cond_false]
    rw[Mem.add_other _ (Ne.symm (h id (by simp) x hL))];exact ih
theorem ZqS(hr:Rel C S m a w):∀{l:List Nat},l.Nodup->m.le (ZrL S l m)/\Sub (ZrL S l m) w/\(∀b o v,ZrL S l m b o=some v->m b o=some v\/∃id∈l,∃x,S.L id=some x/\x.b=b)
 | [],_=>⟨Mem.le_refl m,hr.sub,λb o v h=>.inl h⟩
 | id::l,hn=>by
  obtain⟨h1,h2⟩:=List.nodup_cons.1 hn
  obtain⟨i1,i2,i3⟩:=ZqS hr h2
  simp only[ZrL]
  cases hL:S.L id with
  | none=>exact⟨i1,i2,λb o v h=>(i3 b o v h).imp_right λ⟨id',h,x⟩=>⟨id',by simp[h],x⟩⟩
  | some x=>
   simp only
   cases hz:x.fz with
   | true=>exact⟨i1,i2,λb o v h=>(i3 b o v h).imp_right λ⟨id',h,x⟩=>⟨id',by simp[h],x⟩⟩
   | false=>
    simp only[cond_false]
    have gd:=(hr.own id x hL)
    have cF:(ZrL S l m).free x.b:=λo=>by
     rw[Zd2 S m (λi hi y hy e=>h1 (hr.apart _ _ _ _ hy hL e ▸ hi))]
     exact gd.free hz o
    refine⟨mLt i1 (Mem.le_add cF x.cs),?_,?_⟩
    ·exact i2.add λo v hv=>gd.cell hv
    ·intro b o v hv
     by_cases hb:b=x.b
     ·exact .inr ⟨id,by simp,x,hL,hb.symm⟩
     ·rw[Mem.add_other _ hb]at hv
      exact(i3 b o v hv).imp_right λ⟨id',h,x⟩=>⟨id',by simp[h],x⟩
end
theorem ZpU(S:St)(m:Mem):∀l:List Nat,(ZrL S l m).k=m.k
 | []=>rfl
 | id::l=>by
  simp only[ZrL]
  cases hL:S.L id with
  | none=>exact ZpU S m l
  | some x=>
   simp only
   cases hz:x.fz with
   | true=>exact ZpU S m l
   | false=>exact ZpU S m l
theorem ZhT{xs:List Box}:∀{l:List SV},Zng xs l=true->∀(i:Nat) s,l[i]?=some s->ZxH xs s=true
 | [],_,i,s,h=>by simp at h
 | x::l,h,i,s,hs=>by
  simp only[Zng,Bool.and_eq_true]at h
  cases i with
  | zero=>simp at hs;subst hs;exact h.1
  | succ i=>exact ZhT h.2 i s (by simpa using hs)
def ZyS(n:Nat)(m:Mem)(w:World)(bs:List Nat):Ctx where
 n:=n
 m0:=m
 me:=m
 mle:=Mem.le_refl m
 p:=λ_ M w'=>Keep w.heap.size bs w w'/\∀k,M k->(w.heap.size<=k/\k < w'.heap.size/\Wr w' k)\/k∈bs
 st:=by
  rintro g M M' w1 w2 ⟨h1,h2⟩ hu hg
  refine⟨h1.trans ⟨hu.os,hu.tape,hu.output,hu.size,λk hk hn=>hu.block k (Nat.lt_of_lt_of_le hk h1.size) λhm=>?_,hu.wr⟩,λk hk=>?_⟩
  ·rcases h2 k hm with h|h
   ·omega
   ·exact hn h
  ·rcases hg k hk with h|h
   ·exact(h2 k h).imp_left λh=>⟨h.1,Nat.lt_of_lt_of_le h.2.1 hu.size,hu.wr k h.2.1 h.2.2⟩
   ·have:=h1.size;exact .inl ⟨by omega,h.2⟩
theorem ZvT{n:Nat}{m:Mem}{w:World}{bs:List Nat}(hb:∀k∈bs,k < w.heap.size/\Wr w k){g:Int}{M:Nat->Prop}{w':World}(h:(ZyS n m w bs).p g M w')(k:Nat)(hk:M k):Wr w' k:=by
 rcases h.2 k hk with h1|h1
 ·exact h1.2.2
 ·exact h.1.wr k (hb k h1).1 (hb k h1).2
theorem Zlu{C:Ctx}{w:World}{xs:List Box}{svs:List SV}(gc:C.me=C.m0)(hs:Sub C.m0 w)(hx:∀x∈xs,Own C.m0 w x/\x.fz=false)(eJ:(xs.map (·.b)).Nodup)(cV:Zng xs svs=true)(hn:svs.length<=C.n)(hp:C.p 0 (λk=>k∈xs.map (·.b)) w):
  Rel C (S0 svs xs) C.m0 { tmps:=(svs.map (ZrH xs)).toArray++Array.replicate (C.n - (svs.map (ZrH xs)).toArray.size) undef,defers:=[] } w:=by
 have hL:∀id x,(S0 svs xs).L id=some x->100000<=id/\xs[id - 100000]?=some x:=λid x h=>by
  simp only[S0]at h
  cases hb:Nat.ble 100000 id with
  | false=>simp[hb]at h
  | true=>simp only[hb,cond_true]at h;exact⟨Nat.le_of_ble_eq_true hb,h⟩
 refine⟨⟨[],rfl,List.nodup_nil,by simp⟩,by simp;omega,?_,?_,?_,?_,by simp[S0],by simp[S0],by simp[S0],hs,gc ▸ Mem.le_refl _,⟨_,hp,λk hk=>?_,λid x hx=>?_,λk t b ht=>by simp[S0]at ht,by simp,gc ▸ NewM.refl _ _⟩,λ_=>gc⟩
 ·intro i sv he
  simp only[S0]at he
  have bB:=(List.getElem?_eq_some_iff.1 he).1
  have h1:=ZhT cV i sv he
  refine⟨ZrH xs sv,?_,?_⟩
  ·cases sv with
   | v x=>rfl
   | loc id off=>
    simp only[ZxH,Bool.and_eq_true]at h1
    have h2:id - 100000 < xs.length:=Zmp h1.2
    simp[St.den,S0,ZrH,h1.1,List.getElem?_eq_getElem h2]
   | sl id n c=>
    simp only[ZxH,Bool.and_eq_true]at h1
    have h2:id - 100000 < xs.length:=Zmp h1.2
    simp[St.den,S0,ZrH,h1.1,List.getElem?_eq_getElem h2]
  ·rw[Array.getElem?_append_left (by simpa using bB)]
   simp[he]
 ·intro id x hx'
  have:=List.mem_of_getElem? (hL id x hx').2
  exact(hx x this).1
 ·intro id id' x x' h1 h2 hb
  obtain⟨g1,g2⟩:=hL _ _ h1
  obtain⟨g3,g4⟩:=hL _ _ h2
  have hi:=(List.getElem?_eq_some_iff.1 g2).1
  have hi':=(List.getElem?_eq_some_iff.1 g4).1
  have:=(List.getElem?_inj (l:=xs.map (·.b)) (i:=id - 100000) (j:=id' - 100000) (by simpa using hi) eJ).1 (by simp[g2,g4,hb])
  omega
 ·intro id x h1
  obtain⟨g1,g2⟩:=hL _ _ h1
  have hi:=(List.getElem?_eq_some_iff.1 g2).1
  simp only[S0,List.mem_map,List.mem_range,bid]
  exact⟨id - 100000,hi,by omega⟩
 ·obtain⟨x,h1,h2⟩:=List.mem_map.1 hk
  exact h2 ▸ (hx x h1).1.lt
 ·exact List.mem_map.2 ⟨x,List.mem_of_getElem? (hL id x hx).2,rfl⟩
theorem Zr7{n:Nat}{w:World}{m:Mem}{xs:List Box}{svs:List SV}(hs:Sub m w)(hx:∀x∈xs,Own m w x/\x.fz=false)(eJ:(xs.map (·.b)).Nodup)(cV:Zng xs svs=true)(hn:svs.length<=n):
  Rel (ZyS n m w (xs.map (·.b))) (S0 svs xs) m { tmps:=(svs.map (ZrH xs)).toArray++Array.replicate (n - (svs.map (ZrH xs)).toArray.size) undef,defers:=[] } w:=
 Zlu (C:=ZyS n m w (xs.map (·.b))) rfl hs hx eJ cV hn ⟨Keep.refl _ _ _,λk hk=>.inr hk⟩
theorem Rel.leave{P:Program}{C:Ctx}{S:St}{m:Mem}{fn:Func}{tmps:Array Value}{R:Ending->World->Prop}(h:∀a' w',a'.tmps=tmps->Rel C S m a' w'->∃v,(results fn tmps).run P w'=.ok v w'/\R (.returned v) w'):
  ∀(ms:List Nat)(a:Act)(w:World),a.tmps=tmps->a.defers=ms.map Zeu->Rel C S m a w->LeavesInM Fence.wide 0 P fn tmps R a.defers .returning w
 | [],a,w,ht,hm,hr=>by
  rw[hm]
  simp only[List.map_nil,LeavesInM,LeavesIn]
  exact h a w ht hr
 | D::ms,a,w,ht,hm,hr=>by
  obtain⟨ms',q1,q2,q3⟩:=hr.defers
  have ic:ms'=D::ms:=by
   rw[hm]at q1
   have inj:∀(l l':List Nat),l.map Zeu=l'.map Zeu->l=l':=by
    intro l
    induction l with
    | nil=>intro l' h;cases l' <;> simp_all
    | cons x l ih=>
     intro l' h
     cases l' with
     | nil=>simp at h
     | cons y l'=>simp only[List.map_cons,List.cons.injEq]at h;rw[ih l' h.2];simpa[Zeu]using h.1
   exact(inj _ _ q1).symm
  subst ic
  have hD:=q3 D (by simp)
  rw[hm]
  simp only[List.map_cons,LeavesInM]
  refine⟨by simp,.inl ⟨D,_,rfl,run_takeDeferred hD,?_⟩⟩
  have hr':Rel C S m { a with defers:=ms.map Zeu } (w.putObj D (.deferred none)):=by
   obtain⟨M,hd⟩:=hr.dom
   have uw:M D:=hd.mks D (by rw[hm];simp)
   have dU:∀k,k≠D->(w.putObj D (.deferred none)).heap[k]?=w.heap[k]?:=λk hk=>World.putObj_heap_other hk
   refine hr.swap rfl hr.le rfl rfl rfl rfl hr.env hr.size ⟨ms,rfl,(List.nodup_cons.1 q2).2,λD' hD'=>?_⟩ (λk o hk hm=>dU k (λe=>by rw[e,hD]at hk;cases hk;cases hm)) (λk t b ht hb=>((hr.toks k t ht).2 b hb).2) hr.fo ?_
   ·rw[dU D' (λe=>(List.nodup_cons.1 q2).1 (e ▸ hD'))];exact q3 D' (by simp[hD'])
   ·have h1:=hd.step (m':=m) (Zd1 (o:=.deferred none) rfl uw) (NewM.refl _ _)
    exact⟨_,h1.p,h1.lt,h1.own,h1.tok,λD' hD'=>h1.mks D' (by rw[hm];exact List.mem_cons_of_mem _ hD'),h1.new⟩
  exact Rel.leave h ms { a with defers:=ms.map Zeu } _ ht rfl hr'
theorem ZvU{E:Env}(hE:E.ok){Zba:Nat->Array Oper->(St->Mem->Prop)->St->Mem->Prop}(hD:ZeD E Zba)(gW:Zei E Zba){g:FuncId}{fn:Func}{c:Code}
  (hf:E.P.funcs[g]?=some fn) (hn:(fn.name == "runtime.NumGoroutine")=false) (hb:fn.body=some c) (hc:Zav E c=true) (hl:Zbk fn.ntmps c=true) (hz:Zvv E.frz=true) (gA:E.yl=none/\E.ylY=none)
  {m:Mem} (fy:∀mm,E.m0=some mm->m=mm) {R:Value->Mem->List (List Value)->Prop} (svs:List SV) (xs:List Box) (bT:Nat.ble svs.length fn.ntmps=true) (cV:Zng xs svs=true)
  (h:W E Zba c (Zzo E fn.results.toList m xs R) (S0 svs xs) m):CX E.P g (svs.map (ZrH xs)).toArray m xs R:=by
 refine⟨ZjA hf hn (by simp[hb]),λw hs hx eJ=>?_⟩
 have bP:=Zr7 (n:=fn.ntmps) hs hx eJ cV (Nat.le_of_ble_eq_true bT)
 refine callsIn_wide.1 (callsIn_of_wp_marks (F:=Fence.wide) (n:=0) hf hb trivial ?_)
 refine Zcg hE hD gW c hc (.inl rfl) (YOk.none gA.1 gA.2 (λmm ic=>⟨fy mm ic,λg M w' hp k hk=>ZvT (λk hk=>by
  obtain⟨x,h1,rfl⟩:=List.mem_map.1 hk
  exact⟨(hx x h1).1.lt,(hx x h1).1.wr⟩) hp k hk⟩)) (λl hl=>by cases hl) 0 hl bP h ?_
 have key:∀S' m' a' w',Zzf E fn.results.toList m xs R S' m'->Rel (ZyS fn.ntmps m w (xs.map (·.b))) S' m' a' w'->LeavesInM Fence.wide 0 E.P fn a'.tmps (λe w'=>
   ∃v_1 m'_1 css,e=Ending.returned v_1/\m.le m'_1/\Sub m'_1 w'/\Zgy m m'_1 w w'/\Keep w.heap.size (xs.map (·.b)) w w'/\css.length=xs.length/\(∀(i:Nat)(x:Box)(cs:List Value),xs[i]?=some x->css[i]?=some cs->Own m'_1 w' { x with cs:=cs })/\R v_1 m'_1 css) a'.defers .returning w':=by
  intro S' m' a' w' hk hr
  obtain⟨ms,q1,_,_⟩:=hr.defers
  refine Rel.leave ?_ ms a' w' rfl q1 hr
  clear hr q1
  intro a2 w2 ht hr
  rw[<-ht]
  obtain⟨vs,hk,bS⟩:=Ze9 hE hr hk
  obtain⟨css,h1,h2,hk⟩:=ZfP hk
  obtain⟨m'',h3,h4,h5⟩:=Zlt hr hk
  obtain⟨M,hd⟩:=hr.dom
  refine⟨Zxo vs,ZfO bS,Zxo vs,m'',css,rfl,h3,?_,?_,hd.p.1,h1,?_,h5⟩
  all_goals simp only[Zvv,Bool.and_eq_true]at hz
  all_goals have ry:=ZaB hz.1
  all_goals obtain⟨f1,f2,f3⟩:=ZqS hr ry
  ·exact f2.less h4
  ·refine⟨λb o v hv=>?_,λb e he=>?_⟩
   rotate_left
   ·have he':=h4.k b e he
    rw[ZpU]at he'
    rcases hd.new.k b e he' with h6|h6
    ·exact .inl h6
    ·rcases hd.p.2 b h6 with h6|h6
     ·exact .inr ⟨h6.1,h6.2.2⟩
     ·exfalso
      obtain⟨y,hy,fW⟩:=List.mem_map.1 h6
      obtain⟨i,hi⟩:=List.getElem?_of_mem hy
      obtain⟨cs,_,gy⟩:=h2 i y hi
      obtain⟨c0,T0,f0,h7⟩:=(hr.own _ _ gy).isC
      obtain⟨es,cl,h8,_⟩:=hr.sub.k b e he'
      simp only[fW]at h7
      rw[h7]at h8;cases h8
   rcases f3 b o v (h4 b o v hv)with hv|⟨id,dH,x,eW,gQ⟩
   ·rcases hd.new b o v hv with h6|h6
    ·exact .inl h6
    ·rcases hd.p.2 b h6 with h6|h6
     ·exact .inr ⟨h6.1,h6.2.2⟩
     ·exfalso
      obtain⟨y,hy,fW⟩:=List.mem_map.1 h6
      obtain⟨i,hi⟩:=List.getElem?_of_mem hy
      obtain⟨cs,_,gy⟩:=h2 i y hi
      have:=(hr.own _ _ gy).free (hx y hy).2 o
      simp only[fW]at this
      rw[this]at hv;cases hv
   ·right
    have h6:=hd.p.2 _ (hd.own id x eW)
    subst gQ
    rcases h6 with h6|h6
    ·exact⟨h6.1,h6.2.2⟩
    ·exfalso
     obtain⟨y,hy,fW⟩:=List.mem_map.1 h6
     obtain⟨i,hi⟩:=List.getElem?_of_mem hy
     obtain⟨cs,_,gy⟩:=h2 i y hi
     have:=hr.apart _ _ _ _ eW gy fW.symm
     have bB:id < 100000:=by
      have:=List.all_eq_true.1 hz.2 id dH
      exact Zmp this
     simp only[bid]at this
     omega
  ·intro i x cs hi dM
   obtain⟨cs',h6,h7⟩:=h2 i x hi
   rw[dM]at h6;cases h6
   have ho:=hr.own _ _ h7
   have oB:=(hx x (List.mem_of_getElem? hi)).2
   refine⟨ho.cells,λ_ o=>?_,λhz'=>by simp[oB]at hz',ho.whole⟩
   cases hv:m'' x.b o with
   | none=>rfl
   | some v=>
    have h8:=h4 _ _ _ hv
    rw[Zd2 S' m' (λid dH y hy e=>?_)]at h8
    ·have:=ho.free oB o
     simp only at this
     rw[this]at h8;cases h8
    ·have:=hr.apart _ _ _ _ hy h7 e
     have bB:id < 100000:=by
      have:=List.all_eq_true.1 hz.2 id dH
      exact Zmp this
     simp only[bid]at this
     omega
 intro e S' m' a' w' hk hr
 cases e with
 | normal=>exact key S' m' a' w' hk hr
 | ret=>exact key S' m' a' w' hk hr
 | exit _=>exact hk.elim
 | goto _=>exact hk.elim
 | panic _=>exact hk.elim
 | outgrown=>exact hk.elim
def Zya(E:Env)(rs:List ResultVar)(n:Nat):KT:=λe S m=>match e with
 | .normal=>ZxI E S m rs λ_=>S.gh=n\/S.gh=-1
 | .ret=>ZxI E S m rs λ_=>S.gh=n\/S.gh=-1
 | _=>False
def Env.yields(E:Env)(l:Nat)(xs:List (List Value)):Env:={ E with yl:=some λl' g v=>l'=l/\0<=g/\xs[g.toNat]?=some v,ylY:=none,m0:=none }
theorem ZvV{E:Env}(hE:E.ok){Zba:(E:Env)->Nat->Array Oper->(St->Mem->Prop)->St->Mem->Prop}{g:FuncId}{fn:Func}{c:Code}
  (hf:E.P.funcs[g]?=some fn) (hn:(fn.name == "runtime.NumGoroutine")=false) (hb:fn.body=some c) (hl:Zbk fn.ntmps c=true)
  {m:Mem} (first captured:List Value) (xs:List (List Value)) (bT:Nat.ble (first.length+captured.length+1) fn.ntmps=true)
  (h:∀l,ZeD (E.yields l xs) (Zba (E.yields l xs))/\Zei (E.yields l xs) (Zba (E.yields l xs))/\Zav (E.yields l xs) c=true/\W (E.yields l xs) (Zba (E.yields l xs)) c (Zya E fn.results.toList xs.length) (S0 ((first++.func (.yield l) #[] #[]::captured).map .v) []) m):
  IX E.P g first captured m xs:=by
 refine⟨ZjA hf hn (by simp[hb]),λp hp l w hs nY hy=>?_⟩
 obtain⟨hD,gW,hc,h⟩:=h l
 have hE':(E.yields l xs).ok:=hE
 let C:Ctx:=⟨fn.ntmps,m,m,Mem.le_refl m,p,hp⟩
 have cV:∀vs:List Value,Zng [] (vs.map .v)=true:=λvs=>by
  induction vs with
  | nil=>rfl
  | cons v vs ih=>simp[Zng,ZxH,ih]
 have ml:∀vs:List Value,(vs.map SV.v).map (ZrH [])=vs:=λvs=>by
  induction vs with
  | nil=>rfl
  | cons v vs ih=>simp only[List.map_cons,ih];rfl
 have bP:=Zlu (C:=C) (xs:=[]) (svs:=(first++.func (.yield l) #[] #[]::captured).map .v) rfl hs (by simp) (by simp) (cV _) (by have:=Nat.le_of_ble_eq_true bT;simp;omega) (by
  have e:(λk=>k∈([]:List Box).map (·.b))=(λ_:Nat=>False):=by funext k;simp
  rw[e];exact nY)
 rw[ml]at bP
 refine callsIn_wide.1 (callsIn_of_wp_marks (F:=Fence.wide) (n:=0) hf hb trivial ?_)
 refine Zcg hE' hD gW c hc (.inl rfl) (C:=C) ⟨λY hY=>by
  simp only[Env.yields,Option.some.injEq]at hY
  subst hY;exact hy,λY hY=>(by cases hY),λmm ic=>by cases ic⟩ (λl hl=>by cases hl) 0 hl bP h ?_
 have key:∀S' m' a' w',ZxI E S' m' fn.results.toList (λ_=>S'.gh=xs.length\/S'.gh=-1)->Rel C S' m' a' w'->LeavesInM Fence.wide 0 E.P fn a'.tmps (λe w'=>∃v M,e=.returned v/\(∀k,M k->k < w'.heap.size)/\(p xs.length M w'\/p (-1) M w')) a'.defers .returning w':=by
  intro S' m' a' w' hk hr
  obtain⟨ms,q1,_,_⟩:=hr.defers
  refine Rel.leave ?_ ms a' w' rfl q1 hr
  clear hr q1
  intro a2 w2 ht hr
  rw[<-ht]
  obtain⟨vs,hk,bS⟩:=Ze9 hE hr hk
  obtain⟨M,hd⟩:=hr.dom
  refine⟨Zxo vs,ZfO bS,_,M,rfl,hd.lt,?_⟩
  have:=hd.p
  rcases hk with hk|hk
  ·rw[hk]at this;exact .inl this
  ·rw[hk]at this;exact .inr this
 intro e S' m' a' w' hk hr
 cases e with
 | normal=>exact key S' m' a' w' hk hr
 | ret=>exact key S' m' a' w' hk hr
 | exit _=>exact hk.elim
 | goto _=>exact hk.elim
 | panic _=>exact hk.elim
 | outgrown=>exact hk.elim
def LC{α β:Type}(T1:(α->Prop)->Prop)(T2:(β->Prop)->Prop)(ρ:α->β->Prop):Prop:=
 T1 (λ_=>True)->T2 (λy2=>∃y1,(∀K,T1 K->K y1)/\ρ y1 y2)
section comb
variable {α β:Type} {ρ:α->β->Prop}
theorem LC.false{T2:(β->Prop)->Prop}:LC (λ_:α->Prop=>False) T2 ρ:=λh=>h.elim
theorem LC.ret{a:α}{b:β}(h:ρ a b):LC (λK=>K a) (λK=>K b) ρ:=λ_=>⟨a,λ_ hK=>hK,h⟩
theorem LC.chk{c:Bool}{T1:(α->Prop)->Prop}{T2:(β->Prop)->Prop}(h:c=true->LC T1 T2 ρ):LC (λK=>chk c (T1 K)) (λK=>chk c (T2 K)) ρ:=by
 cases c
 ·exact λh=>h.elim
 ·exact h rfl
theorem LC.br{c:Bool}{T1 U1:(α->Prop)->Prop}{T2 U2:(β->Prop)->Prop}(h:LC T1 T2 ρ)(k:LC U1 U2 ρ):LC (λK=>br c (T1 K) (U1 K)) (λK=>br c (T2 K) (U2 K)) ρ:=by
 cases c
 ·exact k
 ·exact h
theorem LC.and{p q:Prop}{T1:(α->Prop)->Prop}{T2:(β->Prop)->Prop}(nO:p->q)(h:p->LC T1 T2 ρ)(mono:∀{K K':β->Prop},(∀y,K y->K' y)->T2 K->T2 K'):LC (λK=>p/\T1 K) (λK=>q/\T2 K) ρ:=λ⟨h1,h2⟩=>
 ⟨nO h1,mono (λy ⟨y1,g1,g2⟩=>⟨y1,λK hK=>g1 K hK.2,g2⟩) (h h1 h2)⟩
theorem LC.map{γ δ:Type}{σ:γ->δ->Prop}{T1:(α->Prop)->Prop}{T2:(β->Prop)->Prop}(h:LC T1 T2 ρ)(f:α->γ)(g:β->δ)(og:∀a b,ρ a b->σ (f a) (g b))(mono:∀{K K':β->Prop},(∀y,K y->K' y)->T2 K->T2 K'):
  LC (λK=>T1 λa=>K (f a)) (λK=>T2 λb=>K (g b)) σ:=λh1=>
 mono (λb ⟨a,g1,g2⟩=>⟨f a,λK hK=>g1 _ hK,og _ _ g2⟩) (h h1)
end comb
abbrev LE{α:Type}(T1 T2:(α->Prop)->Prop):Prop:=LC T1 T2 Eq
theorem ZqT{l:List Value}{n:Nat}{α β:Type}{ρ:α->β->Prop}{f:Value->α}{g:Value->β}(h:∀v,ρ (f v) (g v)):LC (λK=>Ztt l n λv=>K (f v)) (λK=>Ztt l n λv=>K (g v)) ρ:=by
 unfold Ztt
 cases hl:l[n]? with
 | none=>exact LC.false
 | some v=>simp only;exact LC.ret (h v)
theorem ZtG{op:BinOp}{b:Bool}:LE (Ztu op b) (Ztu op b):=by
 cases op <;> first
  | exact LC.false
  | exact LC.ret rfl
theorem ZvW{op:BinOp}{k:IntKind}{a b:Int}:LE (Zxg op k a b) (Zxg op k a b):=by
 cases op <;> first
  | exact LC.false
  | exact LC.ret rfl
  | exact LC.and id (λ_=>LC.ret rfl) (λh=>h _)
theorem Zr8{op:BinOp}{k:IntKind}{a b:Int}:LE (Zjw op k a b) (Zjw op k a b):=by
 cases op <;> first
  | exact LC.false
  | exact LC.and id (λ_=>LC.ret rfl) (λh=>h _)
theorem ZvX{op:BinOp}{a b:ByteArray}:LE (Zxh op a b) (Zxh op a b):=by
 cases op <;> first
  | exact LC.false
  | exact LC.ret rfl
  | exact LC.and id (λ_=>LC.ret rfl) (λh=>h _)
theorem EqIs.unique{P:Program}{T:TypeId}{x y:Value}{a b:Bool}(w:World)(h:EqIs P T x y a)(k:EqIs P T x y b):a=b:=by
 have h1:=h.1 w
 rw[k.1 w]at h1
 cases h1;rfl
theorem BinIs.unique{P:Program}{op:BinOp}{T:TypeId}{x y a b:Value}(w:World)(h:BinIs P op T x y a)(k:BinIs P op T x y b):a=b:=by
 have h1:=h (.tmp 0) (.tmp 0) w
 rw[k (.tmp 0) (.tmp 0) w]at h1
 cases h1;rfl
theorem ConvIs.unique{P:Program}{s d:TypeId}{x a b:Value}(w:World)(h:ConvIs P s d x a)(k:ConvIs P s d x b):a=b:=by
 have h1:=h w
 rw[k w]at h1
 cases h1;rfl
theorem ZvY{E:Env}(w:World){op:BinOp}{T:TypeId}{x y:Value}:LE (Zw7 E op T x y) (Zw7 E op T x y):=by
 unfold Zw7
 cases ht:E.tt T with
 | none=>exact LC.false
 | some i=>
  simp only
  cases hd:i.d <;> simp only <;> first
   | exact LC.false
   | exact LC.chk λ_=>ZvX
   | exact LC.chk λ_=>ZtG
   | (refine LC.chk λ_=>?_
      rintro⟨b,hb,h⟩
      exact⟨b,hb,ZjL (λv ⟨v1,g1,g2⟩=>⟨v1,λK ⟨b',hb',hK⟩=>g1 K (by rw[EqIs.unique w hb hb'];exact hK),g2⟩) (ZtG h)⟩)
   | (cases hc:ZvL op
      ·simp only[cond_false];rintro⟨v,hv,_⟩;exact⟨v,hv,v,λK ⟨v',hv',hK⟩=>(by rw[BinIs.unique w hv hv'];exact hK),rfl⟩
      ·simp only[cond_true];rintro⟨v,hv,_⟩;exact⟨v,hv,.bool v,λK ⟨v',hv',hK⟩=>(by rw[BinIs.unique w hv hv'];exact hK),rfl⟩)
   | (cases hs:Zi4 op
      ·exact LC.chk λ_=>ZvW
      ·exact LC.chk λ_=>Zr8)
theorem Zuo{E:Env}(w:World){s d:TypeId}{v:Value}:LE (ZrK E s d v) (ZrK E s d v):=by
 unfold ZrK
 cases E.tt s with
 | none=>exact LC.false
 | some i=>
  cases E.tt d with
  | none=>exact LC.false
  | some j=>
   simp only
   cases i.d <;> cases j.d <;> simp only <;> first
    | exact LC.false
    | exact LC.chk λ_=>LC.ret rfl
    | (rintro⟨v,hv,_⟩;exact⟨v,hv,v,λK ⟨v',hv',hK⟩=>(by rw[ConvIs.unique w hv hv'];exact hK),rfl⟩)
theorem ZvZ{E:Env}{T:TypeId}{v:Value}:LE (ZxE E T v) (ZxE E T v):=by
 unfold ZxE
 cases E.tt T with
 | none=>exact LC.false
 | some i=>
  simp only
  cases i.d <;> simp only <;> first
   | exact LC.false
   | exact LC.ret rfl
   | exact LC.chk λ_=>LC.ret rfl
theorem Zfa{α β:Type}{ρ:α->β->Prop}{x:Option Value}{d y:Nat}{U1:Nat->(α->Prop)->Prop}{U2:Nat->(β->Prop)->Prop}(h:∀n,LC (U1 n) (U2 n) ρ)(mono:∀n {K K':β->Prop},(∀y,K y->K' y)->U2 n K->U2 n K'):
  LC (λK=>ZgB x d y λn=>U1 n K) (λK=>ZgB x d y λn=>U2 n K) ρ:=by
 cases x with
 | none=>exact h d
 | some v=>exact LC.chk λ_=>LC.and id (λ_=>h _) (mono _)
theorem ZqU{α β:Type}{ρ:α->β->Prop}{place:Nat->Option (Nat×Nat)}{f:List Value->α}{g:List Value->β}(h:∀v,ρ (f v) (g v)):∀{parts:List (Nat×Value)} {cs:List Value},LC (λK=>Zne place cs parts λr=>K (f r)) (λK=>Zne place cs parts λr=>K (g r)) ρ
 | [],cs=>LC.ret (h cs)
 | (i,v)::rest,cs=>by
  simp only[Zne]
  cases place i with
  | none=>exact LC.false
  | some os=>exact LC.chk λ_=>ZqU h
theorem Zr9{E:Env}{T:TypeId}{v:Value}{lo hi mx:Option Value}:LE (Zid E T v lo hi mx) (Zid E T v lo hi mx):=by
 unfold Zid
 cases ZhL E T with
 | some sz=>
  simp only
  exact LC.chk λ_=>Zfa (λm=>Zfa (λh=>Zfa (λl=>LC.chk λ_=>LC.ret rfl) (λl K K' hh=>Zaj (hh _))) (λh K K' hh=>ZbE (λl=>Zaj (hh _)))) (λm K K' hh=>ZbE (λh=>ZbE (λl=>Zaj (hh _))))
 | none=>
  simp only
  cases Zez E T with
  | false=>exact LC.false
  | true=>exact LC.chk λ_=>Zfa (λh=>Zfa (λl=>LC.ret rfl) (λl K K' hh=>hh _)) (λh K K' hh=>ZbE (λl=>hh _))
structure Less (S1 S2:St):Prop where
 env:∀t sv,S1.env t=some sv->S2.env t=some sv
 L:∀id x,S1.L id=some x->S2.L id=some x
theorem Less.ev{S1 S2:St}(h:Less S1 S2){x:Operand}{sv:SV}(hx:S1.ev x=some sv):S2.ev x=some sv:=by
 cases x with
 | tmp t=>exact h.env t sv hx
 | _=>exact hx
theorem Less.den{S1 S2:St}(h:Less S1 S2){sv:SV}{v:Value}(hx:S1.den sv=some v):S2.den sv=some v:=by
 cases sv with
 | v u=>exact hx
 | loc id off=>
  simp only[St.den]at *
  cases hb:S1.L id with
  | none=>simp[hb]at hx
  | some b=>simp only[hb]at hx;simp only[h.L id b hb];exact hx
 | sl id n c=>
  simp only[St.den]at *
  cases hb:S1.L id with
  | none=>simp[hb]at hx
  | some b=>simp only[hb]at hx;simp only[h.L id b hb];exact hx
theorem Less.val{S1 S2:St}(h:Less S1 S2){x:Operand}{v:Value}(hx:S1.val x=some v):S2.val x=some v:=by
 unfold St.val at *
 cases he:S1.ev x with
 | none=>simp[he]at hx
 | some sv=>simp only[he]at hx;rw[h.ev he];exact h.den hx
section ops
variable {α β:Type} {ρ:α->β->Prop} {S1 S2:St}
theorem Zcy(hs:Less S1 S2){x:Operand}{U1:Value->(α->Prop)->Prop}{U2:Value->(β->Prop)->Prop}(h:∀v,LC (U1 v) (U2 v) ρ):
  LC (λK=>wv S1 x λv=>U1 v K) (λK=>wv S2 x λv=>U2 v K) ρ:=by
 unfold wv
 cases hv:S1.val x with
 | none=>exact LC.false
 | some v=>simp only[hs.val hv];exact h v
theorem Zmq(hs:Less S1 S2):∀{l:List Operand} {U1:List Value->(α->Prop)->Prop} {U2:List Value->(β->Prop)->Prop} (h:∀v,LC (U1 v) (U2 v) ρ),LC (λK=>wvs S1 l λv=>U1 v K) (λK=>wvs S2 l λv=>U2 v K) ρ
 | [],U1,U2,h=>h []
 | x::l,U1,U2,h=>Zcy hs (U1:=λv K=>wvs S1 l λvs=>U1 (v::vs) K) (U2:=λv K=>wvs S2 l λvs=>U2 (v::vs) K) λv=>Zmq hs (λvs=>h (v::vs))
theorem ZqV(hs:Less S1 S2){x:Option Operand}{U1:Option Value->(α->Prop)->Prop}{U2:Option Value->(β->Prop)->Prop}(h:∀v,LC (U1 v) (U2 v) ρ):
  LC (λK=>Zxk S1 x λv=>U1 v K) (λK=>Zxk S2 x λv=>U2 v K) ρ:=by
 cases x with
 | none=>exact h none
 | some x=>exact Zcy hs (U1:=λv K=>U1 (some v) K) (U2:=λv K=>U2 (some v) K) λv=>h (some v)
end ops
theorem Zup{E:Env}{S1 S2:St}(w:World)(hs:Less S1 S2){o:Oper}:LE (Zca E S1 o) (Zca E S2 o):=by
 have hr:∀{a:SV},LE (λK:SV->Prop=>K a) (λK=>K a):=LC.ret rfl
 have ir:∀{c:Bool} {a:SV},LE (λK:SV->Prop=>Eng.chk c (K a)) (λK=>Eng.chk c (K a)):=LC.chk λ_=>LC.ret rfl
 obtain⟨dst,op,type,pos,after,guard⟩:=o
 cases op <;> unfold Zca <;> simp only <;> try exact LC.false
 case unOp op T x=>
  refine Zcy hs λv=>?_
  cases op <;> simp only <;> first
   | exact LC.false
   | exact ir
   | (cases ZbX E T <;> simp only <;> first
     | exact LC.false
     | exact ir)
 case binOp op T x y yT=>
  exact Zcy hs λv=>Zcy hs λv'=>(ZvY w).map _ _ (λa b e=>by rw[e]) (λh=>ZnQ h)
 case convert s d x=>exact Zcy hs λv=>(Zuo w).map _ _ (λa b e=>by rw[e]) (λh hx=>by
  unfold ZrK at *
  (repeat' split at hx) <;> first|exact(hx:False).elim|exact Zaj (h _) hx|exact hx.elim λu z=>⟨u,z.1,h _ z.2⟩)
 case makeFunc=>exact Zmq hs λv=>Zmq hs λv'=>hr
 case fieldAddr T x f=>
  cases Zey E T f with
  | none=>exact LC.false
  | some fo=>
   simp only
   cases he:S1.ev x with
   | none=>exact LC.false
   | some sv=>
    simp only[hs.ev he]
    cases sv <;> first
     | exact LC.false
     | exact hr
     | exact ir
 case indexAddr T x i=>
  refine Zcy hs λvi=>LC.chk λ_=>?_
  cases Zxj E T with
  | none=>exact LC.false
  | some ix=>
   cases he:S1.ev x with
   | none=>
    cases ix <;> simp only
    ·exact λh=>h.2.elim
    ·exact LC.false
   | some sv=>
    simp only[hs.ev he]
    cases ix <;> simp only
    ·cases sv <;> simp only
     ·exact LC.and id (λ_=>ir) (λh=>Zaj (h _))
     ·exact LC.and id (λ_=>hr) (λh=>h _)
     ·exact λh=>h.2.elim
    ·cases sv <;> simp only
     ·refine LC.chk λ_=>?_
      rintro⟨b,o,h1,h2,h3⟩
      refine⟨b,o,h1,h2,_,λK ⟨b',o',g1,g2,g3⟩=>?_,rfl⟩
      rw[h1]at g1
      cases g1
      exact g3
     ·exact LC.false
     ·exact LC.and id (λ_=>hr) (λh=>h _)
 case index T x i=>
  refine Zcy hs λv=>Zcy hs λvi=>LC.chk λ_=>?_
  cases Zez E T <;> simp only[cond_true,cond_false]
  ·cases ZpH E T with
   | none=>exact LC.false
   | some len=>exact LC.chk λ_=>LC.and id (λ_=>ZqT (λ_=>rfl)) (λh=>ZgN (λu=>h _))
  ·exact LC.chk λ_=>LC.and id (λ_=>hr) (λh=>h _)
 case build T parts=>
  cases ZhK E T with
  | none=>exact LC.false
  | some place=>exact Zmq hs λvs=>ZqU (λ_=>rfl)
 case extract x n=>exact Zcy hs λv=>LC.chk λ_=>ZqT (λ_=>rfl)
 case makeInterface T x=>exact Zcy hs λv=>ir
 case nilCheck x=>
  cases he:S1.ev x with
  | none=>exact LC.false
  | some sv=>
   simp only[hs.ev he]
   cases sv <;> first
    | exact LC.false
    | exact hr
    | exact ir
 case slice T x lo hi mx=>exact Zcy hs λv=>ZqV hs λl=>ZqV hs λh=>ZqV hs λm=>Zr9.map _ _ (λa b e=>by rw[e]) (λh=>Zjc h)
 case call c=>
  split
  ·split
   ·exact Zcy hs λv=>ZvZ.map _ _ (λa b e=>by rw[e]) (λh y=>by
     unfold ZxE at *
     (repeat' split at y) <;> first|exact y.elim|exact Zaj (h _) y|exact h _ y)
   ·exact LC.false
  ·split
   ·rename_i T _ _ _
    refine Zcy hs λv=>Zcy hs λv'=>?_
    split
    ·exact ir
    ·exact LC.false
   ·exact LC.false
  ·split
   ·refine Zcy hs λv=>Zcy hs λv'=>?_
    split
    ·exact ir
    ·exact LC.false
   ·refine Zcy hs λv=>Zcy hs λv'=>Zcy hs λv''=>?_
    split
    ·exact ir
    ·exact LC.false
   ·exact LC.false
  ·exact LC.false
theorem CX.frame2{P:Program}{g:FuncId}{args:Array Value}{m M:Mem}{X:List Box}{R:Value->Mem->List (List Value)->Prop}(h:CX P g args m X R)(hm:m.le M):
  CX P g args M X (λv M' css=>∃m',m.le m'/\m'.le M'/\(∀b o u,M b o=some u->∀o',m' b o'=m b o')/\R v m' css):=by
 refine⟨h.1,λw hs hX eJ=>?_⟩
 have cF:∀{b o},M b o=none->m b o=none:=λ{b o} hb=>by
  cases he:m b o with
  | none=>rfl
  | some v=>rw[hm _ _ _ he]at hb;cases hb
 have hX':∀x∈X,Own m w x/\x.fz=false:=λx hx=>by
  obtain⟨ho,hz⟩:=hX x hx
  exact⟨⟨ho.cells,λ_ o=>cF (ho.free hz o),λhz'=>by simp[hz]at hz',ho.whole⟩,hz⟩
 refine(h.2 w (hs.less hm) hX' eJ).mono ?_
 rintro e w' ⟨v,m',css,rfl,a2,a3,a4,a5,a6,a7,a8⟩
 have cJ:m'.le (M.or m'):=⟨λb o u hu=>by
  cases hM:M b o with
  | none=>simp[Mem.or,hM,hu]
  | some u'=>
   rcases a4 b o u hu with h1|h1
   ·rw[hm _ _ _ h1]at hM;cases hM;simp[Mem.or,hm _ _ _ h1]
   ·have:=hs.lt hM;omega,λb u hu=>by
  cases hM:M.k b with
  | none=>simp[Mem.or,hM,hu]
  | some u'=>
   rcases a4.k b u hu with h1|h1
   ·rw[hm.k _ _ h1]at hM;cases hM;simp[Mem.or,hm.k _ _ h1]
   ·have:=(hs.k b u' hM).lt;omega⟩
 have dA:∀b o u,M b o=some u->∀o',m' b o'=m b o':=λb o u hu o'=>by
  cases hm':m' b o' with
  | none=>
   cases fy:m b o' with
   | none=>rfl
   | some x=>have:=a2 _ _ _ fy;rw[hm']at this;cases this
  | some x=>
   rcases a4 b o' x hm' with h1|h1
   ·exact h1.symm
   ·have:=hs.lt hu;omega
 refine⟨v,M.or m',css,rfl,Mem.le_or _ _,?_,?_,a5,a6,?_,m',a2,cJ,dA,a8⟩
 ·refine⟨λb o u hu=>?_,λb e he=>?_⟩
  rotate_left
  ·rcases Mem.or_k he with h1|⟨h1,h2⟩
   ·refine(hs.k b e h1).same (a5.block b (hs.k b e h1).lt λcP=>?_)
    obtain⟨x,hx,rfl⟩:=List.mem_map.1 cP
    obtain⟨c0,T0,f0,h7⟩:=(hX x hx).1.isC
    obtain⟨es,cl,h8,_⟩:=hs.k _ _ h1
    rw[h7]at h8;cases h8
   ·exact a3.k b e h2
  rcases Mem.or_some hu with h1|⟨h1,h2⟩
  ·have bB:=hs.lt h1
   rw[Zb4 (a5.block b bB ?_)]
   ·exact hs b o u h1
   ·intro cP
    obtain⟨x,hx,rfl⟩:=List.mem_map.1 cP
    obtain⟨ho,hz⟩:=hX x hx
    have:=ho.free hz o
    rw[h1]at this;cases this
  ·exact a3 b o u h2
 ·refine⟨λb o u hu=>?_,λb u hu=>?_⟩
  ·rcases Mem.or_some hu with h1|⟨h1,h2⟩
   ·exact .inl h1
   ·rcases a4 b o u h2 with h3|h3
    ·rw[hm _ _ _ h3]at h1;cases h1
    ·exact .inr h3
  ·rcases Mem.or_k hu with h1|⟨h1,h2⟩
   ·exact .inl h1
   ·rcases a4.k b u h2 with h3|h3
    ·rw[hm.k _ _ h3]at h1;cases h1
    ·exact .inr h3
 ·intro i x cs hi dM
  have ho:=a7 i x cs hi dM
  obtain⟨kX,hz⟩:=hX x (List.mem_of_getElem? hi)
  refine⟨ho.cells,λ_ o=>?_,λhz'=>by simp[hz]at hz',ho.whole⟩
  simp only[Mem.or,kX.free hz o]
  exact ho.free hz o
theorem CX.frame{P:Program}{g:FuncId}{args:Array Value}{m M:Mem}{X:List Box}{R:Value->Mem->List (List Value)->Prop}(h:CX P g args m X R)(hm:m.le M):
  CX P g args M X (λv M' css=>∃m',m.le m'/\m'.le M'/\R v m' css):=(h.frame2 hm).mono λ_ _ _ _ ⟨m',a1,a2,_,a4⟩=>⟨m',a1,a2,a4⟩
theorem CXT.frame{P:Program}{g:FuncId}{args:Array Value}{m M:Mem}{esz:Nat}{R:Value->Mem->List (List Value)->Prop}(h:CXT P g args m esz R)(hm:m.le M):
  CXT P g args M esz (λv M' _=>∃m',m.le m'/\m'.le M'/\R v m' []):=by
 refine⟨h.1,λw hs=>(h.2 w (hs.less hm)).mono ?_⟩
 rintro e w' ⟨v,m',rfl,a2,a3,a4,a5,a6,a7,a8⟩
 have cJ:m'.le (M.or m'):=⟨λb o u hu=>by
  cases hM:M b o with
  | none=>simp[Mem.or,hM,hu]
  | some u'=>
   rcases a4 b o u hu with h1|h1
   ·rw[hm _ _ _ h1]at hM;cases hM;simp[Mem.or,hm _ _ _ h1]
   ·have:=hs.lt hM;omega,λb u hu=>by
  cases hM:M.k b with
  | none=>simp[Mem.or,hM,hu]
  | some u'=>
   rcases a4.k b u hu with h1|h1
   ·rw[hm.k _ _ h1]at hM;cases hM;simp[Mem.or,hm.k _ _ h1]
   ·have:=(hs.k b u' hM).lt;omega⟩
 refine⟨v,M.or m',rfl,Mem.le_or _ _,⟨λb o u hu=>?_,λb e he=>?_⟩,⟨λb o u hu=>?_,λb u hu=>?_⟩,a5,a6.same (λ_ _=>rfl) (λb o hb hn=>?_),a7,m',a2,cJ,a8⟩
 ·rcases Mem.or_some hu with h1|⟨h1,h2⟩
  ·have bB:=hs.lt h1
   rw[Zb4 (a5.block b bB (by simp))]
   exact hs b o u h1
  ·exact a3 b o u h2
 ·rcases Mem.or_k he with h1|⟨h1,h2⟩
  ·exact(hs.k b e h1).same (a5.block b (hs.k b e h1).lt (by simp))
  ·exact a3.k b e h2
 ·rcases Mem.or_some hu with h1|⟨h1,h2⟩
  ·exact .inl h1
  ·rcases a4 b o u h2 with h3|h3
   ·rw[hm _ _ _ h3]at h1;cases h1
   ·exact .inr h3
 ·rcases Mem.or_k hu with h1|⟨h1,h2⟩
  ·exact .inl h1
  ·rcases a4.k b u h2 with h3|h3
   ·rw[hm.k _ _ h3]at h1;cases h1
   ·exact .inr h3
 ·cases hM:M b o with
  | none=>simp[Mem.or,hM,hn]
  | some u=>have:=a7 b hb;have:=hs.lt hM;omega
theorem ZeF{m:Mem}{b o:Nat}{xs ys:List Value}(h:m.reads b o xs)(k:m.reads b o ys)(hl:xs.length=ys.length):xs=ys:=by
 refine List.ext_getElem hl λi h1 h2=>?_
 have a:=h i _ (List.getElem?_eq_getElem h1)
 have b:=k i _ (List.getElem?_eq_getElem h2)
 rw[a]at b;exact Option.some.inj b
theorem ZeG{m:Mem}{a:Option Addr}{xs ys:List Value}(h:rowRd m a xs)(k:rowRd m a ys)(hl:xs.length=ys.length):xs=ys:=by
 rcases h with h|⟨b,o,h1,h2⟩
 ·subst h;simp at hl;exact(List.eq_nil_of_length_eq_zero hl.symm).symm
 ·rcases k with k|⟨b',o',k1,k2⟩
  ·subst k;simpa using hl
  ·rw[h1]at k1;cases k1
   exact ZeF h2 k2 hl
theorem ZpV{i:TI}{m M:Mem}(hm:m.le M){b o:Nat}:LE (ZcZ i m b o) (ZcZ i M b o):=by
 intro h
 unfold ZcZ at *
 cases ha:i.agg with
 | false=>
  simp only[ha,cond_false]at *
  obtain⟨v,hv,_⟩:=h
  exact⟨v,hm _ _ _ hv,v,λK ⟨v',hv',hK⟩=>by rw[hv]at hv';cases hv';exact hK,rfl⟩
 | true=>
  simp only[ha,cond_true]at *
  cases hb:Nat.ble i.size 16 with
  | true=>
   simp only[hb,cond_true]at *
   obtain⟨vs,hl,hr,_⟩:=ZhN h
   refine Zjy vs hl ⟨hr.mono hm,_,λK hK=>?_,rfl⟩
   obtain⟨vs',hl',hr',hK⟩:=ZhN hK
   rw[ZeF hr hr' (by omega)];exact hK
  | false=>
   simp only[hb,cond_false]at *
   obtain⟨vs,hl,hr,_⟩:=h
   refine⟨vs,hl,hr.mono hm,_,λK ⟨vs',hl',hr',hK⟩=>?_,rfl⟩
   rw[ZeF hr hr' (by omega)];exact hK
theorem Zlv{i:TI}{x:Box}{off:Nat}:LE (ZcE i x off) (ZcE i x off):=by
 unfold ZcE
 cases i.agg <;> simp only[cond_true,cond_false]
 ·exact ZqT (λ_=>rfl)
 ·cases(x.full&&(Nat.beq x.cap i.size&&Nat.beq off 0)) <;> simp only[cond_true,cond_false]
  ·exact LC.chk λ_=>LC.ret rfl
  ·exact LC.ret rfl
theorem Zsa{m:Mem}{a:Option Addr}{xs ys:List Value}(hx:rowRd m a xs)(hy:rowRd m a ys)(hl:xs.length=ys.length):xs=ys:=by
 apply List.ext_getElem? λj=>?_
 rcases hx with rfl|⟨b,o,rfl,h1⟩
 ·rw[List.eq_nil_of_length_eq_zero hl.symm]
 ·rcases hy with rfl|⟨b',o',h,h2⟩
  ·rw[List.eq_nil_of_length_eq_zero hl]
  ·cases h
   by_cases hj:j < xs.length
   ·have e1:=List.getElem?_eq_getElem hj
    have e2:=List.getElem?_eq_getElem (hl ▸ hj:j < ys.length)
    have g1:=h1 j _ e1
    have g2:=h2 j _ e2
    rw[g1]at g2
    rw[e1,e2,g2]
   ·rw[List.getElem?_eq_none_iff.2 (by omega),List.getElem?_eq_none_iff.2 (by omega)]
theorem Zmr{s t:ByteArray}(h:Za0 s=Za0 t):s=t:=by
 unfold Za0 at h
 have:s.data.toList=t.data.toList:=by
  refine(List.map_inj_right λx y e=>?_).1 h
  simp only[Value.int.injEq,true_and]at e
  exact UInt8.toNat_inj.1 (by omega)
 have h2:s.data=t.data:=Array.ext' this
 cases s;cases t
 simpa using h2
theorem ZpW{S1 S2:St}(hs:Less S1 S2){m M:Mem}(hm:m.le M){x:Operand}:LE (Zed S1 m x) (ZbQ S2 M x):=by
 intro h
 refine Zi8 ?_
 unfold Zed at *
 split at h
 ·rename_i v he
  obtain⟨h1,bs,h2,h3,_⟩:=Zah h
  simp only[hs.ev he]
  refine Zaa h1 ⟨bs,h2,h3.mono hm,.string bs,λK hK=>?_,rfl⟩
  obtain⟨_,bs',h2',h3',hk⟩:=Zah hK
  have:bs=bs':=Zmr (Zsa h3 h3' (by rw[Zcd,Zcd,h2,h2']))
  rw[this];exact hk
 ·exact h.elim
theorem ZqW{E:Env}{S1 S2:St}(hs:Less S1 S2){m M:Mem}(hm:m.le M){T:TypeId}{x:Operand}:LE (Zea E S1 m T x) (Zea E S2 M T x):=by
 unfold Zea
 cases E.tt T with
 | none=>exact LC.false
 | some i=>
  simp only
  cases he:S1.ev x with
  | none=>exact LC.false
  | some sv=>
   simp only[hs.ev he]
   cases sv with
   | v u=>
    simp only
    cases ZeA E x with
    | none=>exact LC.chk λ_=>ZpV hm
    | some id=>
     simp only
     cases hx:S1.L id with
     | none=>exact LC.false
     | some bx=>
      simp only[hs.L id bx hx]
      exact LC.chk λ_=>LC.and (λh=>h) (λ_=>Zlv) (λh=>Zdw h)
   | loc id off=>
    simp only
    cases hx:S1.L id with
    | none=>exact LC.false
    | some bx=>simp only[hs.L id bx hx];exact Zlv
   | sl id n c=>exact LC.false
structure OutB (rs:List Nat)(tk:Option Nat)(g:Bool)(m M:Mem)(S1 S2:St)(y1 y2:St×Mem):Prop where
 env1:y1.1.env=S1.env
 env2:y2.1.env=S2.env
 L:∀id,(id∈rs/\y1.1.L id=y2.1.L id)\/(y1.1.L id=S1.L id/\y2.1.L id=S2.L id)
 tok:∀k,(tk=some k/\y1.1.tok k=y2.1.tok k)\/(y1.1.tok k=S1.tok k/\y2.1.tok k=S2.tok k)
 le:y1.2.le y2.2
 same:g=false->y1.2=m/\y2.2=M
 gh2:(y2.1.gh,y2.1.fo)=(S2.gh,S2.fo)
structure Out (rs:List Nat)(tk:Option Nat)(g:Bool)(m M:Mem)(dst:Option Tmp)(S1 S2:St)(y1 y2:St×Mem):Prop where
 env1:∀t sv,dst=some t->y1.1.env t=some sv->y2.1.env t=some sv
 env2:∀t,dst≠some t->y2.1.env t=S2.env t
 L:∀id,(id∈rs/\y1.1.L id=y2.1.L id)\/(y1.1.L id=S1.L id/\y2.1.L id=S2.L id)
 tok:∀k,(tk=some k/\y1.1.tok k=y2.1.tok k)\/(y1.1.tok k=S1.tok k/\y2.1.tok k=S2.tok k)
 le:y1.2.le y2.2
 same:g=false->y1.2=m/\y2.2=M
 gh2:(y2.1.gh,y2.1.fo)=(S2.gh,S2.fo)
section
variable {rs:List Nat} {tk:Option Nat} {g:Bool} {m M:Mem} {S1 S2:St}
theorem ZtH(S:St)(d:Option Tmp)(x:Option SV):(S.put d x).L=S.L:=by cases d <;> rfl
theorem Zv0(S:St)(d:Option Tmp)(x:Option SV):(S.put d x).tok=S.tok:=by cases d <;> rfl
theorem OutB.put{y1 y2:St×Mem}(h:OutB rs tk g m M S1 S2 y1 y2)(dst:Option Tmp){x1 x2:Option SV}(hx:∀sv,x1=some sv->x2=some sv):Out rs tk g m M dst S1 S2 (y1.1.put dst x1,y1.2) (y2.1.put dst x2,y2.2):=by
 refine⟨?_,?_,by simpa[ZtH]using h.L,by simpa[Zv0]using h.tok,h.le,h.same,by have:=h.gh2;cases dst <;> exact this⟩
 ·intro t sv ht ux
  subst ht
  simp[St.put]at *
  exact hx _ ux
 ·intro t ht
  cases dst with
  | none=>simp[St.put,h.env2]
  | some d=>simp[St.put,Zar (λe=>ht (by rw[e]):t≠d),h.env2]
theorem OutB.refl(hm:m.le M):OutB rs tk g m M S1 S2 (S1,m) (S2,M):=⟨rfl,rfl,λ_=>.inr ⟨rfl,rfl⟩,λ_=>.inr ⟨rfl,rfl⟩,hm,λ_=>⟨rfl,rfl⟩,rfl⟩
theorem Out.put0(hm:m.le M)(dst:Option Tmp){x1 x2:Option SV}(hx:∀sv,x1=some sv->x2=some sv):Out rs tk g m M dst S1 S2 (S1.put dst x1,m) (S2.put dst x2,M):=
 (OutB.refl (rs:=rs) (tk:=tk) (g:=g) (S1:=S1) (S2:=S2) hm).put dst hx
theorem OutB.setL(hm:m.le M){id:Nat}(dH:id∈rs)(x:Option Box):OutB rs tk g m M S1 S2 (S1.setL id x,m) (S2.setL id x,M):=by
 refine⟨rfl,rfl,λi=>?_,λ_=>.inr ⟨rfl,rfl⟩,hm,λ_=>⟨rfl,rfl⟩,rfl⟩
 by_cases hi:i=id
 ·subst hi;exact .inl ⟨dH,by simp[St.setL]⟩
 ·exact .inr (by simp[St.setL,Zar hi])
theorem OutB.newL{m' M':Mem}(hm:m'.le M')(hg:g=false->m'=m/\M'=M){id:Nat}(dH:id∈rs)(x:Box):OutB rs tk g m M S1 S2 (S1.newL id x,m') (S2.newL id x,M'):=by
 refine⟨rfl,rfl,λi=>?_,λ_=>.inr ⟨rfl,rfl⟩,hm,hg,rfl⟩
 by_cases hi:i=id
 ·subst hi;exact .inl ⟨dH,by simp[St.newL]⟩
 ·exact .inr (by simp[St.newL,Zar hi])
end
mutual
theorem Shape.all_intro:∀(s:Shape){k:Value->Prop},(∀v,k v)->s.all k
 | .any,k,h=>by simpa only[Shape.all]using h
 | .int ki,k,h=>by simp only[Shape.all];exact λn=>h _
 | .bool,k,h=>by simp only[Shape.all];exact λn=>h _
 | .str,k,h=>by simp only[Shape.all];exact λn=>h _
 | .slice,k,h=>by simp only[Shape.all];exact λ_ _ _=>h _
 | .agg l,k,h=>by simp only[Shape.all];exact Shape.allL_intro l (λvs=>h _)
 | .tup l,k,h=>by simp only[Shape.all];exact Shape.allL_intro l (λvs=>h _)
 | .fn,k,h=>by simp only[Shape.all];exact λ_ _ _=>h _
 | .cells,k,h=>by simp only[Shape.all];exact λ_=>h _
 | .ptr,k,h=>by simp only[Shape.all];exact λ_ _=>h _
theorem Shape.allL_intro:∀(l:List Shape){k:List Value->Prop},(∀v,k v)->Shape.allL l k
 | [],k,h=>by simp only[Shape.allL];exact h _
 | s::l,k,h=>by simp only[Shape.allL];exact Shape.all_intro s (λv=>Shape.allL_intro l (λvs=>h _))
end
theorem allL_intro:∀{n:Nat} {k:List (List Value)->Prop},(∀l,l.length=n->k l)->allL n k
 | 0,k,h=>h [] rfl
 | n+1,k,h=>λcs=>allL_intro (λl hl=>h (cs::l) (by simp[hl]))
def Env.fixed(E:Env)(f:List Value->Mem->Value->Mem->List (List Value)->Prop):Env:={ E with fix:=some f }
section
variable {rs:List Nat} {tk:Option Nat} {g:Bool} {S1 S2:St} {m M:Mem}
theorem Zsb{E:Env}{f:List Value->Mem->Value->Mem->List (List Value)->Prop}(hs:Less S1 S2)(gi:∀id x,S1.L id=some x->id∈rs)(hm:m.le M){T:TypeId}{x:Operand}{v:Value}:
  LC (λK:St×Mem->Prop=>Zf9 (E.fixed f) S1 T x v λS'=>K (S',m)) (λK:St×Mem->Prop=>Zf9 E S2 T x v λS'=>K (S',M)) (OutB rs tk g m M S1 S2):=by
 unfold Zf9
 show LC (λK=>match E.tt T with
  | none=>False
  | some i=>_) _ _
 cases E.tt T with
 | none=>exact LC.false
 | some i=>
  simp only
  cases he:S1.ev x with
  | none=>exact LC.false
  | some sv=>
   simp only[hs.ev he]
   cases sv with
   | loc id off=>
    simp only
    cases hx:S1.L id with
    | none=>exact LC.false
    | some bx=>
     simp only[hs.L id bx hx]
     refine LC.chk λ_=>?_
     cases(bx.full&&(Nat.beq bx.cap i.size&&Nat.beq off 0)) <;> simp only[cond_true,cond_false]
     ·exact LC.chk λ_=>LC.ret (OutB.setL hm (gi id bx hx) _)
     ·exact LC.ret (OutB.setL hm (gi id bx hx) _)
   | v u=>
    simp only
    show LC (λK=>match ZeA E x with
     | none=>False
     | some id=>_) _ _
    cases ZeA E x with
    | none=>exact LC.false
    | some id=>
     simp only
     cases hx:S1.L id with
     | none=>exact LC.false
     | some bx=>
      simp only[hs.L id bx hx]
      refine LC.chk λ_=>?_
      rintro⟨h1,h2,_⟩
      exact⟨h1,h2,_,λK hK=>hK.2.2,OutB.setL hm (gi id bx hx) _⟩
   | sl id n c=>exact LC.false
theorem Zuq{E:Env}{f:List Value->Mem->Value->Mem->List (List Value)->Prop}(hs:Less S1 S2)(gi:∀id x,S1.L id=some x->id∈rs)(hm:m.le M){T:TypeId}{id:Nat}{vd vs:Value}:
  LC (λK:Int×(St×Mem)->Prop=>Zpu (E.fixed f) S1 m T id vd vs λn S'=>K (n,(S',m))) (λK:Int×(St×Mem)->Prop=>Zpu E S2 M T id vd vs λn S'=>K (n,(S',M))) (λy1 y2=>y1.1=y2.1/\OutB rs tk g m M S1 S2 y1.2 y2.2/\y1.2.2=m/\y2.2.2=M):=by
 unfold Zpu
 show LC (λK=>match Zay E T with
  | none=>False
  | some (e,j)=>_) _ _
 cases Zay E T with
 | none=>exact LC.false
 | some ej=>
  obtain⟨e,j⟩:=ej
  simp only
  cases hx:S1.L id with
  | none=>exact LC.false
  | some bx=>
   simp only[hs.L id bx hx]
   refine LC.chk λ_=>?_
   intro h uy
   have hf:m.free bx.b:=λo=>by
    cases he:m bx.b o with
    | none=>rfl
    | some u=>have:=hm _ _ _ he;rw[uy o]at this;cases this
   obtain⟨o,xs,h1,h2,h3,h4,h5,_⟩:=h hf
   refine⟨o,xs,h1,h2,h3,h4,h5.imp_left (λh=>h.mono hm),(_,(S1.setL id (some { bx with cs:=ZaG bx.cs o xs }),m)),λK hK=>?_,rfl,OutB.setL hm (gi id bx hx) _,rfl,rfl⟩
   obtain⟨o',xs',g1,g2,g3,g4,g5,g6⟩:=hK hf
   rw[h1]at g1
   obtain rfl:o=o':=by simpa using g1
   have hl:xs.length=xs'.length:=by rw[h2,g2]
   have fE:∀{as:Option Addr} {ys:List Value} {p:Nat},rowRd m as ys->as=some ⟨bx.b,p,none⟩->ys=[]:=λ{as ys p} hy ha=>by
    rcases hy with hy|⟨b1,o1,iP,hy⟩
    ·exact hy
    ·rw[ha]at iP
     simp only[Option.some.injEq,Addr.mk.injEq,and_true]at iP
     obtain⟨rfl,rfl⟩:=iP
     cases mq:ys with
     | nil=>rfl
     | cons u l=>subst mq;have:=hy 0 u rfl;rw[hf]at this;cases this
   have rz:xs=xs':=by
    rcases h5 with h5|⟨p,hp,h5⟩
    ·rcases g5 with g5|⟨p',hp',g5⟩
     ·exact ZeG h5 g5 hl
     ·have:=fE h5 hp';subst this
      exact(List.eq_nil_of_length_eq_zero hl.symm).symm
    ·rcases g5 with g5|⟨p',hp',g5⟩
     ·have:=fE g5 hp;subst this
      exact List.eq_nil_of_length_eq_zero hl
     ·rw[hp]at hp'
      obtain rfl:p=p':=by simpa using hp'
      apply List.ext_getElem?
      intro i
      by_cases hi:i < xs.length
      ·have e1:=h5 i _ (List.getElem?_eq_getElem hi)
       have e2:=g5 i _ (List.getElem?_eq_getElem (by omega))
       rw[e1]at e2
       rw[List.getElem?_eq_getElem hi,List.getElem?_eq_getElem (by omega)]
       exact e2
      ·rw[List.getElem?_eq_none (by omega),List.getElem?_eq_none (by omega)]
   subst rz
   exact g6
theorem ZgS(hs:Less S1 S2):∀{ids:List Nat} {bxs:List Box},ZbP S1 ids=some bxs->ZbP S2 ids=some bxs
 | [],bxs,h=>h
 | id::l,bxs,h=>by
  simp only[ZbP]at *
  cases hx:S1.L id with
  | none=>simp[hx]at h
  | some x=>
   simp only[hx]at h
   simp only[hs.L id x hx]
   cases hb:ZbP S1 l with
   | none=>simp[hb]at h
   | some xs=>simp only[hb]at h;simp only[ZgS hs hb];exact h
theorem Zur{E:Env}(hE:E.fix=none){f:List Value->Mem->Value->Mem->List (List Value)->Prop}(hs:Less S1 S2)(gi:∀id x,S1.L id=some x->id∈rs)(hm:m.le M){rt:TypeId}{gg:FuncId}{args:List Value}{ids:List Nat}{γ:Value->St->Option SV}:
  LC (λK:Value×(St×Mem)->Prop=>Znf (E.fixed f) S1 m rt gg args ids λv S' m'=>K (v,(S',m'))) (λK:Value×(St×Mem)->Prop=>Znf E S2 M rt gg args ids λv S' m'=>K (v,(S',m'))) (λy1 y2=>y1.1=y2.1/\OutB rs tk true m M S1 S2 y1.2 y2.2):=by
 intro h
 unfold Znf at *
 cases hb:ZbP S1 ids with
 | none=>simp[hb]at h
 | some bxs=>
  simp only[hb]at h
  simp only[ZgS hs hb]
  obtain⟨h1,R,h0,hU,eX,_⟩:=Zah h
  have h0':R=f args m:=h0
  obtain⟨bT,cP⟩:=Zcc hb
  simp only[Bool.and_eq_true]at h1
  have eJ:=ZaB h1.2
  refine Zaa (by simp[h1.1,h1.2]) ⟨λv M' css=>∃m',m.le m'/\m'.le M'/\R v m' css,by rw[hE];trivial,hU.frame hm,λv m' css ⟨_,_,_,hR⟩=>eX _ _ _ hR,?_⟩
  refine Shape.all_intro _ λv M' hM'=>allL_intro λcss fO ⟨m',g1,g2,hR⟩=>⟨(v,(ZdG S1 ids bxs css,m')),λK hK=>?_,rfl,?_⟩
  ·obtain⟨_,R',h0'',_,_,cQ⟩:=Zah hK
   have h0''':R'=f args m:=h0''
   have rA:R'=R:=by rw[h0''',h0']
   subst rA
   exact ZgC (Shape.all_fits _ _ cQ v (eX _ _ _ hR) m' g1) css fO hR
  ·refine⟨by rw[Zdn],by rw[Zdn],λid=>?_,λk=>.inr ⟨by rw[Zdn],by rw[Zdn]⟩,g2,λh=>(by cases h),by rw[Zdn]⟩
   rcases Zec (S:=S1) eJ bT fO id with⟨a1,a2⟩|⟨i,x,cs,a1,a2,a3,a4⟩
   ·rcases Zec (S:=S2) eJ bT fO id with⟨b1,b2⟩|⟨i',x',cs',b1,b2,b3,b4⟩
    ·exact .inr ⟨a2,b2⟩
    ·exact absurd (List.mem_of_getElem? b1) a1
   ·rcases Zec (S:=S2) eJ bT fO id with⟨b1,b2⟩|⟨i',x',cs',b1,b2,b3,b4⟩
    ·exact absurd (List.mem_of_getElem? a1) b1
    ·obtain⟨id',c1,c2⟩:=cP i x a2
     rw[a1]at c1;cases c1
     have hi:=(List.getElem?_eq_some_iff.1 a1).1
     have:i=i':=(List.getElem?_inj hi eJ).1 (by rw[a1,b1])
     subst this
     rw[a2]at b2;rw[a3]at b3;cases b2;cases b3
     exact .inl ⟨gi _ _ c2,by rw[a4,b4]⟩
theorem Zsc{E:Env}(hE:E.fix=none){f:List Value->Mem->Value->Mem->List (List Value)->Prop}{rt:TypeId}{gg:FuncId}{args:List Value}{key esz:Nat}(fA:tk=some key)(hm:m.le M):
  LC (λK:Value×(St×Mem)->Prop=>ZjD (E.fixed f) S1 m rt gg args key esz λv S' m'=>K (v,(S',m'))) (λK:Value×(St×Mem)->Prop=>ZjD E S2 M rt gg args key esz λv S' m'=>K (v,(S',m'))) (λy1 y2=>y1.1=y2.1/\OutB rs tk true m M S1 S2 y1.2 y2.2):=by
 rintro⟨R,h0,hU,eX,_⟩
 have h0':R=f args m:=h0
 refine⟨λv M' _=>∃m',m.le m'/\m'.le M'/\R v m' [],?_⟩
 rw[hE]
 refine⟨hU.frame hm,λv m' css ⟨_,_,_,hR⟩=>eX _ _ _ hR,?_⟩
 refine Shape.all_intro _ λv M' hM' ⟨m',g1,g2,hR⟩=>⟨(v,({ S1 with tok:=λk=>bif Nat.beq k key then some ⟨v,esz⟩ else S1.tok k,tkeys:=key::S1.tkeys },m')),λK hK=>?_,rfl,?_⟩
 ·obtain⟨R',h0'',_,_,cQ⟩:=hK
  have h0''':R'=f args m:=h0''
  have rA:R'=R:=by rw[h0''',h0']
  subst rA
  exact Shape.all_fits _ _ cQ v (eX _ _ _ hR) m' g1 hR
 ·refine⟨rfl,rfl,λid=>.inr ⟨rfl,rfl⟩,λk=>?_,g2,λh=>(by cases h),rfl⟩
  by_cases hk:k=key
  ·subst hk;exact .inl ⟨fA,by simp⟩
  ·exact .inr (by simp[Zar hk])
theorem ZpX{E:Env}{f:List Value->Mem->Value->Mem->List (List Value)->Prop}(hm:m.le M){T xT:TypeId}{key:Nat}{vs vx:Value}(fA:tk=some key)(bX:∀k,tk=some k->S1.tok k=S2.tok k):
  LC (λK:Value×(St×Mem)->Prop=>ZeV (E.fixed f) S1 m T xT key vs vx λv t m'=>K (v,({ S1 with tok:=t,tkeys:=key::S1.tkeys },m'))) (λK:Value×(St×Mem)->Prop=>ZeV E S2 M T xT key vs vx λv t m'=>K (v,({ S2 with tok:=t,tkeys:=key::S2.tkeys },m'))) (λy1 y2=>y1.1=y2.1/\OutB rs tk true m M S1 S2 y1.2 y2.2):=by
 unfold ZeV
 show LC (λK=>match Zay E T with
  | none=>False
  | some (_,j)=>match Zay E xT with
   | none=>False
   | some (_,j')=>_) _ _
 cases Zay E T with
 | none=>exact LC.false
 | some ej=>
  cases Zay E xT with
  | none=>exact LC.false
  | some ej'=>
   simp only
   refine LC.chk λ_=>?_
   have lJ:LC (λK:Value×(St×Mem)->Prop=>Zw8 (E.fixed f) S1 m ej.2 key vs vx λv t m'=>K (v,({ S1 with tok:=t,tkeys:=key::S1.tkeys },m'))) (λK:Value×(St×Mem)->Prop=>Zw8 E S2 M ej.2 key vs vx λv t m'=>K (v,({ S2 with tok:=t,tkeys:=key::S2.tkeys },m'))) (λy1 y2=>y1.1=y2.1/\OutB rs tk true m M S1 S2 y1.2 y2.2):=?body
   case body=>
    unfold Zw8
    rintro⟨ht,xs,ys,a1,a2,a3,a4,a5,a6,a7,_⟩
    rw[bX key fA]at ht
    refine⟨ht,xs,ys,a1,a2,a3.mono hm,a4.mono hm,a5,a6,a7,λa' c' M' hM' hr=>?_⟩
    refine ZrS λoC dW=>⟨(.slice a' (slN vs+slN vx) c',({ S1 with tok:=(λk=>bif Nat.beq k key then some ⟨.slice a' (slN vs+slN vx) c',ej.2.size⟩ else S1.tok k),tkeys:=key::S1.tkeys },M')),λK hK=>?_,rfl,⟨rfl,rfl,λ_=>.inr ⟨rfl,rfl⟩,λk=>?_,Mem.le_refl _,λh=>(by cases h),rfl⟩⟩
    ·obtain⟨_,xs',ys',b1,b2,b3,b4,_,_,_,b8⟩:=hK
     rw[ZeG a3 b3 (by omega),ZeG a4 b4 (by omega)]at hr
     exact Zl9 (b8 a' c' M' (mLt hm hM') hr) (λht=>(oC ht).mono hm) dW
    ·by_cases hk:k=key
     ·subst hk;exact .inl ⟨fA,by simp⟩
     ·exact .inr (by simp[Zar hk])
   show LC (λK=>bif E.tails then br (Nat.beq (slN vx) 0) (chk (Nat.ble (slN vs) (slC vs)) _) _ else _) (λK=>bif E.tails then br (Nat.beq (slN vx) 0) (chk (Nat.ble (slN vs) (slC vs)) _) _ else _) _
   cases E.tails with
   | false=>exact lJ
   | true=>
    refine LC.br (LC.chk λ_=>LC.ret ⟨rfl,⟨rfl,rfl,λ_=>.inr ⟨rfl,rfl⟩,λk=>?_,hm,λh=>(by cases h),rfl⟩⟩) lJ
    by_cases hk:k=key
    ·subst hk;exact .inl ⟨fA,bX k fA⟩
    ·exact .inr ⟨rfl,rfl⟩
end
theorem Mem.add_le{m M:Mem}(h:m.le M)(b:Nat)(cs:List Value):(m.add b cs).le (M.add b cs):=⟨λb' o v hv=>by
 by_cases hb:b'=b
 ·subst hb;rw[Mem.add_same]at hv ⊢;exact hv
 ·rw[Mem.add_other _ hb]at hv ⊢;exact h _ _ _ hv,h.k⟩
theorem ZfQ{S1 S2:St}(hs:Less S1 S2):∀{l:List Operand} {k:List Value->Prop},wvs S1 l k->ZdN S1 l=ZdN S2 l
 | [],k,h=>rfl
 | x::l,k,h=>by
  obtain⟨v,hv,h⟩:=Zau h
  have ih:=ZfQ hs h
  unfold St.val at hv
  cases he:S1.ev x with
  | none=>simp[he]at hv
  | some sv=>
   simp only[ZdN,he,hs.ev he,ih]
   cases sv with
   | loc id off=>
    simp only[he,St.den]at hv
    cases hx:S1.L id with
    | none=>simp[hx]at hv
    | some x=>simp only[hx,hs.L id x hx]
   | _=>rfl
theorem MapFind.unique{P:Program}{T:TypeId}{k:Value}(w:World):∀{es:List (Value×Value)} {r r':Option Value},MapFind P T k es r->MapFind P T k es r'->r=r'
 | [],r,r',h,h'=>by
  simp only[MapFind]at h h'
  rw[h,h']
 | e::es,r,r',h,h'=>by
  simp only[MapFind]at h h'
  rcases h with⟨h1,h2⟩|⟨h1,h2⟩ <;> rcases h' with⟨h3,h4⟩|⟨h3,h4⟩
  ·rw[h2,h4]
  ·exact absurd (EqIs.unique w h1 h3) (by simp)
  ·exact absurd (EqIs.unique w h1 h3) (by simp)
  ·exact MapFind.unique w h2 h4
theorem LookIs.unique{P:Program}{T:TypeId}{k:Value}(w:World){es:List (Value×Value)}{z v v':Value}{o o':Bool}(h:LookIs P T k es z v o)(h':LookIs P T k es z v' o'):v=v'/\o=o':=by
 obtain⟨r,h1,h2,h3⟩:=h
 obtain⟨r',h4,h5,h6⟩:=h'
 cases MapFind.unique w h1 h4
 exact⟨h2.trans h5.symm,h3.trans h6.symm⟩
def Zv1(E:Env)(tk:Option Nat)(d:Option Tmp):Bool:=match ZcL E d with
 | none=>true
 | some ke=>(match tk with
  | some k=>Nat.beq ke.1 k
  | none=>false)
def ZtI(E:Env)(rs:List Nat)(tk:Option Nat)(o:Oper):Bool:=match o.op with
 | .alloc _=>(match o.dst with
  | some d=>rs.any (Nat.beq d ·)
  | none=>false)
 | .box _ _=>(match o.dst with
  | some d=>rs.any (Nat.beq d ·)
  | none=>false)
 | .buildSlice _ _ _=>(match o.dst with
  | some d=>rs.any (Nat.beq d ·)
  | none=>false)
 | .makeSlice _ _ _=>(match o.dst with
  | some d=>rs.any (Nat.beq d ·)
  | none=>false)
 | .call c=>(match c.callee with
  | .builtin .append=>(match o.dst,tk with
   | some d,some k=>Nat.beq (E.tokOf d) k
   | _,_=>false)
  | _=>(ZdI E o.dst).isNone&&Zv1 E tk o.dst)
 | .store _ x _=>(match ZnI E x with
  | none=>true
  | some _=>false)
 | .mapUpdate _ _ _ _=>false
 | _=>true
theorem Zlw{E:Env}{rs:List Nat}{tk:Option Nat}{o:Oper}(h:ZtI E rs tk o=true):ZnS E o:=by
 refine⟨λT x y e=>?_,λf as ats e=>?_,λT x y z e=>?_⟩
 ·unfold ZtI at h
  rw[e]at h
  cases hs:ZnI E x with
  | none=>rfl
  | some k=>simp[hs]at h
 ·unfold ZtI at h
  rw[e]at h
  have h:((ZdI E o.dst).isNone&&Zv1 E tk o.dst)=true:=h
  rw[Bool.and_eq_true]at h
  simpa using h.1
 ·unfold ZtI at h
  rw[e]at h
  cases h
def Zn1(rs:List Nat)(o:Oper):List Nat:=match o.op with
 | .alloc _=>dl o.dst
 | .box _ _=>dl o.dst
 | .buildSlice _ _ _=>dl o.dst
 | .makeSlice _ _ _=>dl o.dst
 | .store _ _ _=>rs
 | .call c=>(match c.callee with
  | .value _=>rs
  | .builtin .copy=>rs
  | _=>[])
 | _=>[]
def ZdK(o:Oper):Bool:=match o.op with
 | .buildSlice _ _ _=>true
 | .call c=>(match c.callee with
  | .value _=>true
  | .builtin .append=>true
  | _=>false)
 | _=>false
section
variable {rs:List Nat} {tk:Option Nat} {S1 S2:St} {m M:Mem}
theorem ZxJ{E:Env}(w:World)(hE:E.fix=none){f:List Value->Mem->Value->Mem->List (List Value)->Prop}(hs:Less S1 S2)(gi:∀id x,S1.L id=some x->id∈rs)(hL:∀id∈rs,S1.L id=S2.L id)
  (bX:∀k,tk=some k->S1.tok k=S2.tok k) (hm:m.le M) {o:Oper} (ja:ZtI E rs tk o=true):
  LC (λK:St×Mem->Prop=>opW (E.fixed f) S1 m o λS' m'=>K (S',m')) (λK:St×Mem->Prop=>opW E S2 M o λS' m'=>K (S',m')) (Out (Zn1 rs o) tk (ZdK o) m M o.dst S1 S2):=by
 have fZ:∀(rs:List Nat)(g:Bool)(o:Oper),LC (λK:St×Mem->Prop=>Zca (E.fixed f) S1 o λsv=>K (S1.put o.dst (some sv),m)) (λK:St×Mem->Prop=>Zca E S2 o λsv=>K (S2.put o.dst (some sv),M)) (Out rs tk g m M o.dst S1 S2):=λrs g o=>by
  refine LC.map (f:=λsv=>(S1.put o.dst (some sv),m)) (g:=λsv=>(S2.put o.dst (some sv),M)) (ρ:=Eq) (T1:=λK=>Zca (E.fixed f) S1 o K) (T2:=λK=>Zca E S2 o K) ?_ ?_ ?_
  ·exact(Zup w hs:LE (Zca E S1 o) (Zca E S2 o))
  ·rintro a b rfl
   exact Out.put0 hm _ (λsv h=>h)
  ·exact λh=>ZhS h
 obtain⟨dst,op,type,pos,after,guard⟩:=o
 have jb:∀(rs:List Nat)(g:Bool)(x:Operand),LC (λK:St×Mem->Prop=>K (S1.put dst (S1.ev x),m)) (λK:St×Mem->Prop=>K (S2.put dst (S2.ev x),M)) (Out rs tk g m M dst S1 S2):=λrs g x=>LC.ret (Out.put0 hm _ (λsv h=>hs.ev h))
 have dA:∀{g:Bool} {d:Nat} {x:Box} {sv:SV},Out [d] tk g m M (some d) S1 S2 ((S1.newL d x).put (some d) (some sv),m) ((S2.newL d x).put (some d) (some sv),M):=λ{g d x sv}=>(OutB.newL hm (λ_=>⟨rfl,rfl⟩) (by simp) x).put (some d) (λsv h=>h)
 cases op with
 | move x=>exact jb _ _ x
 | assign x=>exact jb _ _ x
 | pick c x y=>exact Zcy hs λv=>LC.chk λ_=>LC.br (jb _ _ x) (jb _ _ y)
 | load T x=>
  have hq:ZrO (E.fixed f) dst=ZrO E dst:=rfl
  simp only[opW,hq]
  cases nt:ZrO E dst with
  | some y=>
   refine LC.map (f:=λv=>(S1.put dst (some (.v v)),m)) (g:=λv=>(S2.put dst (some (.v v)),M)) (ρ:=Eq) (T1:=λK=>Zea (E.fixed f) S1 m T x λv=>ldW y v K) (T2:=λK=>Zea E S2 M T x λv=>ldW y v K) ?_ ?_ ?_
   ·intro h
    have h1:=(ZqW hs hm:LE (Zea E S1 m T x) (Zea E S2 M T x)) (Zdj (λ_ _=>trivial) h)
    refine Zdj (λv ⟨v1,g1,g2⟩=>?_) h1
    subst g2
    exact ZrP (g1 _ h) ⟨v1,λK hK=>ZqK (g1 _ hK),rfl⟩
   ·rintro a b rfl
    exact Out.put0 hm _ (λsv h=>h)
   ·exact λh=>Zdj λv=>ZqL h
  | none=>
  refine LC.map (f:=λv=>(S1.put dst (some (.v v)),m)) (g:=λv=>(S2.put dst (some (.v v)),M)) (ρ:=Eq) (T1:=λK=>Zea (E.fixed f) S1 m T x K) (T2:=λK=>Zea E S2 M T x K) ?_ ?_ ?_
  ·exact(ZqW hs hm:LE (Zea E S1 m T x) (Zea E S2 M T x))
  ·rintro a b rfl
   exact Out.put0 hm _ (λsv h=>h)
  ·exact λh=>Zdj h
 | store T x y=>
  refine Zcy hs λv=>?_
  show LC (λK=>match ZnI E x with
   | none=>_
   | some key=>bif (E.fixed f).fix.isSome then False else _) (λK=>match ZnI E x with
   | none=>_
   | some key=>_) _
  cases ZnI E x with
  | some key=>exact LC.false
  | none=>
  refine LC.map (f:=λy:St×Mem=>(y.1.put dst none,m)) (g:=λy:St×Mem=>(y.1.put dst none,M)) (ρ:=λy1 y2=>OutB rs tk false m M S1 S2 y1 y2/\y1.2=m/\y2.2=M) ?_ ?_ ?_ (T1:=λK=>Zf9 (E.fixed f) S1 T x v λS'=>K (S',m)) (T2:=λK=>Zf9 E S2 T x v λS'=>K (S',M))
  ·exact λh=>ZfJ (λS' _ ⟨y1,g1,g2⟩=>⟨(y1.1,m),λK hK=>g1 (λy=>K (y.1,m)) hK,⟨g2.env1,g2.env2,g2.L,g2.tok,hm,λ_=>⟨rfl,rfl⟩,g2.gh2⟩,rfl,rfl⟩) (Zsb (tk:=tk) (rs:=rs) (g:=false) hs gi hm h)
  ·rintro a b ⟨h1,h2,h3⟩
   have:=h1.put dst (x1:=none) (x2:=none) (λsv h=>h)
   rw[h2,h3]at this;exact this
  ·exact λh=>ZfJ (λS' _=>h _)
 | alloc T=>
  simp only[opW,ZrR,ZtI]at *
  cases dst with
  | none=>exact LC.false
  | some d=>
   simp only
   show LC (λK=>match E.tt T with
    | none=>False
    | some i=>_) _ _
   cases E.tt T with
   | none=>exact LC.false
   | some i=>
    simp only at ja ⊢
    rw[hL d (ZeY.1 ja)]
    cases hx:S2.L d with
    | some x=>exact LC.false
    | none=>exact λ_ b=>⟨_,λK hK=>hK b,dA⟩
 | box T x=>
  refine Zcy hs λv=>?_
  show LC (λK=>bif ZfB E dst then(bif (E.fixed f).fix.isSome then False else _)else _) (λK=>bif ZfB E dst then _ else _) _
  cases kO:ZfB E dst with
  | true=>exact LC.false
  | false=>
  simp only[cond_false]
  simp only[ZyN,ZtI]at *
  cases dst with
  | none=>exact LC.false
  | some d=>
   simp only
   show LC (λK=>match E.tt T with
    | none=>False
    | some i=>_) _ _
   cases E.tt T with
   | none=>exact LC.false
   | some i=>
    simp only at ja ⊢
    rw[hL d (ZeY.1 ja)]
    cases hx:S2.L d with
    | some x=>exact LC.false
    | none=>exact LC.chk λ_ _ b=>⟨_,λK hK=>hK b,dA⟩
 | buildSlice T len parts=>
  simp only[opW]
  have hq:ZcL (E.fixed f) dst=ZcL E dst:=rfl
  simp only[hq]
  cases iE:ZcL E dst with
  | some ke=>exact LC.false
  | none=>
  simp only[Zde,ZtI]at *
  cases dst with
  | none=>exact LC.false
  | some d=>
   simp only
   show LC (λK=>match E.tt T with
    | none=>False
    | some t=>match t.d with
     | .slice e=>match E.tt e with
      | none=>False
      | some i=>_
     | _=>False) _ _
   cases E.tt T with
   | none=>exact LC.false
   | some t=>
    simp only
    cases t.d <;> simp only <;> try exact LC.false
    rename_i e
    cases E.tt e with
    | none=>exact LC.false
    | some i=>
     simp only at ja ⊢
     rw[hL d (ZeY.1 ja)]
     cases hx:S2.L d with
     | some x=>exact LC.false
     | none=>
      refine LC.chk λ_=>Zmq hs λvs=>LC.chk λ_ _ b hb=>⟨_,λK hK=>hK b ?_,?_⟩
      ·intro o
       cases he:m b o with
       | none=>rfl
       | some v=>have:=hm _ _ _ he;rw[hb o]at this;cases this
      ·exact(OutB.newL (Mem.add_le hm b (ZbL vs)) (λh=>by cases h) (by simp[Zn1,dl]) _).put (some d) (λsv h=>h)
 | lookup T x y ok=>
  simp only[opW,Zvs]
  refine Zcy hs λvm=>Zcy hs λvk=>?_
  have hq:Zpv (E.fixed f) T=Zpv E T:=rfl
  rw[hq]
  cases Zpv E T with
  | none=>exact LC.false
  | some q=>
   obtain⟨k,ei⟩:=q
   rintro⟨b,es,v,r,rfl,h2,h3,h4,_⟩
   refine⟨b,es,v,r,rfl,hm.k b es h2,h3,h4,_,λK hK=>?_,Out.put0 hm dst (λsv h=>h)⟩
   obtain⟨b',es',v',r',e',h2',h3',h4',hK⟩:=hK
   cases e'
   rw[h2]at h2';cases h2'
   obtain⟨rfl,rfl⟩:=LookIs.unique w h4 h4'
   exact hK
 | mapUpdate T x y z=>exact LC.false
 | makeMap T r=>exact LC.false
 | makeSlice T l c=>
  have hq:ZcL (E.fixed f) dst=ZcL E dst:=rfl
  simp only[opW,hq]
  have nq:ZtC (E.fixed f) dst=ZtC E dst:=rfl
  cases iE:ZcL E dst with
  | some ke=>exact LC.false
  | none=>
  simp only[nq]
  cases gE:ZtC E dst with
  | true=>exact LC.false
  | false=>
  simp only[cond_false]
  simp only[Zvr,ZtI]at *
  cases dst with
  | none=>exact LC.false
  | some d=>
   simp only
   show LC (λK=>match Zay E T with
    | none=>False
    | some (e,j)=>_) _ _
   cases Zay E T with
   | none=>exact LC.false
   | some ej=>
    simp only at ja ⊢
    rw[hL d (ZeY.1 ja)]
    cases hx:S2.L d with
    | some x=>exact LC.false
    | none=>exact Zcy hs λv=>Zcy hs λv'=>LC.chk λ_ ⟨h1,_⟩=>⟨h1,λb=>⟨_,λK hK=>hK.2 b,dA⟩⟩
 | convert s d x=>
  simp only[opW]
  show LC (λK=>bif ZfH E s d then _ else _) _ _
  cases ZfH E s d with
  | false=>
   simp only[cond_false]
   show LC (λK=>bif ZcM E s d then _ else _) _ _
   cases ZcM E s d with
   | false=>
    simp only[cond_false]
    show LC (λK=>bif ZcN E s d then _ else _) _ _
    cases ZcN E s d with
    | false=>exact fZ _ _ ⟨dst,.convert s d x,type,pos,after,guard⟩
    | true=>
     simp only[cond_true]
     have e2:∀k,Zmc E S2 M x k=ZbQ S2 M x k:=λk=>by unfold Zmc;rw[hE];rfl
     have e1:∀k,Zmc (E.fixed f) S1 m x k=Zed S1 m x k:=λk=>rfl
     simp only[e1,e2]
     refine LC.map (f:=λv=>(S1.put dst (some (.v v)),m)) (g:=λv=>(S2.put dst (some (.v v)),M)) (ρ:=Eq) (T1:=λK=>Zed S1 m x K) (T2:=λK=>ZbQ S2 M x K) ?_ ?_ ?_
     ·exact ZpW hs hm
     ·rintro a b rfl
      exact Out.put0 hm _ (λsv h=>h)
     ·exact λh=>ZeX h
   | true=>exact LC.false
  | true=>
   simp only[cond_true]
   cases he:S1.ev x with
   | none=>exact LC.false
   | some sv=>
    simp only[hs.ev he]
    cases sv <;> first
     | exact LC.false
     | exact LC.ret (Out.put0 hm _ (λsv h=>h))
 | call c=>
  obtain⟨callee,args,argTypes⟩:=c
  cases callee with
  | value g=>
   simp only[opW,Zvo]
   show LC (λK=>match ZdH E dst with
    | []=>_
    | ids=>bif (E.fixed f).fix.isSome then False else _) (λK=>match ZdH E dst with
    | []=>_
    | ids=>_) _
   cases uz:ZdH E dst with
   | cons i l=>exact LC.false
   | nil=>
   simp only[Zvq]
   have iX:ZdI E dst=none:=(Zlw ja).2.1 _ _ _ rfl
   have rB:ZdI (E.fixed f) dst=none:=iX
   cases he:S1.ev g with
   | none=>exact LC.false
   | some sv=>
    simp only[hs.ev he]
    cases sv with
    | loc id off=>exact LC.false
    | sl id n c=>exact LC.false
    | v u=>
     cases u <;> try exact LC.false
     rename_i fv first captured
     cases fv <;> try exact LC.false
     rename_i gg
     have i7:Ztz (E.fixed f) dst=Ztz E dst:=rfl
     have uA:ZqM (E.fixed f) dst=ZqM E dst:=rfl
     simp only[uA]
     cases jx:ZqM E dst with
     | true=>exact LC.false
     | false=>
     simp only[cond_false]
     simp only[i7,iX,rB]
     cases nu:Ztz E dst with
     | true=>exact LC.false
     | false=>
     simp only[cond_false]
     have hq:ZcL (E.fixed f) dst=ZcL E dst:=rfl
     simp only[hq]
     cases iE:ZcL E dst with
     | some ke=>
      intro h
      have uB:Zc0 (E.fixed f) dst=Zc0 E dst:=rfl
      simp only[uB]at h ⊢
      have fA:tk=some ke.1:=by
       have oD:((ZdI E dst).isNone&&Zv1 E tk dst)=true:=ja
       rw[Bool.and_eq_true]at oD
       have h2:=oD.2
       unfold Zv1 at h2
       rw[iE]at h2
       cases tk with
       | none=>cases h2
       | some k=>rw[Nat.eq_of_beq_eq_true h2]
      cases rC:ZdN S1 args.toList++Zc0 E dst with
      | cons i l=>
       simp only[rC]at h
      | nil=>
       simp only[rC]at h
       have mK:=ZfQ hs h
       rw[<-mK,rC]
       revert h
       show LC (λK:St×Mem->Prop=>wvs S1 args.toList λvs=>ZjD (E.fixed f) S1 m type gg (first.toList++vs++captured.toList) ke.1 ke.2 λv S' m'=>K (S'.put dst (some (SV.v v)),m'))
        (λK:St×Mem->Prop=>wvs S2 args.toList λvs=>ZjD E S2 M type gg (first.toList++vs++captured.toList) ke.1 ke.2 λv S' m'=>K (S'.put dst (some (SV.v v)),m')) _
       refine Zmq hs λvs=>?_
       refine LC.map (f:=λy:Value×(St×Mem)=>(y.2.1.put dst (some (.v y.1)),y.2.2)) (g:=λy:Value×(St×Mem)=>(y.2.1.put dst (some (.v y.1)),y.2.2)) (Zsc (rs:=rs) (tk:=tk) hE (f:=f) fA hm) ?_ ?_
       ·rintro⟨v1,y1⟩ ⟨v2,y2⟩ ⟨rfl,h2⟩
        exact h2.put dst (λsv h=>h)
       ·exact λh=>Zjd (λv S' m' _ _=>h _)
     | none=>
     intro h
     have mK:=ZfQ hs h
     revert h
     rw[<-mK]
     show LC (λK:St×Mem->Prop=>wvs S1 args.toList λvs=>Znf (E.fixed f) S1 m type gg (first.toList++vs++captured.toList) (ZdN S1 args.toList++Zc0 E dst) λv S' m'=>K (S'.put dst (some (SV.v v)),m'))
      (λK:St×Mem->Prop=>wvs S2 args.toList λvs=>Znf E S2 M type gg (first.toList++vs++captured.toList) (ZdN S1 args.toList++Zc0 E dst) λv S' m'=>K (S'.put dst (some (SV.v v)),m')) _
     refine Zmq hs λvs=>?_
     refine LC.map (f:=λy:Value×(St×Mem)=>(y.2.1.put dst (some (.v y.1)),y.2.2)) (g:=λy:Value×(St×Mem)=>(y.2.1.put dst (some (.v y.1)),y.2.2)) (Zur (rs:=rs) (tk:=tk) (γ:=λ_ _=>none) hE (f:=f) hs gi hm) ?_ ?_
     ·rintro⟨v1,y1⟩ ⟨v2,y2⟩ ⟨rfl,h2⟩
      exact h2.put dst (λsv h=>h)
     ·exact λh=>Zlq (λv S' m' _ _=>h _)
  | invoke r mm=>
   simp only[opW]
   exact fZ _ _ ⟨dst,_,type,pos,after,guard⟩
  | builtin b=>
   cases b with
   | append=>
    simp only[opW,ZtI]at *
    split
    ·rename_i s x T xT d _ _
     cases fA:tk with
     | none=>simp[fA]at ja
     | some key=>
      simp only[fA]at ja
      obtain rfl:=Nat.eq_of_beq_eq_true ja
      simp only[Zvo]
      show LC (λK=>match ZdH E (some d)with
       | []=>_
       | ids=>bif (E.fixed f).fix.isSome then False else _) (λK=>match ZdH E (some d)with
       | []=>_
       | ids=>_) _
      cases uz:ZdH E (some d)with
      | cons i l=>exact LC.false
      | nil=>
      refine Zcy hs λv=>Zcy hs λv'=>?_
      have z:=ZpX (E:=E) (rs:=[]) (tk:=some (E.tokOf d)) (key:=E.tokOf d) (S1:=S1) (S2:=S2) (f:=f) (T:=T) (xT:=xT) (vs:=v) (vx:=v') hm rfl (λk hk=>bX k (fA.trans hk))
      refine LC.map z (f:=λy:Value×(St×Mem)=>(y.2.1.put (some d) (some (.v y.1)),y.2.2)) (g:=λy:Value×(St×Mem)=>(y.2.1.put (some d) (some (.v y.1)),y.2.2)) ?_ ?_
      ·rintro⟨v1,y1⟩ ⟨v2,y2⟩ ⟨rfl,h2⟩
       exact h2.put (some d) (λsv h=>h)
      ·exact λh=>ZeC (λv t m' _=>h _)
    ·exact LC.false
   | copy=>
    simp only[opW,ZtI]at *
    split
    ·rename_i d s T xT _ _
     have hq:ZeA (E.fixed f) d=ZeA E d:=rfl
     simp only[hq]
     cases ZeA E d with
     | none=>exact LC.false
     | some id=>
      refine Zcy hs λv=>Zcy hs λv'=>?_
      have z:=Zuq (E:=E) (rs:=rs) (tk:=tk) (g:=false) (S1:=S1) (S2:=S2) (f:=f) (T:=T) (id:=id) (vd:=v) (vs:=v') hs gi hm
      refine LC.map z (f:=λy:Int×(St×Mem)=>(y.2.1.put dst (some (.v (.int .i64 y.1))),m)) (g:=λy:Int×(St×Mem)=>(y.2.1.put dst (some (.v (.int .i64 y.1))),M)) ?_ ?_
      ·rintro⟨n1,y1⟩ ⟨n2,y2⟩ ⟨rfl,h2,h3,h4⟩
       have:=h2.put dst (x1:=some (.v (.int .i64 n1))) (x2:=some (.v (.int .i64 n1))) (λsv h=>h)
       rw[h3,h4]at this;exact this
      ·exact λh=>Zlp (λn S' _=>h _)
    ·exact LC.false
   | _=>
    simp only[opW]
    exact fZ _ _ ⟨dst,_,type,pos,after,guard⟩
 | _=>
  simp only[opW]
  exact fZ _ _ ⟨dst,_,type,pos,after,guard⟩
theorem ZxK{E:Env}(w:World)(hE:E.fix=none){f:List Value->Mem->Value->Mem->List (List Value)->Prop}(hs:Less S1 S2)(gi:∀id x,S1.L id=some x->id∈rs)(hL:∀id∈rs,S1.L id=S2.L id)
  (bX:∀k,tk=some k->S1.tok k=S2.tok k) (hm:m.le M) {ops:Array Oper} {o:Oper} (ja:ZtI E rs tk o=true):
  LC (λK:St×Mem->Prop=>opG (E.fixed f) ops o S1 m λS' m'=>K (S',m')) (λK:St×Mem->Prop=>opG E ops o S2 M λS' m'=>K (S',m')) (Out (Zn1 rs o) tk (ZdK o) m M o.dst S1 S2):=by
 have h1:=ZxJ w hE (f:=f) hs gi hL bX hm ja
 have h0:LC (λK:St×Mem->Prop=>K (S1.put o.dst (some (.v undef)),m)) (λK:St×Mem->Prop=>K (S2.put o.dst (some (.v undef)),M)) (Out (Zn1 rs o) tk (ZdK o) m M o.dst S1 S2):=LC.ret (Out.put0 hm _ (λsv h=>h))
 unfold opG
 cases hg:o.guard with
 | none=>exact h1
 | some jw=>
  obtain⟨j,want⟩:=jw
  simp only
  cases ops.toList[j]? with
  | none=>exact LC.false
  | some oj=>
   simp only
   cases oj.dst with
   | none=>exact LC.false
   | some t=>
    simp only
    cases he:S1.env t with
    | none=>exact LC.false
    | some sv=>
     simp only[hs.env t sv he]
     cases sv with
     | loc id off=>exact LC.false
     | sl id n c=>exact LC.false
     | v u=>
      simp only
      cases ZdJ u with
      | true=>exact h0
      | false=>
       refine LC.chk λ_=>?_
       cases want
       ·exact LC.br h0 h1
       ·exact LC.br h1 h0
end
def mem(l:List Nat)(i:Nat):Bool:=l.any (Nat.beq i ·)
theorem ZaQ{l:List Nat}{i:Nat}:mem l i=true↔i∈l:=ZeY
def Zsd(t:Option Nat)(k:Nat):Bool:=match t with
 | some q=>Nat.beq k q
 | none=>false
theorem Zco{t:Option Nat}{k:Nat}:Zsd t k=true↔t=some k:=by
 cases t with
 | none=>simp[Zsd]
 | some q=>
  simp only[Zsd,Option.some.injEq]
  exact⟨λh=>(Nat.eq_of_beq_eq_true h).symm,λh=>by subst h;exact Nat.beq_refl _⟩
def Zfb(o:Oper)(t:Nat):Bool:=Zsd o.dst t
def ZpY(ops:Array Oper)(d:DOp)(o:Oper)(S:St):St:=
 {env:=λt=>bif mem (o.looksAt ops) t then S.env t else none
  L:=λid=>bif mem d.rs id then S.L id else none
  ids:=S.ids
  tok:=λk=>bif Zsd d.tk k then S.tok k else none
  tkeys:=S.tkeys
  gh:=S.gh
  fo:=S.fo }
def Zn2(d:DOp)(o:Oper)(S S':St):St:=
 {env:=λt=>bif Zfb o t then S'.env t else S.env t
  L:=λid=>bif mem d.ws id then S'.L id else S.L id
  ids:=S.ids
  tok:=λk=>bif Zsd d.tk k then S'.tok k else S.tok k
  tkeys:=S.tkeys
  gh:=S.gh
  fo:=S.fo }
def upd(μ:Nat->Mem)(i:Nat)(m:Mem):Nat->Mem:=λj=>bif Nat.beq j i then m else μ j
def Zpw(μ:Nat->Mem)(M:Mem):List Nat->Prop->Prop
 | [],p=>p
 | j::l,p=>(μ j).le M->Zpw μ M l p
def ZqX(μ:Nat->Mem)(m0:Mem):List Nat->(Mem->Prop)->Prop
 | [],k=>k m0
 | [j],k=>k (μ j)
 | l,k=>∀V:Mem,m0.le V->Zpw μ V l (k V)
abbrev Fx:=Nat->List Value->Mem->Value->Mem->List (List Value)->Prop
def Ztv(E:Env)(ops:Array Oper)(m0:Mem)(f:Fx)(d:DOp)(S:St)(μ:Nat->Mem)(K:St->Mem->Prop):Prop:=match ops.toList[d.i]? with
 | none=>False
 | some o=>ZqX μ m0 d.vw λV=>opG (E.fixed (f d.i)) ops o (ZpY ops d o S) V K
def ZpZ(ops:Array Oper)(d:DOp)(S S':St):St:=match ops.toList[d.i]? with
 | none=>S
 | some o=>Zn2 d o S S'
def ZjV(E:Env)(ops:Array Oper)(m0:Mem)(f:Fx)(d:DOp)(S:St)(μ:Nat->Mem)(K:St->(Nat->Mem)->Prop):Prop:=
 Ztv E ops m0 f d S μ λS' m'=>K (ZpZ ops d S S') (upd μ d.i m')
def Zh8(E:Env)(ops:Array Oper)(m0:Mem)(f:Fx):List DOp->(St->(Nat->Mem)->Prop)->St->(Nat->Mem)->Prop
 | [],K,S,μ=>K S μ
 | d::r,K,S,μ=>ZjV E ops m0 f d S μ (Zh8 E ops m0 f r K)
def Zxp(ops:Array Oper)(d:DOp):Option Nat:=match ops.toList[d.i]? with
 | none=>none
 | some o=>Zee ops o
def Zh9(E:Env)(ops:Array Oper)(m0:Mem)(f:Fx):List DOp->(St->(Nat->Mem)->Prop)->St->(Nat->Mem)->Prop
 | [],K,S,μ=>K S μ
 | d::r,K,S,μ=>match Zxp ops d with
  | none=>ZjV E ops m0 f d S μ (Zh9 E ops m0 f r K)
  | some t=>match S.env t with
   | some (.v v)=>bif ZdJ v then ZjV E ops m0 f d S μ (Zh9 E ops m0 f r K)else chk (Zgz v) (br (ZcW v) (ZjV E ops m0 f d (S.put (some t) (some (.v (.bool true)))) μ (Zh9 E ops m0 f r K)) (ZjV E ops m0 f d (S.put (some t) (some (.v (.bool false)))) μ (Zh9 E ops m0 f r K)))
   | _=>False
def Zxq(m0:Mem)(μ:Nat->Mem):List Nat->(Mem->Prop)->Prop
 | [],k=>k m0
 | l,k=>∀M:Mem,m0.le M->Zpw μ M l (k M)
def Zia(ops:Array Oper):List DOp->List Nat
 | []=>[]
 | d::r=>match ops.toList[d.i]? with
  | none=>Zia ops r
  | some o=>bif ZdK o then d.i::Zia ops r else Zia ops r
def Zv2:List DOp->List Nat
 | []=>[]
 | d::r=>d.ws++Zv2 r
def Zvw:List DOp->List Nat
 | []=>[]
 | d::r=>match d.tk with
  | none=>Zvw r
  | some k=>k::Zvw r
def ZjW(ds:List DOp)(S:St):St:={ S with ids:=Zv2 ds++S.ids,tkeys:=Zvw ds++S.tkeys }
def ZyT(a b:List Nat):Bool:=a.all λi=>!mem b i
def ZyG(a b:List Nat):Bool:=a.all λi=>mem b i
def Zn3(o:Oper)(l:List Nat):Bool:=match o.dst with
 | none=>true
 | some t=>!mem l t
def Zxr(a b:Oper):Bool:=match a.dst with
 | none=>true
 | some t=>!Zfb b t
def Zzg(a b:Option Nat):Bool:=match a with
 | none=>true
 | some k=>!Zsd b k
def ZqY(ops:Array Oper)(c d:DOp):Bool:=match ops.toList[c.i]?,ops.toList[d.i]? with
 | some oc,some od=>(Zn3 oc (od.looksAt ops)&&Zn3 od (oc.looksAt ops)&&Zxr oc od)&&(ZyT c.ws d.rs&&ZyT d.ws c.rs&&Zzg c.tk d.tk)&&(!mem d.vw c.i&&!mem c.vw d.i&&!Nat.beq c.i d.i)
 | _,_=>false
def Zb3(o:Oper):List Nat:=(o.after.toList.filter (Region.binds .any ·)).map (·.on)
def Zyb:List DOp->Nat->List Nat
 | [],_=>[]
 | d::r,i=>bif Nat.beq d.i i then d.an else Zyb r i
def Zxs(E:Env)(ops:Array Oper)(d:DOp)(before:List DOp):Bool:=match ops.toList[d.i]? with
 | none=>false
 | some o=>(ZtI E d.rs d.tk o&&ZyG (Zn1 d.rs o) d.ws&&ZyG d.ws d.rs)&&(ZyG d.vw d.an&&ZyG (Zb3 o) (before.map (·.i))) &&
   (d.an.all λj=>mem (Zb3 o) j||(Zb3 o).any λp=>mem (Zyb before p) j)&&(before.all λc=>mem d.an c.i||ZqY ops c d)&&(before.all λc=>!Nat.beq c.i d.i)
def Zig(E:Env)(ops:Array Oper):List DOp->List DOp->Bool
 | [],_=>true
 | d::r,before=>Zxs E ops d before&&Zig E ops r (d::before)
def Zv3(E:Env)(ops:Array Oper)(ds:List DOp)(n:Nat):Bool:=(List.range n).all (λi=>ds.any λd=>Nat.beq d.i i)&&Nat.ble ds.length ops.size&&Zig E ops ds []&&E.fix.isNone
def ZtJ:List Oper->Bool
 | []=>false
 | o::l=>(match o.op with
  | .call c=>(match c.callee with
   | .value _=>true
   | _=>false)
  | _=>false)||ZtJ l
def ZzC:Fx:=λ_ _ _ _ _ _=>True
def exF(b:Bool)(p:Fx->Prop):Prop:=match b with
 | true=>∃f,p f
 | false=>p ZzC
theorem Zus{b:Bool}{p:Fx->Prop}(h:exF b p):∃f,p f:=by
 cases b
 ·exact⟨_,h⟩
 ·exact h
theorem Zut{b:Bool}{p q:Fx->Prop}(h:∀f,p f->q f)(x:exF b p):exF b q:=by
 cases b
 ·exact h _ x
 ·obtain⟨f,x⟩:=x;exact⟨f,h f x⟩
def Zv4(ops:Array Oper)(ds:List DOp)(k:Nat):Bool:=(Nat.ble k ops.size&&(List.range k).all λj=>match ops.toList[ops.size - k+j]? with
 | none=>false
 | some o=>(List.range j).all (λi=>mem (Zb3 o) (ops.size - k+i))&&((Zb3 o).all (λi=>Nat.ble (i+1) (ops.size - k+j))&&(bif Nat.beq j 0 then(List.range (ops.size - k)).all (λi=>mem (Zb3 o) i||(Zb3 o).any λp=>mem (Zyb ds p) i)else true)))&&ds.all λd=>Nat.ble (d.i+1) (ops.size - k)
def Zib(E:Env)(ops:Array Oper)(K:St->Mem->Prop):List Oper->St->Mem->Prop
 | [],S,m=>K S m
 | o::r,S,m=>ZvO E ops o S m (Zib E ops K r)
def Zse(E:Env)(ops:Array Oper)(k:Nat)(K:St->Mem->Prop)(S:St)(m:Mem):Prop:=Zib E ops K (ops.toList.drop (ops.size - k)) S m
def Zvx(E:Env)(S:St)(ids:List Nat)(T:TypeId)(x:Operand)(k:Value->Prop):Prop:=match E.tt T with
 | none=>False
 | some i=>match S.ev x with
  | some (.loc id off)=>match S.L id with
   | none=>False
   | some bx=>chk (!mem ids id) (ZcE i bx off k)
  | some (.v v)=>match E.m0 with
   | none=>False
   | some m0=>chk (Zh6 v&&(ZeA E x).isNone) (ZcZ i m0 (ZqI v) (ZqJ v) k)
  | _=>False
def Zsf{α:Type}:List α->Bool
 | []=>true
 | _=>false
def Zyc:Operand->Bool
 | .func _=>true
 | _=>false
def Zp0(chg:List Nat):SV->Bool
 | .v _=>true
 | .loc id _=>!mem chg id
 | .sl id _ _=>!mem chg id
def Zsg(S:St)(chg:List Nat)(x:Operand)(k:SV->Prop):Prop:=match S.ev x with
 | some sv=>chk (Zp0 chg sv) (k sv)
 | none=>False
def ZtK(E:Env)(S:St)(chg:List Nat)(o:Oper)(k:SV->Prop):Prop:=match o.op with
 | .load T x=>chk (ZrO E o.dst).isNone (Zvx E S chg T x λv=>k (.v v))
 | .move x=>Zsg S chg x k
 | .assign x=>Zsg S chg x k
 | .nilCheck x=>match S.ev x with
  | some (.loc id off)=>chk (!mem chg id) (k (.loc id off))
  | some (.v v)=>chk (Zh6 v) (k (.v v))
  | _=>False
 | .fieldAddr T x f=>match Zey E T f with
  | none=>False
  | some fo=>match S.ev x with
   | some (.loc id off)=>chk (!mem chg id) (k (.loc id (off+fo)))
   | some (.v v)=>chk (Zh6 v) (k (.v (ptr (ZqI v) (ZqJ v+fo))))
   | _=>False
 | .indexAddr T x i=>match S.ev i,Zxj E T,S.ev x with
  | some (.v vi),some (.sl esz),some (.v v)=>chk (ZbJ vi&&Zbi v) (∃b o,slA v=some ⟨b,o,none⟩/\Zaf (intOf vi) (slN v)/\k (.v (ptr b (o+(intOf vi).toNat*esz))))
  | _,_,_=>False
 | _=>False
def Zsh(E:Env)(ops:Array Oper)(chg:List Nat):List Nat->(St->Prop)->St->Prop
 | [],k,S=>k S
 | i::r,k,S=>match ops.toList[i]? with
  | none=>False
  | some o=>ZtK E S chg o λsv=>Zsh E ops chg r k (S.put o.dst (some sv))
def ZdT(ops:Array Oper):List Nat->List Oper
 | []=>[]
 | i::r=>match ops.toList[i]? with
  | none=>[]
  | some o=>o::ZdT ops r
def ZyU(ops:Array Oper)(l:List Nat):List Nat:=(List.range ops.size).reverse.foldl (λacc i=>bif mem acc i then(match ops.toList[i]? with
 | some o=>Zb3 o++acc
 | none=>acc)else acc) l
def Zpx(o:Oper):Bool:=match o.op with
 | .select _ _=>false
 | .defer _=>false
 | _=>true
def Zdm(ops:Array Oper)(i:Nat):List Nat:=match ops.toList[i]? with
 | none=>[]
 | some o=>Zb3 o
def ZyV(E:Env)(ops:Array Oper)(i:Nat):Bool:=match ops.toList[i]? with
 | none=>false
 | some o=>match o.op with
  | .buildSlice _ _ _=>(ZcL E o.dst).isNone
  | .call q=>(match q.callee with
   | .builtin .len=>true
   | .builtin .append=>Zsf (ZdH E o.dst)
   | _=>false)
  | _=>false
def Zlx(E:Env)(ops:Array Oper)(i:Nat):Bool:=match ops.toList[i]? with
 | none=>false
 | some o=>match o.op with
  | .call q=>(match q.callee with
   | .value f=>Zyc f&&((ZdI E o.dst).isSome&&(Zsf (ZdH E o.dst)&&!ZqM E o.dst))
   | _=>false)
  | _=>false
def Zv5(E:Env)(ops:Array Oper)(H:List Nat):List Nat->Bool
 | p::t::r=>mem (Zdm ops t) p&&((ZyV E ops t||H.all (mem (ZyU ops (Zdm ops t))))&&Zv5 E ops H (t::r))
 | _=>true
def Zji(ops:Array Oper):List Nat->List Nat->Bool
 | _,[]=>true
 | prev,i::r=>(match ops.toList[i]? with
  | none=>false
  | some o=>o.dst.isSome&&(o.looksAt ops).all λt=>!mem (ZaD ops.toList) t||prev.any λj=>mem (Zb3 o) j&&(match ops.toList[j]? with
   | some oj=>Zfb oj t
   | none=>false))&&Zji ops (i::prev) r
def Zyd(E:Env)(ops:Array Oper)(H T:List Nat):Bool:=
 (Zbd (H++T)&&((List.range ops.size).all (mem (H++T))&&((H++T).all (Nat.blt · ops.size))))&&(Zbd (ZaD ops.toList)&&ops.toList.all λo=>o.guard.isNone&&Zpx o) &&
  ((List.range ops.size).all λi=>(Zdm ops i).all (Nat.blt · i))&&(Zji ops [] H&&(T.all λi=>match ops.toList[i]? with
   | none=>false
   | some o=>H.all λj=>match ops.toList[j]? with
    | none=>false
    | some oj=>Zn3 oj (o.looksAt ops)||mem (Zb3 o) j))&&(Zv5 E ops H T&&(match T with
   | []=>false
   | c::_=>Zlx E ops c))
def Zye(E:Env)(ops:Array Oper)(T:List Nat):List Nat:=(match ZdT ops T with
 | []=>[]
 | o::_=>Zc0 E o.dst)++ZaD (ZdT ops T)
def Zyf(E:Env)(id:Nat)(H T:List Nat)(ops:Array Oper)(K:St->Mem->Prop)(S:St)(m:Mem):Prop:=
 chk (E.last id&&(E.thaw&&Zyd E ops H T)) (Zsh E ops (Zye E ops T) H (λS1=>match ZdT ops T with
  | []=>False
  | o::r=>match o.op with
   | .call q=>chk (Zsf (ZdN S1 q.args.toList)) (ZvO E ops o S1 m (Zib E ops K r))
   | _=>False) S)
def ZjX(E:Env)(id:Nat)(ops:Array Oper)(K:St->Mem->Prop)(S:St)(m:Mem):Prop:=
 match E.mix id with
 | some (H,T)=>Zyf E id H T ops K S m
 | none=>chk (Zv3 E ops (E.dr id) (bif E.last id then ops.size - E.lastK id else ops.size)&&(bif E.last id then Zv4 ops (E.dr id) (E.lastK id)else true)) (exF (ZtJ ops.toList) λf=>bif E.gb then Zh9 E ops m f (E.dr id) (λS' μ=>Zxq m μ (Zia ops (E.dr id)) λM=>bif E.last id then Zse E ops (E.lastK id) K S' M else K S' M) (ZjW (E.dr id) S) (λ_=>m)else Zh8 E ops m f (E.dr id) (λS' μ=>Zxq m μ (Zia ops (E.dr id)) λM=>bif E.last id then Zse E ops (E.lastK id) K S' M else K S' M) (ZjW (E.dr id) S) (λ_=>m))
def ZyH(S:St)(y:Option SV):Option SV:=match y with
 | some (.loc i off)=>(match S.L i with
  | some x=>some (.v (.pointer (some ⟨x.b,off,none⟩)))
  | none=>none)
 | y=>y
def ptrS(S:St)(ts:List Nat):St:={ S with env:=λt=>bif mem ts t then ZyH S (S.env t)else S.env t }
def Zih(S S':St):List Nat->Prop->Prop
 | [],p=>p
 | t::l,p=>match S.env t with
  | some (.loc i _)=>S'.L i=S.L i/\Zih S S' l p
  | some (.v _)=>Zih S S' l p
  | _=>False
def Zv6(S S':St)(ts:List Nat):St:={ S' with env:=λt=>bif mem ts t then S.env t else S'.env t }
def Zyg(ts ds:List Nat)(f:(St->Mem->Prop)->St->Mem->Prop)(K:St->Mem->Prop)(S:St)(m:Mem):Prop:=match ts with
 | []=>f K S m
 | _::_=>chk (ZyT ts ds) (f (λS' m'=>Zih S S' ts (K (Zv6 S S' ts) m')) (ptrS S ts) m)
def Zba(E:Env)(id:Nat)(ops:Array Oper)(K:St->Mem->Prop)(S:St)(m:Mem):Prop:=Zvo E (some (1000000+id)) S m λS m=>ZvP E (bif E.last id then E.acq id else none) (Zyg (E.ptrAt id) (ZaD ops.toList) (ZjX E id ops)) K S m
theorem ZhU{μ:Nat->Mem}{M:Mem}{p q:Prop}(h:p->q):∀{l:List Nat},Zpw μ M l p->Zpw μ M l q
 | [],x=>h x
 | j::l,x=>λy=>ZhU h (x y)
theorem ZhV{μ:Nat->Mem}{M:Mem}{p:Prop}:∀{l:List Nat},Zpw μ M l p->(∀j∈l,(μ j).le M)->p
 | [],x,_=>x
 | j::l,x,h=>ZhV (x (h j (by simp))) (λi hi=>h i (by simp[hi]))
theorem Zp1{μ:Nat->Mem}{m0:Mem}{k k':Mem->Prop}(h:∀V,k V->k' V):∀{l:List Nat},ZqX μ m0 l k->ZqX μ m0 l k'
 | [],x=>h _ x
 | [j],x=>h _ x
 | i::j::l,x=>λV hV=>ZhU (h V) (x V hV)
theorem Zp2{μ:Nat->Mem}{m0 A:Mem}{l:List Nat}(h0:m0.le A)(hl:∀j∈l,(μ j).le A):∃V:Mem,V.le A/\∀k:Mem->Prop,ZqX μ m0 l k->k V:=by
 match l with
 | []=>exact⟨m0,h0,λk x=>x⟩
 | [j]=>exact⟨μ j,hl j (by simp),λk x=>x⟩
 | i::j::l=>exact⟨A,Mem.le_refl A,λk x=>ZhV (x A h0) hl⟩
theorem Zsi{μ:Nat->Mem}{m0:Mem}{i:Nat}{m:Mem}{l:List Nat}(h:i ∉ l)(k:Mem->Prop):ZqX (upd μ i m) m0 l k=ZqX μ m0 l k:=by
 have one:∀{j},j∈l->upd μ i m j=μ j:=λ{j} hj=>by
  have:j≠i:=λe=>h (e ▸ hj)
  simp[upd,Zar this]
 have all:∀{l':List Nat},(∀j∈l',j∈l)->∀(M:Mem)(p:Prop),Zpw (upd μ i m) M l' p=Zpw μ M l' p:=by
  intro l'
  induction l' with
  | nil=>intro _ M p;rfl
  | cons j l' ih=>
   intro hs M p
   simp only[Zpw]
   rw[one (hs j (by simp)),ih (λx hx=>hs x (by simp[hx]))]
 match l with
 | []=>rfl
 | [j]=>simp only[ZqX];rw[one (by simp)]
 | a::b::l=>
  simp only[ZqX]
  exact propext ⟨λx V hV=>by have:=x V hV;rwa [all (λj hj=>hj)]at this,λx V hV=>by rw[all (λj hj=>hj)];exact x V hV⟩
theorem Zsj{m0:Mem}{μ:Nat->Mem}{l:List Nat}{k:Mem->Prop}{A:Mem}(h:Zxq m0 μ l k)(h0:m0.le A)(he:l=[]->A=m0)(hl:∀j∈l,(μ j).le A):k A:=by
 match l with
 | []=>rw[he rfl];exact h
 | i::l=>exact ZhV (h A h0) hl
theorem Zn4{m0:Mem}{μ:Nat->Mem}{l:List Nat}{k k':Mem->Prop}(h:∀M:Mem,m0.le M->k M->k' M)(x:Zxq m0 μ l k):Zxq m0 μ l k':=by
 match l with
 | []=>exact h _ (Mem.le_refl _) x
 | i::l=>exact λM hM=>ZhU (h M hM) (x M hM)
theorem Zej{E:Env}{ops:Array Oper}{m0:Mem}{f:Fx}{d:DOp}{S:St}{μ:Nat->Mem}{K K':St->Mem->Prop}(h:∀S' m',K S' m'->K' S' m')(hx:Ztv E ops m0 f d S μ K):Ztv E ops m0 f d S μ K':=by
 unfold Ztv at *
 split at hx
 ·exact hx.elim
 ·exact Zp1 (λV y=>Zdo (th:=true) (.inl rfl) (λS' m' _ _=>h S' m') y) hx
theorem Zly{E:Env}{ops:Array Oper}{m0:Mem}{f:Fx}:∀{r:List DOp} {K K':St->(Nat->Mem)->Prop} {S:St} {μ:Nat->Mem},(∀S' μ',SameOut (ZaD ops.toList) S S'->K S' μ'->K' S' μ')->Zh8 E ops m0 f r K S μ->Zh8 E ops m0 f r K' S μ
 | [],K,K',S,μ,h,hx=>h _ _ (SameOut.refl _ S) hx
 | d::r,K,K',S,μ,h,hx=>by
  refine Zej (λS' m' y=>Zly (λS'' μ'' hs y=>h _ _ (SameOut.trans ?_ hs) y) y) hx
  intro t ht
  unfold ZpZ
  cases ho:ops.toList[d.i]? with
  | none=>rfl
  | some o=>
   have:Zfb o t=false:=by
    cases hd:Zfb o t with
    | false=>rfl
    | true=>exact absurd (ZaO ho (Zco.1 hd)) ht
   simp[Zn2,this]
theorem Zsk{ops:Array Oper}{d:DOp}{S S':St}:SameOut (ZaD ops.toList) S (ZpZ ops d S S'):=by
 intro t ht
 unfold ZpZ
 cases ho:ops.toList[d.i]? with
 | none=>rfl
 | some o=>
  have:Zfb o t=false:=by
   cases hd:Zfb o t with
   | false=>rfl
   | true=>exact absurd (ZaO ho (Zco.1 hd)) ht
  simp[Zn2,this]
theorem Zsl{ops:Array Oper}{d:DOp}{t:Nat}(h:Zxp ops d=some t):t∈ZaD ops.toList:=by
 unfold Zxp Zee at h
 split at h
 ·cases h
 ·split at h
  ·cases h
  ·split at h
   ·cases h
   ·rename_i oj hj
    exact ZaO hj h
theorem Zlz{E:Env}{ops:Array Oper}{m0:Mem}{f:Fx}:∀{r:List DOp} {K K':St->(Nat->Mem)->Prop} {S:St} {μ:Nat->Mem},(∀S' μ',SameOut (ZaD ops.toList) S S'->K S' μ'->K' S' μ')->Zh9 E ops m0 f r K S μ->Zh9 E ops m0 f r K' S μ
 | [],K,K',S,μ,h,hx=>h _ _ (SameOut.refl _ S) hx
 | d::r,K,K',S,μ,h,hx=>by
  have step:∀{S1:St},SameOut (ZaD ops.toList) S S1->ZjV E ops m0 f d S1 μ (Zh9 E ops m0 f r K)->ZjV E ops m0 f d S1 μ (Zh9 E ops m0 f r K'):=λhs y=>
   Zej (λS' m' y=>Zlz (λS'' μ'' iY y=>h _ _ (SameOut.trans (SameOut.trans hs Zsk) iY) y) y) y
  unfold Zh9 at hx ⊢
  split at hx
  ·exact step (SameOut.refl _ S) hx
  ·rename_i t ht
   have jb:∀x,SameOut (ZaD ops.toList) S (S.put (some t) x):=λx=>(SameOut.refl _ S).put (λt' e=>by cases e;exact Zsl ht) x
   split at hx
   ·rename_i v hv
    cases hu:ZdJ v with
    | true=>simp only[hu,cond_true]at hx ⊢;exact step (SameOut.refl _ S) hx
    | false=>
     simp only[hu,cond_false]at hx ⊢
     refine Zaj (λy=>?_) hx
     cases hb:ZcW v with
     | true=>rw[hb]at y;exact step (jb _) y
     | false=>rw[hb]at y;exact step (jb _) y
   ·exact hx.elim
theorem ZqZ{S:St}{t:Nat}{x:SV}(h:S.env t=some x):S.put (some t) (some x)=S:=by
 cases S with
 | mk env L ids tok tkeys gh=>
  simp only[St.put]
  congr 1
  funext i
  by_cases e:i=t
  ·subst e;simp at h ⊢;exact h.symm
  ·simp[Zar e]
theorem Zjj{E:Env}{ops:Array Oper}{m0:Mem}{f:Fx}:∀{r:List DOp} {K:St->(Nat->Mem)->Prop} {S:St} {μ:Nat->Mem},Zh9 E ops m0 f r K S μ->Zh8 E ops m0 f r K S μ
 | [],K,S,μ,hx=>hx
 | d::r,K,S,μ,hx=>by
  have step:∀{S1:St},ZjV E ops m0 f d S1 μ (Zh9 E ops m0 f r K)->ZjV E ops m0 f d S1 μ (Zh8 E ops m0 f r K):=λy=>Zej (λS' m' y=>Zjj y) y
  unfold Zh9 at hx
  show ZjV E ops m0 f d S μ (Zh8 E ops m0 f r K)
  split at hx
  ·exact step hx
  ·split at hx
   ·rename_i v hv
    cases hu:ZdJ v with
    | true=>simp only[hu,cond_true]at hx;exact step hx
    | false=>
     simp only[hu,cond_false]at hx
     obtain⟨h1,h2⟩:=Zah hx
     have he:=ZbT h1
     cases hb:ZcW v with
     | true=>
      rw[hb]at he h2
      subst he
      have h3:ZjV E ops m0 f d (S.put (some _) (some (.v (.bool true)))) μ (Zh9 E ops m0 f r K):=h2
      rw[ZqZ hv]at h3;exact step h3
     | false=>
      rw[hb]at he h2
      subst he
      have h3:ZjV E ops m0 f d (S.put (some _) (some (.v (.bool false)))) μ (Zh9 E ops m0 f r K):=h2
      rw[ZqZ hv]at h3;exact step h3
   ·exact hx.elim
theorem ZlA{E:Env}{id:Nat}{ops:Array Oper}{K K':St->Mem->Prop}{S:St}{m:Mem}(h:∀S' m',SameOut (ZaD ops.toList) S S'->leD E id m m'->K S' m'->K' S' m'){S':St}{M:Mem}(hs:SameOut (ZaD ops.toList) S S')(hM:m.le M)(y:bif E.last id then Zse E ops (E.lastK id) K S' M else K S' M):bif E.last id then Zse E ops (E.lastK id) K' S' M else K' S' M:=by
 cases hl:E.last id with
 | false=>
  rw[hl]at y
  exact h _ _ hs (by unfold leD;rw[hl];exact hM) y
 | true=>
  rw[hl]at y
  simp only[cond_true]at y ⊢
  unfold Zse at y ⊢
  have key:∀(r:List Oper),(∀o∈r,o∈ops.toList)->∀(S':St)(M:Mem),SameOut (ZaD ops.toList) S S'->leT E.thaw m M->Zib E ops K r S' M->Zib E ops K' r S' M:=by
   intro r
   induction r with
   | nil=>exact λ_ S' M hs hM y=>h _ _ hs (by unfold leD;rw[hl];exact hM) y
   | cons o r ih=>
    intro hr S' M hs hM y
    simp only[Zib]at y ⊢
    obtain⟨i,ho⟩:=List.getElem?_of_mem (hr o (by simp))
    exact ZgP (λt ht=>ZaO ho ht) (λS2 m2 iY bA y=>ih (λo ho=>hr o (by simp[ho])) _ _ (hs.trans iY) (leT.trans hM bA) y) y
  exact key _ (λo ho=>List.mem_of_mem_drop ho) _ _ hs (.of hM) y
theorem ZlB{E:Env}{ops:Array Oper}{K K':St->Mem->Prop}{S:St}{m:Mem}(h:∀S' m',SameOut (ZaD ops.toList) S S'->leT E.thaw m m'->K S' m'->K' S' m'):∀(r:List Oper),(∀o∈r,o∈ops.toList)->∀(S':St)(M:Mem),SameOut (ZaD ops.toList) S S'->leT E.thaw m M->Zib E ops K r S' M->Zib E ops K' r S' M
 | [],_,S',M,hs,hM,y=>h _ _ hs hM y
 | o::r,hr,S',M,hs,hM,y=>by
  simp only[Zib]at y ⊢
  obtain⟨i,ho⟩:=List.getElem?_of_mem (hr o (by simp))
  exact ZgP (λt ht=>ZaO ho ht) (λS2 m2 iY bA y=>ZlB h r (λo ho=>hr o (by simp[ho])) _ _ (hs.trans iY) (leT.trans hM bA) y) y
theorem Zp3{E:Env}{S:St}{ids:List Nat}{T:TypeId}{x:Operand}{k k':Value->Prop}(h:∀v,k v->k' v)(hx:Zvx E S ids T x k):Zvx E S ids T x k':=by
 unfold Zvx at *
 split at hx
 ·exact hx
 ·split at hx
  ·split at hx
   ·exact hx
   ·exact Zaj (Zdw h) hx
  ·split at hx
   ·exact hx
   ·exact Zaj (ZgO h) hx
  ·exact hx
theorem ZlC{S:St}{chg:List Nat}{x:Operand}{k k':SV->Prop}(h:∀v,k v->k' v)(hx:Zsg S chg x k):Zsg S chg x k':=by
 unfold Zsg at *
 split at hx
 ·exact Zaj (h _) hx
 ·exact hx
theorem Zp4{E:Env}{S:St}{chg:List Nat}{o:Oper}{k k':SV->Prop}(h:∀v,k v->k' v)(hx:ZtK E S chg o k):ZtK E S chg o k':=by
 unfold ZtK at *
 split at hx
 ·exact Zaj (Zp3 λv=>h _) hx
 ·exact ZlC h hx
 ·exact ZlC h hx
 ·split at hx
  ·exact Zaj (h _) hx
  ·exact Zaj (h _) hx
  ·exact hx
 ·split at hx
  ·exact hx
  ·split at hx
   ·exact Zaj (h _) hx
   ·exact Zaj (h _) hx
   ·exact hx
 ·split at hx
  ·exact Zaj (λ⟨b,o,h1,h2,h3⟩=>⟨b,o,h1,h2,h _ h3⟩) hx
  ·exact hx
 ·exact hx
theorem ZlD{E:Env}{ops:Array Oper}{chg:List Nat}:∀{l:List Nat} {S:St} {k k':St->Prop},(∀S',SameOut (ZaD ops.toList) S S'->k S'->k' S')->Zsh E ops chg l k S->Zsh E ops chg l k' S
 | [],S,k,k',h,hx=>h _ (SameOut.refl _ S) hx
 | i::l,S,k,k',h,hx=>by
  unfold Zsh at *
  split at hx
  ·exact hx
  ·rename_i o ho
   exact Zp4 (λsv y=>ZlD (λS' hs y=>h _ (SameOut.trans ((SameOut.refl _ S).put (λt e=>ZaO ho e) _) hs) y) y) hx
theorem Zn5{ops:Array Oper}:∀{l:List Nat} {o:Oper},o∈ZdT ops l->o∈ops.toList
 | [],o,h=>by simp[ZdT]at h
 | i::l,o,h=>by
  unfold ZdT at h
  split at h
  ·simp at h
  ·rename_i o' ho
   rcases List.mem_cons.1 h with rfl|h
   ·exact List.mem_of_getElem? ho
   ·exact Zn5 h
theorem Zv7{E:Env}{id:Nat}{H T:List Nat}{ops:Array Oper}{K K':St->Mem->Prop}{S:St}{m:Mem}(h:∀S' m',SameOut (ZaD ops.toList) S S'->leD E id m m'->K S' m'->K' S' m')(hx:Zyf E id H T ops K S m):Zyf E id H T ops K' S m:=by
 unfold Zyf at *
 obtain⟨h1,h2⟩:=Zah hx
 refine Zaa h1 ?_
 simp only[Bool.and_eq_true]at h1
 have gS:=h1.2.1
 refine ZlD (λS1 hs y=>?_) h2
 have hm:∀o∈ZdT ops T,o∈ops.toList:=λo ho=>Zn5 ho
 split at y
 ·exact y
 ·rename_i o r ji
  rw[ji]at hm
  split at y
  ·refine Zaj (λy=>?_) y
   obtain⟨i,ho⟩:=List.getElem?_of_mem (hm o (by simp))
   exact ZgP (λt ht=>ZaO ho ht) (λS2 m2 iY bA y=>ZlB (S:=S) (m:=m) (λS3 m3 mL _ y=>h _ _ mL (by unfold leD;rw[h1.1,gS];trivial) y) r (λo' ho'=>hm o' (by simp[ho'])) _ _ (hs.trans iY) (by rw[gS];trivial) y) y
  ·exact y
theorem ZjY(E:Env):ZeD E (ZjX E):=by
 intro id ops K K' S m h hx
 unfold ZjX at *
 cases hh:E.mix id with
 | some q=>obtain⟨H,T⟩:=q;simp only[hh]at hx ⊢;exact Zv7 h hx
 | none=>
 simp only[hh]at hx ⊢
 refine Zaj (λy=>?_) hx
 refine Zut (λf y=>?_) y
 cases oE:E.gb with
 | false=>
  simp only[oE,cond_false]at y ⊢
  exact Zly (λS' μ hs y=>Zn4 (λM hM y=>ZlA h hs hM y) y) y
 | true=>
  simp only[oE,cond_true]at y ⊢
  exact Zlz (λS' μ hs y=>Zn4 (λM hM y=>ZlA h hs hM y) y) y
theorem ZfR{S S':St}{p q:Prop}(h:p->q):∀{l:List Nat},Zih S S' l p->Zih S S' l q
 | [],x=>h x
 | t::l,x=>by
  unfold Zih at *
  split at x
  ·exact⟨x.1,ZfR h x.2⟩
  ·exact ZfR h x
  ·exact x
theorem ZfS{S S':St}{p:Prop}:∀{l:List Nat},Zih S S' l p->p/\∀t∈l,(∃i off,S.env t=some (.loc i off)/\S'.L i=S.L i)\/∃v,S.env t=some (.v v)
 | [],x=>⟨x,by simp⟩
 | t::l,x=>by
  unfold Zih at x
  split at x
  ·rename_i i off he
   obtain⟨h1,h2⟩:=ZfS x.2
   refine⟨h1,λt' ht=>?_⟩
   rcases List.mem_cons.1 ht with rfl|ht
   ·exact .inl ⟨i,off,he,x.1⟩
   ·exact h2 t' ht
  ·rename_i v he
   obtain⟨h1,h2⟩:=ZfS x
   refine⟨h1,λt' ht=>?_⟩
   rcases List.mem_cons.1 ht with rfl|ht
   ·exact .inr ⟨v,he⟩
   ·exact h2 t' ht
  ·exact x.elim
theorem Zsm{S S':St}{ts ds:List Nat}(h:SameOut ds (ptrS S ts) S'):SameOut ds S (Zv6 S S' ts):=by
 intro t ht
 show(bif mem ts t then S.env t else S'.env t)=_
 cases hm:mem ts t with
 | true=>rfl
 | false=>
  rw[cond_false,h t ht]
  show(bif mem ts t then _ else S.env t)=_
  rw[hm];rfl
theorem Zq0{E:Env}{id:Nat}{ops:Array Oper}{ts:List Nat}{K K':St->Mem->Prop}{S:St}{m:Mem}(h:∀S' m',SameOut (ZaD ops.toList) S S'->leD E id m m'->K S' m'->K' S' m')
  (y:Zyg ts (ZaD ops.toList) (ZjX E id ops) K S m):Zyg ts (ZaD ops.toList) (ZjX E id ops) K' S m:=by
 unfold Zyg at *
 split at y
 ·exact ZjY E id ops K K' S m h y
 ·exact Zaj (λy=>ZjY E id ops _ _ _ m (λS' m' hs hl y=>ZfR (λy=>h _ m' (Zsm hs) hl y) y) y) y
theorem Zno(E:Env):ZeD E (Zba E):=by
 intro id ops K K' S m h hx
 refine ZjC (λS1 m1 he hm y=>?_) hx
 have up:∀{m'},leD E id m1 m'->leD E id m m':=λhl=>by
  unfold leD at hl ⊢
  cases hl':E.last id with
  | true=>rw[hl']at hl;exact leT.trans (.of hm) hl
  | false=>rw[hl']at hl;exact mLt hm hl
 cases hl:E.last id with
 | false=>
  simp only[hl,cond_false,ZvP]at y ⊢
  exact Zq0 (λS' m' hs hl y=>h S' m' ((Zdi he).trans hs) (up hl) y) y
 | true=>
  simp only[hl,cond_true]at y ⊢
  unfold ZvP at *
  split at y
  ·exact Zq0 (λS' m' hs hl y=>h S' m' ((Zdi he).trans hs) (up hl) y) y
  ·obtain⟨y1,y2⟩:=Zah y
   refine Zaa y1 ?_
   simp only[Bool.and_eq_true]at y1
   split at y2
   ·exact y2
   ·obtain⟨z0,a,n,c,z1,z2,z3⟩:=y2
    refine⟨z0,a,n,c,z1,z2,Zq0 (λS' m' hs _ z=>?_) z3⟩
    split at z
    ·exact z
    ·exact Zaj (λz zs hz=>h _ _ ((Zdi he).trans (λt ht=>hs t ht)) (by unfold leD;rw[hl,y1.1];trivial) (z zs hz)) z
theorem St.ext'{a b:St}(h1:a.env=b.env)(h2:a.L=b.L)(h3:a.ids=b.ids)(h4:a.tok=b.tok)(h5:a.tkeys=b.tkeys)(h6:a.gh=b.gh)(h7:a.fo=b.fo):a=b:=by
 cases a;cases b;simp at *;exact⟨h1,h2,h3,h4,h5,h6,h7⟩
structure Ind (ops:Array Oper)(c d:DOp)(oc od:Oper):Prop where
 hc:ops.toList[c.i]?=some oc
 hd:ops.toList[d.i]?=some od
 cd:∀t,Zfb oc t=true->mem (od.looksAt ops) t=false
 dc:∀t,Zfb od t=true->mem (oc.looksAt ops) t=false
 ne:∀t,Zfb oc t=true->Zfb od t=false
 lcd:∀id,mem c.ws id=true->mem d.rs id=false
 ldc:∀id,mem d.ws id=true->mem c.rs id=false
 tk:∀k,Zsd c.tk k=true->Zsd d.tk k=false
 vcd:c.i ∉ d.vw
 vdc:d.i ∉ c.vw
 i:c.i≠d.i
theorem Zn6{a b:List Nat}(h:ZyT a b=true):∀i,mem a i=true->mem b i=false:=λi hi=>by
 have:=List.all_eq_true.1 h i (ZaQ.1 hi)
 simpa using this
theorem ZgT{a b:List Nat}(h:ZyG a b=true):∀i,i∈a->i∈b:=λi hi=>ZaQ.1 (List.all_eq_true.1 h i hi)
theorem Zjk{o:Oper}{l:List Nat}(h:Zn3 o l=true):∀t,Zfb o t=true->mem l t=false:=λt ht=>by
 have:=Zco.1 ht
 simpa[Zn3,this]using h
theorem Zp5{a b:Oper}(h:Zxr a b=true):∀t,Zfb a t=true->Zfb b t=false:=λt ht=>by
 have:=Zco.1 ht
 simpa[Zxr,this]using h
theorem Zsn{a b:Option Nat}(h:Zzg a b=true):∀t,Zsd a t=true->Zsd b t=false:=λt ht=>by
 have:=Zco.1 ht
 simpa[Zzg,this]using h
theorem ZlE{ops:Array Oper}{c d:DOp}(h:ZqY ops c d=true):∃oc od,Ind ops c d oc od:=by
 unfold ZqY at h
 split at h
 ·rename_i oc od hc hd
  simp only[Bool.and_eq_true,Bool.not_eq_true']at h
  obtain⟨⟨⟨⟨h1,h2⟩,h3⟩,⟨h4,h5⟩,h6⟩,⟨h7,h8⟩,h9⟩:=h
  refine⟨oc,od,hc,hd,Zjk h1,Zjk h2,Zp5 h3,Zn6 h4,Zn6 h5,Zsn h6,?_,?_,?_⟩
  ·intro hm;rw[ZaQ.2 hm]at h7;cases h7
  ·intro hm;rw[ZaQ.2 hm]at h8;cases h8
  ·intro e;rw[e,Zew]at h9;cases h9
 ·cases h
theorem Ind.symm'{ops:Array Oper}{c d:DOp}{oc od:Oper}(h:Ind ops c d oc od):Ind ops d c od oc:=by
 refine⟨h.hd,h.hc,h.dc,h.cd,?_,h.ldc,h.lcd,?_,h.vdc,h.vcd,h.i.symm⟩
 ·intro t ht
  cases hh:Zfb oc t with
  | false=>rfl
  | true=>rw[h.ne t hh]at ht;cases ht
 ·intro k hk
  cases hh:Zsd c.tk k with
  | false=>rfl
  | true=>rw[h.tk k hh]at hk;cases hk
section
variable {E:Env} {ops:Array Oper} {m0:Mem} {f:Fx} {c d:DOp} {oc od:Oper}
theorem Zuu(h:Ind ops c d oc od)(S S':St):ZpY ops d od (Zn2 c oc S S')=ZpY ops d od S:=by
 refine St.ext' (funext λt=>?_) (funext λid=>?_) rfl (funext λk=>?_) rfl rfl rfl
 ·simp only[ZpY,Zn2]
  cases ht:Zfb oc t with
  | true=>simp[h.cd t ht]
  | false=>simp
 ·simp only[ZpY,Zn2]
  cases ht:mem c.ws id with
  | true=>simp[h.lcd id ht]
  | false=>simp
 ·simp only[ZpY,Zn2]
  cases ht:Zsd c.tk k with
  | true=>simp[h.tk k ht]
  | false=>simp
theorem Zuv(h:Ind ops c d oc od)(hw:∀id,id∈d.ws->id∈d.rs)(S Sc Sd:St):Zn2 c oc (Zn2 d od S Sd) Sc=Zn2 d od (Zn2 c oc S Sc) Sd:=by
 refine St.ext' (funext λt=>?_) (funext λid=>?_) rfl (funext λk=>?_) rfl rfl rfl
 ·simp only[Zn2]
  cases ht:Zfb oc t with
  | true=>simp[h.ne t ht]
  | false=>simp
 ·simp only[Zn2]
  cases ht:mem c.ws id with
  | true=>
   have:mem d.ws id=false:=by
    cases hh:mem d.ws id with
    | false=>rfl
    | true=>
     have h1:=h.lcd id ht
     rw[ZaQ.2 (hw id (ZaQ.1 hh))]at h1;cases h1
   simp[this]
  | false=>simp
 ·simp only[Zn2]
  cases ht:Zsd c.tk k with
  | true=>simp[h.tk k ht]
  | false=>simp
theorem Zuw{μ:Nat->Mem}{i j:Nat}(h:i≠j)(a b:Mem):upd (upd μ i a) j b=upd (upd μ j b) i a:=by
 funext k
 simp only[upd]
 by_cases hk:k=j
 ·subst hk;simp[Zar (Ne.symm h)]
 ·simp[Zar hk]
theorem ZhW(h:Ind ops c d oc od)(S S':St)(μ:Nat->Mem)(m':Mem)(K:St->Mem->Prop):Ztv E ops m0 f d (ZpZ ops c S S') (upd μ c.i m') K=Ztv E ops m0 f d S μ K:=by
 unfold Ztv ZpZ
 simp only[h.hd,h.hc,Zuu h,Zsi h.vcd]
theorem Zn7(S:St)(μ:Nat->Mem)(K:St->(Nat->Mem)->Prop):ZjV E ops m0 f d S μ K=Ztv E ops m0 f d S μ λS' m'=>K (ZpZ ops d S S') (upd μ d.i m'):=rfl
def Zzp(E:Env)(ops:Array Oper)(m0:Mem)(f:Fx)(d:DOp)(S:St)(μ:Nat->Mem)(S':St)(m':Mem):Prop:=∀K:St->Mem->Prop,Ztv E ops m0 f d S μ K->K S' m'
theorem Zq1{K:St->(Nat->Mem)->Prop}{S':St}{m':Mem}(hw:∀id,id∈d.ws->id∈d.rs):∀{r1 r2:List DOp} {S:St} {μ:Nat->Mem},(∀c∈r1,ZqY ops c d=true)->Zh8 E ops m0 f (r1++d::r2) K S μ->Zzp E ops m0 f d S μ S' m'->
  Zh8 E ops m0 f (r1++r2) K (ZpZ ops d S S') (upd μ d.i m')
 | [],r2,S,μ,_,h,ho=>ho _ h
 | c::r1,r2,S,μ,hi,h,ho=>by
  obtain⟨oc,od,gH⟩:=ZlE (hi c (by simp))
  simp only[List.cons_append,Zh8,Zn7]at h ⊢
  rw[ZhW gH.symm']
  refine Zej (λSc mc y=>?_) h
  have ih:=Zq1 (S':=S') (m':=m') hw (r1:=r1) (r2:=r2) (λc hc=>hi c (by simp[hc])) y (λK hK=>by rw[ZhW gH]at hK;exact ho K hK)
  rw[Zuw gH.i]at ih
  have e:ZpZ ops c (ZpZ ops d S S') Sc=ZpZ ops d (ZpZ ops c S Sc) S':=by
   simp only[ZpZ,gH.hc,gH.hd]
   exact Zuv gH hw S Sc S'
  rw[e];exact ih
end
theorem Zp6{F:Fence}(hF:FOk F){n:Nat}{P:Program}{o:Oper}{a:Act}{w:World}{p:Prop}(h:o.wpIn F n P a w (λ_ _=>p) (λ_ _ _=>p)):p:=by
 have dI:∀k,F.room k:=λk d hd=>by rw[hF.depth]at hd;cases hd
 have h:=h.2
 generalize (o.semAt F.round a.eval).run P w=r at h
 cases r with
 | ok x w'=>
  cases x <;> simp only[Oper.uponIn]at h
  all_goals first
   | exact h
   | exact h.elim
   | (obtain⟨e,w'',fr,h,_⟩:=h.2.2 [] (dI _)
      cases e <;> first
       | exact h
       | (obtain⟨_,_,h⟩:=h;exact h))
   | (obtain⟨v,w'',h,_⟩:=h.2 default [] (dI _)
      exact h)
   | (obtain⟨e,w'',h,_⟩:=h.2.2 default [] (dI _)
      cases e <;> first
       | exact h
       | (obtain⟨_,_,h⟩:=h;exact h))
 | halt x w'=>
  cases x <;> simp only[Oper.uponIn]at h
  all_goals first
   | exact h
   | exact h.elim
theorem Zso{a b:St}(h:∀id,a.L id=b.L id)(sv:SV):a.den sv=b.den sv:=by
 cases sv <;> simp only[St.den,h]
section
variable {C:Ctx} {E:Env} {ops:Array Oper} {m0:Mem} {f:Fx} {d:DOp} {o:Oper} {S:St} {μ:Nat->Mem} {A:Mem} {a:Act} {w:World}
theorem Zv8(mM:∀i,i∈Zn1 d.rs o->i∈d.ws)(pZ:∀i,i∈d.ws->i∈d.rs)(eL:∀i,i∈d.ws->i∈S.ids)(fA:∀k,d.tk=some k->k∈S.tkeys)(hr:Rel C S A a w)
  {S2:St} {A2:Mem} {a':Act} {w':World} {y:St×Mem} {g:Bool} {m M:Mem} (h:Rel C S2 A2 a' w') (ho:Out (Zn1 d.rs o) d.tk g m M o.dst (ZpY ops d o S) S y (S2,A2)):Rel C (Zn2 d o S y.1) A2 a' w':=by
 have hL:∀id,(Zn2 d o S y.1).L id=S2.L id:=by
  intro id
  simp only[Zn2]
  cases hm:mem d.ws id with
  | true=>
   simp only[cond_true]
   rcases ho.L id with⟨_,e⟩|⟨e1,e2⟩
   ·exact e
   ·rw[e1,e2]
    simp[ZpY,ZaQ.2 (pZ id (ZaQ.1 hm))]
  | false=>
   simp only[cond_false]
   rcases ho.L id with⟨hc,_⟩|⟨e1,e2⟩
   ·rw[ZaQ.2 (mM id hc)]at hm;cases hm
   ·exact e2.symm
 have hT:∀k,(Zn2 d o S y.1).tok k=S2.tok k:=by
  intro k
  simp only[Zn2]
  cases hm:Zsd d.tk k with
  | true=>
   simp only[cond_true]
   rcases ho.tok k with⟨_,e⟩|⟨e1,e2⟩
   ·exact e
   ·rw[e1,e2]
    simp[ZpY,hm]
  | false=>
   simp only[cond_false]
   rcases ho.tok k with⟨hc,_⟩|⟨e1,e2⟩
   ·rw[Zco.2 hc]at hm;cases hm
   ·exact e2.symm
 refine h.restrict (congrArg Prod.fst ho.gh2).symm (congrArg Prod.snd ho.gh2).symm (λid x hx=>by rw[<-hL];exact hx) (λk t ht=>.inl (by rw[<-hT];exact ht)) ?_ ?_ ?_
 ·intro i sv he
  have he':S2.env i=some sv:=by
   simp only[Zn2]at he
   cases hd:Zfb o i with
   | true=>
    simp only[hd,cond_true]at he
    exact ho.env1 i sv (Zco.1 hd) he
   | false=>
    simp only[hd,cond_false]at he
    have:o.dst≠some i:=λe=>by rw[show Zfb o i=true from Zco.2 e]at hd;cases hd
    exact(ho.env2 i this).trans he
  obtain⟨v,h1,h2⟩:=h.env i sv he'
  exact⟨v,by rw[Zso hL];exact h1,h2⟩
 ·intro id x hx
  show id∈S.ids
  cases hm:mem d.ws id with
  | true=>exact eL id (ZaQ.1 hm)
  | false=>simp only[Zn2,hm,cond_false]at hx;exact hr.ids id x hx
 ·intro k t ht
  show k∈S.tkeys
  cases hm:Zsd d.tk k with
  | true=>exact fA k (Zco.1 hm)
  | false=>simp only[Zn2,hm,cond_false]at ht;exact hr.tkeys k t ht
structure DOk (E:Env)(ops:Array Oper)(d:DOp)(o:Oper):Prop where
 at_:ops.toList[d.i]?=some o
 fp:ZtI E d.rs d.tk o=true
 chg:∀i,i∈Zn1 d.rs o->i∈d.ws
 ws:∀i,i∈d.ws->i∈d.rs
theorem Zq2(hE:E.ok){F:Fence}(hF:FOk F)(hY:YOk E C)(bB:Zlm C.n ops.toList=true)(gX:E.fix=none)(hd:DOk E ops d o)(eL:∀i,i∈d.ws->i∈S.ids)(fA:∀k,d.tk=some k->k∈S.tkeys)
  (hr:Rel C S A a w) (h0:m0.le A) (hv:∀j,j∈d.vw->(μ j).le A) (h:Ztv E ops m0 f d S μ (λ_ _=>True)) {n:Nat} {Q:Exit->Act->World->Prop} {next:Act->World->Prop}
  (hK:∀S' m' A' a' w',Zzp E ops m0 f d S μ S' m'->Rel C (ZpZ ops d S S') A' a' w'->A.le A'->m'.le A'->(ZdK o=false->A'=A)->next a' w'):wpOpIn F n E.P ops Q d.i next a w:=by
 unfold Ztv at h
 simp only[hd.at_]at h
 obtain⟨V,uC,hV⟩:=Zp2 (l:=d.vw) h0 hv
 have oF:Less (ZpY ops d o S) S:=⟨λt sv ht=>by
  simp only[ZpY]at ht
  cases hm:mem (o.looksAt ops) t <;> simp[hm]at ht;exact ht,λid x hx=>by
  simp only[ZpY]at hx
  cases hm:mem d.rs id <;> simp[hm]at hx;exact hx⟩
 have h2:opG E ops o S A (λS2 A2=>∃y1:St×Mem,(∀K:St×Mem->Prop,opG (E.fixed (f d.i)) ops o (ZpY ops d o S) V (λS' m'=>K (S',m'))->K y1)/\Out (Zn1 d.rs o) d.tk (ZdK o) V A o.dst (ZpY ops d o S) S y1 (S2,A2)):=
  ZxK (rs:=d.rs) (tk:=d.tk) w gX oF (λid x hx=>by
   simp only[ZpY]at hx
   cases hm:mem d.rs id with
   | true=>exact ZaQ.1 hm
   | false=>simp[hm]at hx) (λid dH=>by simp[ZpY,ZaQ.2 dH]) (λk hk=>by simp[ZpY,Zco.2 hk]) uC hd.fp (hV _ h)
 have h3:=Zdo (th:=false) (.inr (Zlw hd.fp)) (K':=λS2 A2=>A.le A2/\∃y1:St×Mem,(∀K:St×Mem->Prop,opG (E.fixed (f d.i)) ops o (ZpY ops d o S) V (λS' m'=>K (S',m'))->K y1)/\Out (Zn1 d.rs o) d.tk (ZdK o) V A o.dst (ZpY ops d o S) S y1 (S2,A2)) (λS' m' _ hm y=>⟨hm,y⟩) h2
 have ho':ops[d.i]?=some o:=by simpa using hd.at_
 have:=Zeg hE hF hY (Zdh bB d.i o hd.at_) hr h3 (n:=n) (Q:=Q) (next:=next) (λS2 A2 a' w' ⟨hA,y1,g1,g2⟩ bP=>by
  refine hK y1.1 y1.2 A2 a' w' ?_ ?_ hA g2.le (λhg=>(g2.same hg).2)
  ·intro K ql
   unfold Ztv at ql
   simp only[hd.at_]at ql
   exact g1 (λy=>K y.1 y.2) (hV _ ql)
  ·simp only[ZpZ,hd.at_]
   exact Zv8 hd.chg hd.ws eL fA hr bP g2)
 unfold wpOpIn
 simp only[ho']
 exact this
end
theorem ZjZ(ops:Array Oper)(d:DOp)(S S':St):(ZpZ ops d S S').ids=S.ids/\(ZpZ ops d S S').tkeys=S.tkeys:=by
 unfold ZpZ
 cases ops.toList[d.i]? <;> exact⟨rfl,rfl⟩
theorem Zq3(μ:Nat->Mem)(i:Nat)(m:Mem):upd μ i m i=m:=by simp[upd]
theorem Zv9{μ:Nat->Mem}{i j:Nat}(h:j≠i)(m:Mem):upd μ i m j=μ j:=by simp[upd,Zar h]
def Zxt:(Nat->Prop)->List DOp->Prop
 | _,[]=>True
 | D,c::r=>(∀j,j∈c.vw->D j)/\Zxt (λj=>D j\/j=c.i) r
theorem extract{C:Ctx}{E:Env}(hE:E.ok){F:Fence}(hF:FOk F)(hY:YOk E C){ops:Array Oper}(bB:Zlm C.n ops.toList=true)(gX:E.fix=none){m0:Mem}{f:Fx}{d:DOp}{r2:List DOp}{K:St->(Nat->Mem)->Prop}:
  ∀{r1:List DOp} {D:Nat->Prop} {S:St} {μ:Nat->Mem} {A:Mem} {a:Act} {w:World},Rel C S A a w->m0.le A->(∀j,D j->(μ j).le A)->Zxt D r1->(∀c∈r1,(∃o,DOk E ops c o)/\(∀i,i∈c.ws->i∈S.ids)/\(∀k,c.tk=some k->k∈S.tkeys))->(∀c∈r1,ZqY ops c d=true)->
   Zh8 E ops m0 f (r1++d::r2) K S μ->Ztv E ops m0 f d S μ (λ_ _=>True)
 | [],D,S,μ,A,a,w,hr,h0,hD,ht,hc,hi,h=>Zej (λ_ _ _=>trivial) h
 | c::r1,D,S,μ,A,a,w,hr,h0,hD,ht,hc,hi,h=>by
  obtain⟨oc,od,gH⟩:=ZlE (hi c (by simp))
  obtain⟨⟨o,cV⟩,eL,fA⟩:=hc c (by simp)
  simp only[List.cons_append,Zh8,Zn7]at h
  have key:=Zq2 (n:=0) (next:=λ_ _=>Ztv E ops m0 f d S μ (λ_ _=>True)) (Q:=λ_ _ _=>Ztv E ops m0 f d S μ (λ_ _=>True)) hE hF hY bB gX cV eL fA hr h0 (λj hj=>hD j (ht.1 j hj)) (Zej (λ_ _ _=>trivial) h) (λS' m' A' a' w' fX bP hA hm _=>by
   have:=extract hE hF hY bB gX (r1:=r1) (D:=λj=>D j\/j=c.i) bP (mLt h0 hA) (λj hj=>by
    by_cases e:j=c.i
    ·subst e;rw[Zq3];exact hm
    ·rw[Zv9 e];exact mLt (hD j (hj.resolve_right e)) hA) ht.2 (λc' hc'=>by
     obtain⟨h1,h2,h3⟩:=hc c' (by simp[hc'])
     exact⟨h1,λi hi=>by rw[(ZjZ ops c S S').1];exact h2 i hi,λk hk=>by rw[(ZjZ ops c S S').2];exact h3 k hk⟩) (λc' hc'=>hi c' (by simp[hc'])) (fX _ h)
   rwa [ZhW gH]at this)
  unfold wpOpIn at key
  have ho':ops[c.i]?=some o:=by simpa using cV.at_
  simp only[ho']at key
  split at key
  ·exact Zp6 hF key
  ·exact key.2
theorem ZfT{l:Array Bool}{i:Nat}(h:i < l.size):(l.setIfInBounds i true).getD i false=true:=by simp[Array.getD,h]
theorem ZlF:∀{n:Nat} {k k':List (List Value)->Prop},(∀v,v.length=n->k v->k' v)->allL n k->allL n k'
 | 0,k,k',h,hx=>h _ rfl hx
 | n+1,k,k',h,hx=>λcs=>ZlF (λl hl hx=>h _ (by simp[hl]) hx) (hx cs)
theorem Zp7{E:Env}{S:St}{m:Mem}{rt:TypeId}{g:FuncId}{args:List Value}{ids:List Nat}{ks:List (Nat×Nat)}{K:Value->St->Mem->Prop}
  (h:Zie E S m rt g args ids ks K):Zie E S m rt g args ids ks λv S' m'=>K v S' m'/\∀id,id ∉ ids->S'.L id=S.L id:=by
 unfold Zie at *
 cases hb:ZbP S ids with
 | none=>simp[hb]at h
 | some bxs=>
  simp only[hb]at h ⊢
  cases hm:E.m0 with
  | none=>simp[hm]at h
  | some m0=>
   simp only[hm]at h ⊢
   obtain⟨h1,Y,R,h2,h3,h4,h5,h6⟩:=Zah h
   refine Zaa h1 ⟨Y,R,h2,h3,h4,h5,?_⟩
   simp only[Bool.and_eq_true]at h1
   have eJ:=ZaB h1.2.2.1
   have bT:=(Zcc hb).1
   refine Shape.all_mono _ (λv z m' hm' hn=>?_) h6
   refine ZlF (λcss hc z=>ZhQ (λtvs z hR=>⟨z hR,λid dH=>?_⟩) z) (z m' hm' hn)
   rcases Zec (S:=S) eJ bT hc id with⟨_,q⟩|⟨i,x,cs,q,_⟩
   ·exact q
   ·exact absurd (List.mem_of_getElem? q) dH
theorem Zux{l:List Value}{n:Nat}{k:Value->Prop}(h:Ztt l n k):∃v,k v/\Ztt l n (·=v):=by
 obtain⟨v,h1,h2⟩:=ZgA h
 exact⟨v,h2,Zao h1 rfl⟩
theorem Zn8{i:TI}{x:Box}{off:Nat}{k:Value->Prop}(h:ZcE i x off k):∃v,k v/\ZcE i x off (·=v):=by
 unfold ZcE at *
 cases ha:i.agg with
 | true=>
  simp only[ha,cond_true]at *
  cases hf:(x.full&&(Nat.beq x.cap i.size&&Nat.beq off 0))with
  | true=>
   simp only[hf,cond_true]at *
   exact⟨_,h,rfl⟩
  | false=>
   simp only[hf,cond_false]at *
   obtain⟨h1,h2⟩:=Zah h
   exact⟨_,h2,Zaa h1 rfl⟩
 | false=>
  simp only[ha,cond_false]at *
  exact Zux h
theorem Zn9{i:TI}{m:Mem}{b o:Nat}{k:Value->Prop}(h:ZcZ i m b o k):∃v,k v/\∀m':Mem,m.le m'->ZcZ i m' b o (·=v):=by
 unfold ZcZ at *
 cases ha:i.agg with
 | false=>
  simp only[ha,cond_false]at *
  obtain⟨v,h1,h2⟩:=h
  exact⟨v,h2,λm' hm=>⟨v,hm _ _ _ h1,rfl⟩⟩
 | true=>
  simp only[ha,cond_true]at *
  cases hb:Nat.ble i.size 16 with
  | true=>
   simp only[hb,cond_true]at *
   obtain⟨vs,h1,h2,h3⟩:=ZhN h
   exact⟨_,h3,λm' hm=>Zjy vs h1 ⟨λj v hv=>hm _ _ _ (h2 j v hv),rfl⟩⟩
  | false=>
   simp only[hb,cond_false]at *
   obtain⟨vs,h1,h2,h3⟩:=h
   exact⟨_,h3,λm' hm=>⟨vs,h1,λj v hv=>hm _ _ _ (h2 j v hv),rfl⟩⟩
theorem ZhX{α:Type}{l:List α}(h:Zsf l=true):l=[]:=by
 cases l with
 | nil=>rfl
 | cons x l=>cases h
theorem Zjl{p q:Nat->Bool}{i:Nat}(hp:p i=true)(hq:∀j,q j=(p j&&!Nat.beq j i)):∀{l:List Nat},l.Nodup->i∈l->l.countP q+1=l.countP p
 | [],_,h=>by cases h
 | x::l,hn,hi=>by
  rw[List.nodup_cons]at hn
  rw[List.countP_cons,List.countP_cons]
  by_cases e:x=i
  ·subst e
   have:l.countP q=l.countP p:=List.countP_congr λj hj=>by
    have:j≠x:=λe=>hn.1 (e ▸ hj)
    rw[hq,Zar this];simp
   rw[this,hq,Zew,hp];simp
  ·have ih:=Zjl hp hq hn.2 ((List.mem_cons.1 hi).resolve_left λh=>e h.symm)
   rw[hq x,Zar e]
   simp only[Bool.not_false,Bool.and_true]
   omega
section
variable {C:Ctx} {m:Mem} {a:Act} {w:World}
def Stab(E:Env)(C:Ctx)(ops:Array Oper)(chg:List Nat)(S:St)(o:Oper)(v:Value):Prop:=
 ∀(S':St)(m':Mem)(a':Act)(w':World),Rel C S' m' a' w'->(∀t,t∈o.looksAt ops->S'.env t=S.env t)->(∀id,id ∉ chg->S'.L id=S.L id)->(execOp a'.eval o).run E.P w'=.ok (.value v) w'
theorem Stab.next{E:Env}{ops:Array Oper}{chg:List Nat}{S S2:St}{o:Oper}{v:Value}(h:Stab E C ops chg S o v)(he:∀t,t∈o.looksAt ops->S2.env t=S.env t)(hL:∀id,id ∉ chg->S2.L id=S.L id):Stab E C ops chg S2 o v:=
 λS' m' a' w' hr h1 h2=>h S' m' a' w' hr (λt ht=>(h1 t ht).trans (he t ht)) (λid dH=>(h2 id dH).trans (hL id dH))
theorem Zoa{ops:Array Oper}{S S':St}{o:Oper}{x:Operand}(hx:x∈o.op.operands)(h:∀t,t∈o.looksAt ops->S'.env t=S.env t):S'.ev x=S.ev x:=by
 cases x with
 | tmp t=>exact h t (List.mem_append_left _ (List.mem_filterMap.2 ⟨.tmp t,by simpa using hx,rfl⟩))
 | _=>rfl
theorem Zq4{S S':St}{chg:List Nat}{sv:SV}(hf:Zp0 chg sv=true)(hL:∀id,id ∉ chg->S'.L id=S.L id):S'.den sv=S.den sv:=by
 have key:∀id,mem chg id=false->id ∉ chg:=λid h hm=>by rw[ZaQ.2 hm]at h;cases h
 cases sv with
 | v x=>rfl
 | loc id off=>
  simp only[Zp0,Bool.not_eq_true']at hf
  simp only[St.den,hL id (key id hf)]
 | sl id n c=>
  simp only[Zp0,Bool.not_eq_true']at hf
  simp only[St.den,hL id (key id hf)]
theorem ZlG{S:St}{chg:List Nat}{x:Operand}{k:SV->Prop}(hr:Rel C S m a w)(h:Zsg S chg x k):∃sv v,k sv/\S.ev x=some sv/\S.den sv=some v/\
  ∀(S':St)(m':Mem)(a':Act)(w':World),Rel C S' m' a' w'->S'.ev x=S.ev x->(∀id,id ∉ chg->S'.L id=S.L id)->a'.eval x=v:=by
 unfold Zsg at h
 split at h
 ·rename_i sv he
  obtain⟨h1,h2⟩:=Zah h
  obtain⟨v,g1,_,_⟩:=hr.ev_val he
  refine⟨sv,v,h2,he,g1,λS' m' a' w' hr' e1 e2=>?_⟩
  obtain⟨v',g3,_,g5⟩:=hr'.ev_val (e1.trans he)
  rw[Zq4 h1 e2,g1]at g3;cases g3;exact g5
 ·exact h.elim
theorem Zp8{E:Env}(hE:E.ok)(hY:YOk E C){ops:Array Oper}{S:St}{chg:List Nat}{o:Oper}{k:SV->Prop}(hr:Rel C S m a w)(h:ZtK E S chg o k):∃sv v,k sv/\S.den sv=some v/\Stab E C ops chg S o v:=by
 have key:∀id,(!mem chg id)=true->id ∉ chg:=λid h hm=>by rw[ZaQ.2 hm]at h;cases h
 have pure1:∀(sv:SV),k sv->Zp0 chg sv=true->(∀S':St,(∀x∈o.op.operands,S'.ev x=S.ev x)->(∀id,id ∉ chg->S'.L id=S.L id)->Zca E S' o (·=sv))->∃sv v,k sv/\S.den sv=some v/\Stab E C ops chg S o v:=λsv hk hf hp=>by
  obtain⟨_,v,rfl,g2,_⟩:=Zfy hE hr (hp S (λ_ _=>rfl) (λ_ _=>rfl))
  refine⟨_,v,hk,g2,λS' m' a' w' hr' e1 e2=>?_⟩
  obtain⟨_,v',rfl,g5,g6⟩:=Zfy hE hr' (hp S' (λx hx=>Zoa hx e1) e2)
  rw[Zq4 hf e2,g2]at g5;cases g5;exact g6
 obtain⟨dst,op,type,pos,after,guard⟩:=o
 cases op <;> simp only[ZtK]at h <;> try exact h.elim
 case load T x=>
  obtain⟨h1,h2⟩:=Zah h
  unfold Zvx at h2
  cases ht:E.tt T with
  | none=>simp[ht]at h2
  | some i=>
   simp only[ht]at h2
   have fin:∀v,k (.v v)->(∀(S':St)(m':Mem),S'.ev x=S.ev x->(∀id,id ∉ chg->S'.L id=S.L id)->C.m0.le m'->Zea E S' m' T x (·=v))->∃sv v,k sv/\S.den sv=some v/\Stab E C ops chg S ⟨dst,.load T x,type,pos,after,guard⟩ v:=λv hk hl=>
    ⟨.v v,v,hk,rfl,λS' m' a' w' hr' e1 e2=>by
     obtain⟨_,rfl,bS⟩:=Zeb hE hr' (hl S' m' (Zoa (o:=⟨dst,.load T x,type,pos,after,guard⟩) (by simp[Op.operands]) e1) e2 hr'.le0)
     simp[execOp,bS]⟩
   split at h2
   ·rename_i id off he
    cases hL:S.L id with
    | none=>simp[hL]at h2
    | some bx=>
     simp only[hL]at h2
     obtain⟨h3,h4⟩:=Zah h2
     obtain⟨v,h5,h6⟩:=Zn8 h4
     refine fin v h5 λS' m' q1 q2 q3=>?_
     unfold Zea
     simp only[ht,q1,he,q2 id (key id h3),hL]
     exact h6
   ·rename_i v0 he
    cases hm:E.m0 with
    | none=>simp[hm]at h2
    | some m0=>
     simp only[hm]at h2
     obtain⟨h3,h4⟩:=Zah h2
     simp only[Bool.and_eq_true,Option.isNone_iff_eq_none]at h3
     obtain⟨v,h5,h6⟩:=Zn9 h4
     refine fin v h5 λS' m' q1 q2 q3=>?_
     unfold Zea
     simp only[ht,q1,he,h3.2]
     exact Zaa h3.1 (h6 m' (by rw[<-(hY.m0 m0 hm).1];exact q3))
   ·exact h2.elim
 case move x=>
  obtain⟨sv,v,h1,h2,h3,h4⟩:=ZlG hr h
  exact⟨sv,v,h1,h3,λS' m' a' w' hr' e1 e2=>by simp[execOp,h4 S' m' a' w' hr' (Zoa (o:=⟨dst,.move x,type,pos,after,guard⟩) (by simp[Op.operands]) e1) e2]⟩
 case assign x=>
  obtain⟨sv,v,h1,h2,h3,h4⟩:=ZlG hr h
  exact⟨sv,v,h1,h3,λS' m' a' w' hr' e1 e2=>by simp[execOp,h4 S' m' a' w' hr' (Zoa (o:=⟨dst,.assign x,type,pos,after,guard⟩) (by simp[Op.operands]) e1) e2]⟩
 case nilCheck x=>
  split at h
  ·rename_i id off he
   obtain⟨h1,h2⟩:=Zah h
   exact pure1 _ h2 h1 λS' e1 e2=>by simp only[Zca,e1 x (by simp[Op.operands]),he]
  ·rename_i v he
   obtain⟨h1,h2⟩:=Zah h
   exact pure1 _ h2 rfl λS' e1 e2=>by simp only[Zca,e1 x (by simp[Op.operands]),he];exact Zaa h1 trivial
  ·exact h.elim
 case fieldAddr T x f=>
  cases hf:Zey E T f with
  | none=>simp[hf]at h
  | some fo=>
   simp only[hf]at h
   split at h
   ·rename_i id off he
    obtain⟨h1,h2⟩:=Zah h
    exact pure1 _ h2 h1 λS' e1 e2=>by simp only[Zca,hf,e1 x (by simp[Op.operands]),he]
   ·rename_i v he
    obtain⟨h1,h2⟩:=Zah h
    exact pure1 _ h2 rfl λS' e1 e2=>by simp only[Zca,hf,e1 x (by simp[Op.operands]),he];exact Zaa h1 trivial
   ·exact h.elim
 case indexAddr T x i=>
  split at h
  ·rename_i vi esz v hi hx he
   obtain⟨h1,b,o,h2,h3,h4⟩:=Zah h
   simp only[Bool.and_eq_true]at h1
   refine pure1 _ h4 rfl λS' e1 e2=>?_
   have ju:S'.val i=some vi:=by
    unfold St.val
    rw[e1 i (by simp[Op.operands]),hi];rfl
   simp only[Zca,wv,ju,hx,e1 x (by simp[Op.operands]),he]
   exact Zaa h1.1 (Zaa h1.2 ⟨b,o,h2,h3,rfl⟩)
  ·exact h.elim
end
structure HV where
 i:Nat
 d:Nat
 v:Value
def fill(L:Array Bool):List HV->Act->Act
 | [],a=>a
 | q::vs,a=>fill L vs (bif L.getD q.i false then a else a.put (some q.d) q.v)
theorem ZhY{L:Array Bool}{i:Nat}:∀{vs:List HV} {a:Act},i ∉ vs.map (·.i)->fill (L.setIfInBounds i true) vs a=fill L vs a
 | [],a,_=>rfl
 | q::vs,a,h=>by
  simp only[List.map_cons,List.mem_cons,not_or]at h
  simp only[fill,getD_set_ne false h.1]
  exact ZhY h.2
theorem Zj0{L:Array Bool}{q:HV}(hq:L.getD q.i false=false)(hs:q.i < L.size):∀{vs:List HV} {a:Act},q∈vs->(vs.map (·.i)).Nodup->(vs.map (·.d)).Nodup->fill (L.setIfInBounds q.i true) vs (a.put (some q.d) q.v)=fill L vs a
 | [],a,h,_,_=>by cases h
 | r::vs,a,h,h1,h2=>by
  simp only[List.map_cons,List.nodup_cons]at h1 h2
  simp only[fill]
  by_cases e:r=q
  ·subst e
   rw[ZfT hs,hq,cond_true,cond_false]
   exact ZhY h1.1
  ·have hm:=(List.mem_cons.1 h).resolve_left (λh=>e h.symm)
   have hi:q.i≠r.i:=λh=>h1.1 (h ▸ List.mem_map.2 ⟨q,hm,rfl⟩)
   have hd:q.d≠r.d:=λh=>h2.1 (h ▸ List.mem_map.2 ⟨q,hm,rfl⟩)
   rw[getD_set_ne false hi]
   cases L.getD r.i false with
   | true=>exact Zj0 hq hs hm h1.2 h2.2
   | false=>
    simp only[cond_false]
    rw[Act.put_comm a (x:=some q.d) (y:=some r.d) q.v r.v (λd hd' e=>hd (by cases hd';exact(Option.some.inj e).symm))]
    exact Zj0 hq hs hm h1.2 h2.2
theorem Zq5{L:Array Bool}:∀{vs:List HV} {a:Act},(∀q∈vs,L.getD q.i false=true)->fill L vs a=a
 | [],a,_=>rfl
 | q::vs,a,h=>by
  simp only[fill,h q (by simp),cond_true]
  exact Zq5 λr hr=>h r (by simp[hr])
theorem ZgU{o:Oper}(h:Zpx o=true):∀cs b,o.op≠.select cs b:=λcs b e=>by unfold Zpx at h;rw[e]at h;cases h
theorem ZfU{o:Oper}(h:Zpx o=true):∀c,o.op≠.defer c:=λc e=>by unfold Zpx at h;rw[e]at h;cases h
theorem Zob{ops:Array Oper}{L:Array Bool}{o:Oper}(hs:Zpx o=true):∀{vs:List HV} {a:Act},(∀q∈vs,L.getD q.i false=false->q.d ∉ o.looksAt ops)->execOp (fill L vs a).eval o=execOp a.eval o
 | [],a,_=>rfl
 | q::vs,a,h=>by
  simp only[fill]
  rw[Zob hs (λr hr=>h r (by simp[hr]))]
  cases hl:L.getD q.i false with
  | true=>rfl
  | false=>exact execOp_put (ops:=ops) o (ZgU hs) a (some q.d) q.v (λd hd=>by cases hd;exact h q (by simp) hl)
theorem Zsp{F:Fence}{n:Nat}{P:Program}{ops:Array Oper}{Q:Exit->Act->World->Prop}(hQ:∀c a w,¬Q (.panic c) a w){o:Oper}(hs:Zpx o=true){d:Nat}{v:Value}(h1:d ∉ o.looksAt ops)(h2:o.dst≠some d){a:Act}{w:World}{next:Act->World->Prop}
  (h:o.wpIn F n P (a.put (some d) v) w next Q):o.wpIn F n P a w (λa2 w2=>next (a2.put (some d) v) w2) Q:=by
 have hl:∀e,some d=some e->e ∉ o.looksAt ops:=λe he=>by cases he;exact h1
 have hc:∀u,(a.put (some d) v).put o.dst u=(a.put o.dst u).put (some d) v:=λu=>Act.put_comm a v u (λe he=>by cases he;exact h2)
 unfold Oper.wpIn at *
 rw[about_put (ops:=ops) o w a (some d) v hl]at h
 refine⟨h.1,?_⟩
 have h:=h.2
 rw[Oper.semAt_eq _ _ _ (ZfU hs),execOp_put (ops:=ops) o (ZgU hs) a (some d) v hl]at h
 rw[Oper.semAt_eq _ _ _ (ZfU hs)]
 generalize (execOp a.eval o).run P w=r at *
 cases r with
 | ok x w'=>
  cases x <;> simp only[Oper.uponIn]at h ⊢
  case value u=>rw[<-hc u];exact h
  case skip=>rw[<-hc undef];exact h
  case defer dd=>
   have e:({ a with defers:=dd::a.defers }.put o.dst undef).put (some d) v=({ a.put (some d) v with defers:=dd::(a.put (some d) v).defers }:Act).put o.dst undef:=by
    rw[Act.put_defers a (some d) v dd,Act.put_comm { a with defers:=dd::a.defers } v undef (λe he=>by cases he;exact h2)]
   rw[e];exact h
  case enter f args=>
   refine⟨h.1,CallsIn.mono h.2 λe w'' he=>?_⟩
   cases e with
   | returned u=>show next _ _;rw[<-hc u];exact he
   | panicked c=>exact(hQ _ _ _ he).elim
   | outgrown=>exact he
  case row row args=>exact⟨h.1,RowsIn.mono h.2 λu w'' he=>by rw[<-hc u];exact he⟩
  case round l f tmps assign body=>
   refine⟨h.1,RoundIn.mono h.2 λe w'' he=>?_⟩
   cases e with
   | returned u=>show next _ _;rw[<-hc u];exact he
   | panicked c=>exact(hQ _ _ _ he).elim
   | outgrown=>exact he
 | halt x w'=>
  cases x <;> simp only[Oper.uponIn]at h ⊢
  case panic u=>exact(hQ _ _ _ h).elim
theorem Zoc{F:Fence}{n:Nat}{P:Program}{ops:Array Oper}{Q:Exit->Act->World->Prop}(hQ:∀c a w,¬Q (.panic c) a w){o:Oper}(hs:Zpx o=true){L:Array Bool}{w:World}:∀{vs:List HV} {a:Act} {next:Act->World->Prop},
  (∀q∈vs,L.getD q.i false=false->q.d ∉ o.looksAt ops/\o.dst≠some q.d)->o.wpIn F n P (fill L vs a) w next Q->o.wpIn F n P a w (λa2 w2=>next (fill L vs a2) w2) Q
 | [],a,next,_,h=>h
 | q::vs,a,next,hv,h=>by
  simp only[fill]at h ⊢
  have h1:=Zoc hQ hs (λr hr=>hv r (by simp[hr])) h
  cases hl:L.getD q.i false with
  | true=>simp only[hl,cond_true]at h1 ⊢;exact h1
  | false=>
   simp only[hl,cond_false]at h1 ⊢
   obtain⟨g1,g2⟩:=hv q (by simp) hl
   exact Zsp (ops:=ops) hQ hs g1 g2 h1
theorem ZcT:∀{l:List Oper},(ZaD l).Nodup->∀{i j:Nat} {o o':Oper} {t:Nat},l[i]?=some o->l[j]?=some o'->o.dst=some t->o'.dst=some t->i=j
 | [],_,i,j,o,o',t,h,_,_,_=>by simp at h
 | x::l,hn,0,0,_,_,_,_,_,_,_=>rfl
 | x::l,hn,0,j+1,o,o',t,h1,h2,h3,h4=>by
  simp at h1 h2;subst h1
  simp only[ZaD,h3,List.nodup_cons]at hn
  exact absurd (ZaO h2 h4) hn.1
 | x::l,hn,i+1,0,o,o',t,h1,h2,h3,h4=>by
  simp at h1 h2;subst h2
  simp only[ZaD,h4,List.nodup_cons]at hn
  exact absurd (ZaO h1 h3) hn.1
 | x::l,hn,i+1,j+1,o,o',t,h1,h2,h3,h4=>by
  simp at h1 h2
  have:(ZaD l).Nodup:=by
   unfold ZaD at hn
   split at hn
   ·exact hn
   ·exact(List.nodup_cons.1 hn).2
  rw[ZcT this h1 h2 h3 h4]
theorem ZeH{ops:Array Oper}:∀{l prev:List Nat},Zji ops prev l=true->∀(i:Nat) o,i∈l->ops.toList[i]?=some o->∀t∈o.looksAt ops,t∈ZaD ops.toList->∃j∈Zb3 o,∃oj,ops.toList[j]?=some oj/\oj.dst=some t/\(j∈prev\/j∈l)
 | [],prev,_,i,o,h,_,_,_,_=>by cases h
 | k::l,prev,h,i,o,hi,ho,t,ht,jv=>by
  simp only[Zji,Bool.and_eq_true]at h
  rcases List.mem_cons.1 hi with rfl|hi
  ·have h1:=h.1
   rw[ho]at h1
   simp only[Bool.and_eq_true,List.all_eq_true,Bool.or_eq_true,List.any_eq_true]at h1
   rcases h1.2 t ht with h2|⟨j,hj,h2,h3⟩
   ·rw[ZaQ.2 jv]at h2;cases h2
   ·cases jn:ops.toList[j]? with
    | none=>simp[jn]at h3
    | some oj=>
     simp only[jn]at h3
     exact⟨j,ZaQ.1 h2,oj,jn,Zco.1 h3,.inl hj⟩
  ·obtain⟨j,h1,oj,h2,h3,h4⟩:=ZeH h.2 i o hi ho t ht jv
   refine⟨j,h1,oj,h2,h3,?_⟩
   rcases h4 with h4|h4
   ·rcases List.mem_cons.1 h4 with rfl|h4
    ·exact .inr (by simp)
    ·exact .inl h4
   ·exact .inr (by simp[h4])
theorem Zod{ops:Array Oper}{p:Nat->Prop}(hc:∀i,p i->∀j∈Zdm ops i,p j){l:List Nat}(hl:∀j∈l,p j):∀j∈ZyU ops l,p j:=by
 unfold ZyU
 have:∀(r acc:List Nat),(∀j∈acc,p j)->∀j∈r.foldl (λacc i=>bif mem acc i then(match ops.toList[i]? with
  | some o=>Zb3 o++acc
  | none=>acc)else acc) acc,p j:=by
  intro r
  induction r with
  | nil=>intro acc h;exact h
  | cons i r ih=>
   intro acc h
   simp only[List.foldl_cons]
   refine ih _ λj hj=>?_
   cases hm:mem acc i with
   | false=>rw[hm]at hj;exact h j hj
   | true=>
    rw[hm]at hj
    cases ho:ops.toList[i]? with
    | none=>simp only[ho,cond_true]at hj;exact h j hj
    | some o=>
     simp only[ho,cond_true]at hj
     rcases List.mem_append.1 hj with hj|hj
     ·exact hc i (h i (ZaQ.1 hm)) j (by unfold Zdm;rw[ho];exact hj)
     ·exact h j hj
 exact this _ _ hl
theorem Znp{E:Env}{ops:Array Oper}{H:List Nat}:∀{T:List Nat},Zv5 E ops H T=true->∀(k p t:Nat),T[k]?=some p->T[k+1]?=some t->p∈Zdm ops t/\(ZyV E ops t=true\/∀j∈H,j∈ZyU ops (Zdm ops t))
 | [],_,k,p,t,h,_=>by simp at h
 | [x],_,k,p,t,_,h=>by simp at h
 | x::y::r,h,k,p,t,h1,h2=>by
  simp only[Zv5,Bool.and_eq_true,Bool.or_eq_true,List.all_eq_true]at h
  cases k with
  | zero=>
   simp at h1 h2;subst h1 h2
   exact⟨ZaQ.1 h.1,h.2.1.imp id λh j hj=>ZaQ.1 (h j hj)⟩
  | succ k=>exact Znp h.2.2 k p t (by simpa using h1) (by simpa using h2)
theorem ZyW{p:Nat->Prop}(h:∃i,p i):∃i,p i/\∀j,j < i->¬p j:=by
 classical
 obtain⟨i,hi⟩:=h
 induction i using Nat.strongRecOn with
 | _ i ih=>
  by_cases hh:∃j,j < i/\p j
  ·obtain⟨j,h1,h2⟩:=hh;exact ih j h1 h2
  ·exact⟨i,hi,λj hj hp=>hh ⟨j,hj,hp⟩⟩
theorem ZhZ{ops:Array Oper}{T:List Nat}{p i:Nat}{o:Oper}(hi:T[p]?=some i)(ho:ops.toList[i]?=some o):ZdT ops (T.drop p)=o::ZdT ops (T.drop (p+1)):=by
 have:T.drop p=i::T.drop (p+1):=by
  have bB:=(List.getElem?_eq_some_iff.1 hi).1
  rw[List.drop_eq_getElem_cons bB]
  congr 1
  simpa[List.getElem?_eq_getElem bB]using hi
 rw[this,ZdT,ho]
section
variable {C:Ctx} {m:Mem} {a:Act} {w:World}
theorem ZlH{E:Env}(hE:E.ok)(hY:YOk E C){ops:Array Oper}{chg:List Nat}(bB:Zlm C.n ops.toList=true)(eJ:(ZaD ops.toList).Nodup){L0:Array Bool}(rD:∀j,L0.getD j false=false){k:St->Prop}:∀{l prev:List Nat} {S:St} {a:Act},Rel C S m a w->Zsh E ops chg l k S->Zji ops prev l=true->l.Nodup->(∀j∈prev,j ∉ l)->
  ∃X vs,k X/\vs.map HV.i=l/\(vs.map HV.d).Nodup/\Rel C X m (fill L0 vs a) w/\X.L=S.L/\(∀t,t ∉ vs.map HV.d->X.env t=S.env t)/\∀q∈vs,∃o,ops.toList[q.i]?=some o/\o.dst=some q.d/\Stab E C ops chg X o q.v
 | [],prev,S,a,hr,h,_,_,_=>⟨S,[],h,rfl,by simp,hr,rfl,λ_ _=>rfl,by simp⟩
 | i::l,prev,S,a,hr,h,cV,hn,hp=>by
  unfold Zsh at h
  cases ho:ops.toList[i]? with
  | none=>simp[ho]at h
  | some o=>
   simp only[ho]at h
   have uD:=cV
   simp only[Zji,ho,Bool.and_eq_true,List.all_eq_true,Bool.or_eq_true,List.any_eq_true]at cV
   obtain⟨d,hd⟩:=Option.isSome_iff_exists.1 cV.1.1
   obtain⟨sv,v,h1,h2,h3⟩:=Zp8 hE hY (ops:=ops) hr h
   rw[hd]at h1
   have dR:=hr.put (some d) (λt e=>by cases e;exact Zdh bB i o ho d hd) h2
   obtain⟨kN,jM⟩:=List.nodup_cons.1 hn
   obtain⟨X,vs,g1,g2,g3,g4,g5,g6,g7⟩:=ZlH hE hY bB eJ rD dR h1 cV.2 jM (λj hj=>by
    rcases List.mem_cons.1 hj with rfl|hj
    ·exact kN
    ·exact λhm=>hp j hj (List.mem_cons_of_mem _ hm))
   have dOf:∀t,t∈vs.map HV.d->∃j oj,j∈l/\ops.toList[j]?=some oj/\oj.dst=some t:=λt ht=>by
    obtain⟨q,hq,rfl⟩:=List.mem_map.1 ht
    obtain⟨oq,q1,q2,_⟩:=g7 q hq
    exact⟨q.i,oq,by rw[<-g2];exact List.mem_map.2 ⟨q,hq,rfl⟩,q1,q2⟩
   have nB:d ∉ vs.map HV.d:=λhm=>by
    obtain⟨j,oj,hj,jn,lK⟩:=dOf d hm
    have:=ZcT eJ ho jn hd lK
    exact kN (this ▸ hj)
   refine⟨X,⟨i,d,v⟩::vs,g1,by simp[g2],by simp only[List.map_cons,List.nodup_cons];exact⟨nB,g3⟩,?_,g5.trans (ZtH _ _ _),λt ht=>?_,λq hq=>?_⟩
   ·simp only[fill,rD,cond_false];exact g4
   ·simp only[List.map_cons,List.mem_cons,not_or]at ht
    rw[g6 t ht.2];simp[St.put,Zar ht.1]
   ·rcases List.mem_cons.1 hq with rfl|hq
    ·refine⟨o,ho,hd,h3.next (λt ht=>?_) (λid _=>by rw[g5,ZtH])⟩
     have p7:t≠d/\t ∉ vs.map HV.d:=by
      by_cases jv:t∈ZaD ops.toList
      ·rcases cV.1.2 t ht with h4|⟨j,hj,h5,h6⟩
       ·rw[ZaQ.2 jv]at h4;cases h4
       ·cases jn:ops.toList[j]? with
        | none=>simp[jn]at h6
        | some oj=>
         simp only[jn]at h6
         have lK:=Zco.1 h6
         refine⟨λe=>?_,λhm=>?_⟩
         ·subst e
          have:=ZcT eJ ho jn hd lK
          exact hp j hj (by simp[this])
         ·obtain⟨j',oj',hj',mN,mO⟩:=dOf t hm
          have:=ZcT eJ jn mN lK mO
          exact hp j hj (by simp[this,hj'])
      ·refine⟨λe=>jv (e ▸ ZaO ho hd),λhm=>?_⟩
       obtain⟨j',oj',hj',mN,mO⟩:=dOf t hm
       exact jv (ZaO mN mO)
     rw[g6 t p7.2];simp[St.put,Zar p7.1]
    ·exact g7 q hq
theorem Zuy{E:Env}{ops:Array Oper}{i:Nat}{o:Oper}(ho:ops.toList[i]?=some o)(ht:ZyV E ops i=true)(hg:o.guard=none){S:St}{m:Mem}{K:St->Mem->Prop}(h:opG E ops o S m K):
  opG E ops o S m λS' m'=>K S' m'/\∀id,o.dst≠some id->S'.L id=S.L id:=by
 unfold ZyV at ht
 rw[ho]at ht
 simp only at ht
 unfold opG at *
 simp only[hg]at h ⊢
 obtain⟨dst,op,type,pos,after,guard⟩:=o
 cases op <;> simp only at ht <;> try cases ht
 case buildSlice T len parts=>
  have fA:=Option.isNone_iff_eq_none.1 ht
  simp only[opW,fA,Zde]at h ⊢
  cases dst with
  | none=>exact h
  | some d=>
   simp only at h ⊢
   split at h
   ·exact h
   ·split at h
    ·split at h
     ·exact h
     ·split at h
      ·exact h
      ·refine Zaj (λy=>ZbU (λvs y=>Zaj (λy b hb=>⟨y b hb,λid dH=>?_⟩) y) y) h
       have:id≠d:=λe=>dH (by rw[e])
       simp[St.newL,St.put,Zar this]
    ·exact h
 case call q=>
  cases hq:q.callee with
  | value f=>simp[hq]at ht
  | invoke r n=>simp[hq]at ht
  | builtin b=>
   cases b <;> simp only[hq]at ht <;> try cases ht
   case builtin.len.intro=>
    simp only[opW,hq]at h ⊢
    exact ZhS (λsv y=>⟨y,λid _=>by rw[ZtH]⟩) h
   case builtin.append=>
    simp only[opW,hq]at h ⊢
    split at h
    ·rename_i s x T xT d e1 e2
     unfold Zvo at *
     simp only[ZhX ht]at h ⊢
     exact Zas (λv y=>Zas (λv' y=>ZeC (λv tk m' _ z=>⟨z,λid _=>by rw[ZtH]⟩) y) y) h
    ·exact h
theorem Zsq{E:Env}{ops:Array Oper}{i:Nat}{o:Oper}(ho:ops.toList[i]?=some o)(hc:Zlx E ops i=true)(hg:o.guard=none){S:St}{m:Mem}{K:St->Mem->Prop}
  (hl:∀q,o.op=.call q->ZdN S q.args.toList=[]) (h:opG E ops o S m K):opG E ops o S m λS' m'=>K S' m'/\∀id,id ∉ Zc0 E o.dst->S'.L id=S.L id:=by
 unfold Zlx at hc
 rw[ho]at hc
 simp only at hc
 unfold opG at *
 simp only[hg]at h ⊢
 cases ji:o.op with
 | call q=>
  simp only[ji]at hc
  have hl:=hl q ji
  cases hq:q.callee with
  | invoke r n=>simp[hq]at hc
  | builtin b=>simp[hq]at hc
  | value f=>
   simp only[hq,Bool.and_eq_true]at hc
   obtain⟨hf,iX,jt,jx⟩:=hc
   have jx:ZqM E o.dst=false:=by simpa using jx
   obtain⟨ks,lb⟩:=Option.isSome_iff_exists.1 iX
   have jt:=ZhX jt
   obtain⟨g0,rfl⟩:∃g0,f=.func g0:=by
    cases f <;> simp[Zyc]at hf
    exact⟨_,rfl⟩
   unfold opW at *
   simp only[ji,hq]at h ⊢
   unfold Zvo at *
   simp only[jt]at h ⊢
   unfold Zvq at *
   simp only[St.ev,lb,jx,cond_false]at h ⊢
   cases cX:E.fix with
   | some f=>simp[cX]at h
   | none=>
    simp only[cX,Option.isSome_none,cond_false]at h ⊢
    refine ZbU (λvs y=>?_) h
    rw[hl]at y ⊢
    refine Zje (λv S' m' _ z=>⟨z.1,λid dH=>?_⟩) (Zp7 y)
    rw[ZtH]
    exact z.2 id (by simpa using dH)
 | _=>simp[ji]at hc
theorem Zwa{E:Env}(hE:E.ok){F:Fence}(hF:FOk F)(hY:YOk E C){ops:Array Oper}(bB:Zlm C.n ops.toList=true){id n:Nat}{Q:Exit->Act->World->Prop}(hQ:∀c a w,¬Q (.panic c) a w){K:St->Mem->Prop}
  (over:∀(fuel:Nat)(listed:Array Bool)(S':St)(m':Mem)(a':Act)(w':World),listed.size=ops.size->(∀j,j < ops.size->listed.getD j false=true)->K S' m'->Rel C S' m' a' w'->wpAnyIn F n E.P .any ops Q fuel listed a' w')
  {H T:List Nat} {S:St} (hr:Rel C S m a w) (h:Zyf E id H T ops K S m):wpAnyIn F n E.P .any ops Q ops.size (Array.replicate ops.size false) a w:=by
 unfold Zyf at h
 obtain⟨h1,h2⟩:=Zah h
 simp only[Bool.and_eq_true]at h1
 have cV:=h1.2.2
 simp only[Zyd,Bool.and_eq_true,List.all_eq_true]at cV
 obtain⟨⟨⟨⟨⟨rE,iQ,oG⟩,eJ,uE⟩,oH⟩,dN,uF⟩,oI,ib⟩:=cV
 have rE:=ZaB rE
 have eJ:=ZaB eJ
 obtain⟨s6,uG,oJ⟩:=List.nodup_append.1 rE
 have iQ:∀i,i < ops.size->i∈H\/i∈T:=λi hi=>List.mem_append.1 (ZaQ.1 (iQ i (List.mem_range.2 hi)))
 have none0:∀j,(Array.replicate ops.size false).getD j false=false:=λj=>by simp[Array.getD]
 obtain⟨X0,vs,h3,ju,nV,qk,we,_,fu⟩:=ZlH hE hY bB eJ none0 hr h2 dN s6 (by simp)
 have rF:(vs.map HV.i).Nodup:=by rw[ju];exact s6
 have rG:∀(i:Nat) o,ops[i]?=some o->ops.toList[i]?=some o:=λi o h=>by simpa using h
 have uH:∀(i:Nat) o,ops.toList[i]?=some o->o.guard=none/\Zpx o=true:=λi o ho=>by
  have:=uE o (List.mem_of_getElem? ho)
  exact⟨Option.isNone_iff_eq_none.1 this.1,this.2⟩
 have kS:∀(i:Nat),i < ops.size->∀j∈Zdm ops i,j < i:=λi hi j hj=>Zls (oH i (List.mem_range.2 hi) j hj)
 have pat:∀{i:Nat} {o:Oper},ops.toList[i]?=some o->Zdm ops i=Zb3 o:=λho=>by unfold Zdm;rw[ho]
 have noUn:∀{listed:Array Bool} {i:Nat} {o:Oper},ops.toList[i]?=some o->(∀j∈Zb3 o,listed.getD j false=true)->∀q∈vs,listed.getD q.i false=false->q.d ∉ o.looksAt ops:=λ{listed i o} ho hp q hq iF hm=>by
  obtain⟨oq,q1,q2,_⟩:=fu q hq
  have oK:q.i∈H:=by rw[<-ju];exact List.mem_map.2 ⟨q,hq,rfl⟩
  have hi:i < ops.size:=by
   have:=(List.getElem?_eq_some_iff.1 ho).1
   simpa using this
  rcases iQ i hi with li|oL
  ·obtain⟨j,hj,oj,jn,lK,_⟩:=ZeH dN i o li ho q.d hm (ZaO q1 q2)
   have:=ZcT eJ q1 jn q2 lK
   rw[this,hp j hj]at iF;cases iF
  ·have h4:=uF i oL
   rw[ho]at h4
   simp only[List.all_eq_true]at h4
   have h5:=h4 q.i oK
   rw[q1]at h5
   simp only[Bool.or_eq_true]at h5
   rcases h5 with h5|h5
   ·simp only[Zn3,q2,Bool.not_eq_true']at h5
    rw[ZaQ.2 hm]at h5;cases h5
   ·rw[hp q.i (ZaQ.1 h5)]at iF;cases iF
 have dstH:∀{i:Nat} {o:Oper},i ∉ H->ops.toList[i]?=some o->∀q∈vs,o.dst≠some q.d:=λ{i o} hi ho q hq e=>by
  obtain⟨oq,q1,q2,_⟩:=fu q hq
  have:=ZcT eJ q1 ho q2 e
  exact hi (by rw[<-this,<-ju];exact List.mem_map.2 ⟨q,hq,rfl⟩)
 have prd:∀{o:Oper} {listed:Array Bool},(∀e∈o.after,Region.binds .any e=true->listed.getD e.on false=true)->∀j∈Zb3 o,listed.getD j false=true:=λ{o listed} gY j hj=>by
  simp only[Zb3,List.mem_map,List.mem_filter]at hj
  obtain⟨e,⟨he,hb⟩,rfl⟩:=hj
  exact gY e (by simpa using he) hb
 have prd':∀{o:Oper} {listed:Array Bool},(∀j∈Zb3 o,listed.getD j false=true)->∀e∈o.after,Region.binds .any e=true->listed.getD e.on false=true:=λ{o listed} gY e he hb=>gY e.on (by
  simp only[Zb3,List.mem_map,List.mem_filter]
  exact⟨e,⟨by simpa using he,hb⟩,rfl⟩)
 have s7:∃c oc q,T[0]?=some c/\ops.toList[c]?=some oc/\oc.op=.call q/\Zlx E ops c=true:=by
  cases T with
  | nil=>simp at ib
  | cons c T=>
   simp only at ib
   have h5:=ib
   unfold Zlx at h5
   cases la:ops.toList[c]? with
   | none=>simp[la]at h5
   | some oc=>
    simp only[la]at h5
    cases ji:oc.op <;> simp only[ji]at h5 <;> try cases h5
    exact⟨c,oc,_,rfl,la,ji,ib⟩
 obtain⟨c,oc,qc,qm,la,nC,iX⟩:=s7
 have oM:ZdT ops T=oc::ZdT ops (T.drop 1):=ZhZ (p:=0) qm la
 rw[oM]at h3
 simp only[nC]at h3
 obtain⟨h4,h5⟩:=Zah h3
 have h4:=ZhX h4
 have mM:∀(k i:Nat) o d,T[k]?=some i->ops.toList[i]?=some o->o.dst=some d->d∈Zye E ops T:=λk i o d hk ho hd=>by
  unfold Zye
  refine List.mem_append_right _ ?_
  have:ZdT ops (T.drop k)=o::ZdT ops (T.drop (k+1)):=ZhZ hk ho
  have sub:∀(l:List Nat)(k:Nat),∀o∈ZdT ops (l.drop k),(∀i∈l,∃o,ops.toList[i]?=some o)->o∈ZdT ops l:=by
   intro l
   induction l with
   | nil=>intro k o h _;simp[ZdT]at h
   | cons x l ih=>
    intro k o h cQ
    cases k with
    | zero=>exact h
    | succ k=>
     obtain⟨ox,kX⟩:=cQ x (by simp)
     simp only[List.drop_succ_cons]at h
     simp only[ZdT,kX]
     exact List.mem_cons_of_mem _ (ih k o h (λi hi=>cQ i (by simp[hi])))
  have cP:o∈ZdT ops T:=sub T k o (by rw[this];simp) (λi hi=>by
   have:=Zls (oG i (List.mem_append_right _ hi))
   exact⟨ops[i],by simp[this]⟩)
  obtain⟨i',hi'⟩:=List.getElem?_of_mem cP
  exact ZaO hi' hd
 have main:∀(fuel:Nat)(listed:Array Bool)(p:Nat)(X:St)(m':Mem)(a':Act)(w':World),listed.size=ops.size->(∀i,listed.getD i false=true->∀j∈Zdm ops i,listed.getD j false=true)->
   (∀(k i:Nat),k < p->T[k]?=some i->listed.getD i false=true)->(∀(k i:Nat),p<=k->T[k]?=some i->listed.getD i false=false)->
   ((List.range ops.size).countP λj=>!listed.getD j false)<=fuel->(∀q∈vs,listed.getD q.i false=false->∀o,ops.toList[q.i]?=some o->Stab E C ops (Zye E ops T) X o q.v)->
   ((p=0/\X=X0/\m'=m)\/(0 < p/\Zib E ops K (ZdT ops (T.drop p)) X m'))->Rel C X m' (fill listed vs a') w'->wpAnyIn F n E.P .any ops Q fuel listed a' w':=by
  intro fuel
  have fin:∀(fuel:Nat)(listed:Array Bool)(p:Nat)(X:St)(m':Mem)(a':Act)(w':World),(∀j,j < ops.size->listed.getD j false=true)->listed.size=ops.size->(∀(k i:Nat),p<=k->T[k]?=some i->listed.getD i false=false)->
    ((p=0/\X=X0/\m'=m)\/(0 < p/\Zib E ops K (ZdT ops (T.drop p)) X m'))->Rel C X m' (fill listed vs a') w'->wpAnyIn F n E.P .any ops Q fuel listed a' w':=by
   intro fuel listed p X m' a' w' cQ cE jJ hk bP
   have lL:∀k i,T[k]?=some i->listed.getD i false=true:=λk i hk=>cQ i (Zls (oG i (List.mem_append_right _ (List.mem_of_getElem? hk))))
   have hp:T.length<=p:=Nat.le_of_not_lt λbB=>by
    have:=jJ p T[p] (Nat.le_refl _) (List.getElem?_eq_getElem bB)
    rw[lL p T[p] (List.getElem?_eq_getElem bB)]at this;cases this
   have uI:fill listed vs a'=a':=Zq5 λq hq=>by
    obtain⟨oq,q1,_⟩:=fu q hq
    have:=(List.getElem?_eq_some_iff.1 q1).1
    exact cQ q.i (by simpa using this)
   rw[uI]at bP
   rcases hk with⟨rfl,_⟩|⟨_,hk⟩
   ·have:=jJ 0 c (Nat.le_refl _) qm
    rw[lL 0 c qm]at this;cases this
   ·rw[List.drop_eq_nil_of_le hp]at hk
    exact over fuel listed X m' a' w' cE cQ hk bP
  induction fuel with
  | zero=>
   intro listed p X m' a' w' cE fO oN jJ lM lj hk bP
   refine fin 0 listed p X m' a' w' (λj hj=>?_) cE jJ hk bP
   have:=List.countP_eq_zero.1 (Nat.le_zero.1 lM) j (List.mem_range.2 hj)
   simpa using this
  | succ fuel ih=>
   intro listed p X m' a' w' cE fO oN jJ lM lj hk bP
   by_cases cQ:∀j,j < ops.size->listed.getD j false=true
   ·exact fin _ listed p X m' a' w' cQ cE jJ hk bP
   have dec:∀{i:Nat},i < ops.size->listed.getD i false=false->((List.range ops.size).countP λj=>!(listed.setIfInBounds i true).getD j false)<=fuel:=λ{i} hi iF=>by
    have:=Zjl (p:=λj=>!listed.getD j false) (q:=λj=>!(listed.setIfInBounds i true).getD j false) (i:=i) (by simp[iF]) (λj=>by
     by_cases e:j=i
     ·subst e;rw[ZfT (by omega),Zew];simp
     ·rw[getD_set_ne false (Ne.symm e),Zar e];simp) List.nodup_range (List.mem_range.2 hi)
    omega
   refine⟨λeA=>?_,λi hi=>?_⟩
   ·exfalso
    obtain⟨i,hi,iM⟩:=ZyW (p:=λi=>i < ops.size/\listed.getD i false=false) (by
     have:∃j,¬(j < ops.size->listed.getD j false=true):=Classical.not_forall.1 cQ
     obtain⟨j,hj⟩:=this
     obtain⟨h6,h7⟩:=Classical.not_imp.1 hj
     exact⟨j,h6,by simpa using h7⟩)
    have hl:i < listed.size:=by omega
    have:i∈Region.ready .any ops listed:=mem_ready.2 ⟨by have:=hi.2;simp[Array.getD,hl]at this ⊢;exact this,ops[i],by simp[hi.1],prd' λj hj=>by
     have oO:=kS i hi.1 j (by rw[pat (o:=ops[i]) (by simp[hi.1])];exact hj)
     have:=iM j oO
     cases hb:listed.getD j false with
     | true=>rfl
     | false=>exact absurd ⟨by omega,hb⟩ this⟩
    rw[eA]at this;simp at this
   obtain⟨iF,o,ho',gY⟩:=mem_ready.1 hi
   have hi':i < ops.size:=(Array.getElem?_eq_some_iff.1 ho').1
   have hl:i < listed.size:=by omega
   have iR:listed.getD i false=false:=by simp[Array.getD,hl]at iF ⊢;exact iF
   have gY:=prd gY
   have ho:=rG i o ho'
   obtain⟨hg,rH⟩:=uH i o ho
   have oP:∀k,(listed.setIfInBounds i true).getD k false=true->∀j∈Zdm ops k,(listed.setIfInBounds i true).getD j false=true:=λk hk j hj=>by
    by_cases e:k=i
    ·subst e
     rw[pat ho]at hj
     exact getD_set_true (gY j hj)
    ·rw[getD_set_ne false (Ne.symm e)]at hk
     exact getD_set_true (fO k hk j hj)
   unfold wpOpIn
   simp only[ho']
   have hw:Region.wanted o (yielded ops a'.tmps)=true:=by unfold Region.wanted;rw[hg]
   rw[if_pos hw]
   have s8:=noUn ho gY
   by_cases li:i∈H
   ·
    obtain⟨q,hq,rfl⟩:∃q∈vs,q.i=i:=by
     rw[<-ju]at li
     obtain⟨q,h6,h7⟩:=List.mem_map.1 li
     exact⟨q,h6,h7⟩
    obtain⟨oq,q1,q2,_⟩:=fu q hq
    rw[ho]at q1;cases q1
    have bS:=lj q hq iR o ho X m' _ w' bP (λ_ _=>rfl) (λ_ _=>rfl)
    rw[Zob (ops:=ops) rH s8]at bS
    refine⟨λf _=>hF.fn f,?_⟩
    rw[Oper.semAt_eq _ _ _ (ZfU rH),bS]
    show wpAnyIn F n E.P .any ops Q fuel (listed.setIfInBounds q.i true) (a'.put o.dst q.v) w'
    rw[q2]
    have oL:∀(k j:Nat),T[k]?=some j->q.i≠j:=λk j hk e=>oJ q.i li j (List.mem_of_getElem? hk) e
    refine ih _ p X m' _ w' (by simpa using cE) oP (λk j h6 h7=>getD_set_true (oN k j h6 h7)) (λk j h6 h7=>by rw[getD_set_ne false (oL k j h7)];exact jJ k j h6 h7) (dec hi' iR) (λr hr s9 oo rI=>lj r hr (by
     by_cases e:r.i=q.i
     ·rw[e];exact iR
     ·rw[getD_set_ne false (Ne.symm e)]at s9;exact s9) oo rI) hk ?_
    rw[Zj0 iR hl hq rF nV];exact bP
   ·
    have oL:=(iQ i hi').resolve_left li
    obtain⟨k,jK⟩:=List.getElem?_of_mem oL
    have wg:p<=k:=Nat.le_of_not_lt λbB=>by
     have:=oN k i bB jK
     rw[iR]at this;cases this
    have rJ:k=p:=by
     rcases Nat.lt_or_ge p k with bB|dB
     ·exfalso
      obtain⟨k,rfl⟩:∃k',k=k'+1:=⟨k - 1,by omega⟩
      have rK:=(List.getElem?_eq_some_iff.1 jK).1
      have gk:T[k]?=some T[k]:=List.getElem?_eq_getElem (by omega)
      have:=(Znp oI k T[k] i gk jK).1
      rw[pat ho]at this
      have h6:=gY _ this
      rw[jJ k T[k] (by omega) gk]at h6;cases h6
     ·omega
    subst rJ
    have kj:=ZhZ jK ho
    have ji:opG E ops o X m' λS2 m2=>Zib E ops K (ZdT ops (T.drop (k+1))) S2 m2/\SameOut (dl o.dst) X S2/\((∀id,id ∉ Zye E ops T->S2.L id=X.L id)\/∀q∈vs,listed.getD q.i false=true):=by
     have so:∀{K:St->Mem->Prop},opG E ops o X m' K->opG E ops o X m' λS2 m2=>K S2 m2/\SameOut (dl o.dst) X S2:=λ{K} y=>Zdo (th:=true) (.inl rfl) (λS' m' hs _ z=>⟨z,hs⟩) y
     have gb:∀{K:St->Mem->Prop},ZvO E ops o X m' K->opG E ops o X m' K:=λ{K} y=>by
      unfold ZvO Zee at y
      simp only[hg]at y;exact y
     rcases hk with⟨rfl,rfl,rfl⟩|⟨uo,hk⟩
     ·rw[qm]at jK;cases jK
      rw[la]at ho;cases ho
      refine Zdo (th:=true) (.inl rfl) (λS2 m2 _ _ z=>⟨z.1.1,z.1.2,.inl λid dH=>z.2 id λhm=>dH (by unfold Zye;rw[oM];exact List.mem_append_left _ hm)⟩) (Zsq la iX hg (λq hq=>by rw[nC]at hq;cases hq;exact h4) (so (gb h5)))
     ·rw[kj]at hk
      simp only[Zib]at hk
      have h6:=so (gb hk)
      obtain⟨k,rfl⟩:∃k',k=k'+1:=⟨k - 1,by omega⟩
      have rK:=(List.getElem?_eq_some_iff.1 jK).1
      rcases(Znp oI k T[k] i (List.getElem?_eq_getElem (by omega)) jK).2 with h7|h7
      ·refine Zdo (th:=true) (.inl rfl) (λS2 m2 _ _ z=>⟨z.1.1,z.1.2,.inl λid dH=>z.2 id λhm=>dH (mM _ i o id jK ho hm)⟩) (Zuy ho h7 hg h6)
      ·refine Zdo (th:=true) (.inl rfl) (λS2 m2 _ _ z=>⟨z.1,z.2,.inr λq hq=>?_⟩) h6
       have oK:q.i∈H:=by rw[<-ju];exact List.mem_map.2 ⟨q,hq,rfl⟩
       exact Zod (p:=λj=>listed.getD j false=true) fO (by rw[pat ho];exact gY) q.i (h7 q.i oK)
    have km:=Zeg hE hF hY (Zdh bB _ o ho) bP ji (n:=n) (Q:=Q) (next:=λaF w2=>∀a2,fill listed vs a2=aF->wpAnyIn F n E.P .any ops Q fuel (listed.setIfInBounds i true) a2 w2) (λS2 m2 aF w2 ⟨z1,z2,z3⟩ ko a2 uJ=>by
     subst uJ
     have oQ:i ∉ vs.map HV.i:=by rw[ju];exact li
     refine ih _ (k+1) S2 m2 a2 w2 (by simpa using cE) oP (λk' j h6 h7=>?_) (λk' j h6 h7=>?_) (dec hi' iR) (λq hq nD oq td=>?_) (.inr ⟨by omega,z1⟩) (by rw[ZhY oQ];exact ko)
     ·by_cases e:k'=k
      ·subst e
       rw[jK]at h7;cases h7
       exact ZfT hl
      ·exact getD_set_true (oN k' j (by omega) h7)
     ·have dU:i≠j:=λe=>by
       subst e
       have:=(List.getElem?_inj (i:=k) (j:=k') (List.getElem?_eq_some_iff.1 jK).1 uG).1 (by rw[jK,h7])
       omega
      rw[getD_set_ne false dU];exact jJ k' j (by omega) h7
     ·have uK:q.i≠i:=λe=>oQ (e ▸ List.mem_map.2 ⟨q,hq,rfl⟩)
      rw[getD_set_ne false (Ne.symm uK)]at nD
      rcases z3 with z3|z3
      ·refine(lj q hq nD oq td).next (λt ht=>z2 t λhm=>?_) z3
       have jv:o.dst=some t:=by
        cases hd:o.dst with
        | none=>simp[hd,dl]at hm
        | some d=>simp[hd,dl]at hm;rw[hm]
       have oK:q.i∈H:=by rw[<-ju];exact List.mem_map.2 ⟨q,hq,rfl⟩
       obtain⟨j,_,oj,jn,lK,hj⟩:=ZeH dN q.i oq oK td t ht (ZaO ho jv)
       have:=ZcT eJ ho jn jv lK
       rcases hj with hj|hj
       ·cases hj
       ·exact li (this ▸ hj)
      ·rw[z3 q hq]at nD;cases nD)
    have uL:Region.wanted o (yielded ops (fill listed vs a').tmps)=true:=by unfold Region.wanted;rw[hg]
    rw[if_pos uL]at km
    have:=Zoc (ops:=ops) hQ rH (λq hq nD=>⟨s8 q hq nD,dstH li ho q hq⟩) km
    exact Oper.wpIn_mono (λa2 w2 z=>z a2 rfl) this
 refine main ops.size _ 0 X0 m a w (by simp) (λi hi=>by rw[none0]at hi;cases hi) (λk i hk=>by omega) (λk i _ _=>none0 i) ?_ (λq hq _ o ho=>by
  obtain⟨oq,q1,_,q3⟩:=fu q hq
  rw[ho]at q1;cases q1;exact q3) (.inl ⟨rfl,rfl,rfl⟩) qk
 have:=List.countP_le_length (p:=λj=>!(Array.replicate ops.size false).getD j false) (l:=List.range ops.size)
 simpa using this
end
theorem Zj1:∀{l:List DOp} {p j:Nat},j∈Zyb l p->∃c∈l,c.i=p/\j∈c.an
 | [],p,j,h=>by simp[Zyb]at h
 | d::l,p,j,h=>by
  simp only[Zyb]at h
  cases hb:Nat.beq d.i p with
  | true=>simp only[hb,cond_true]at h;exact⟨d,by simp,Nat.eq_of_beq_eq_true hb,h⟩
  | false=>
   simp only[hb,cond_false]at h
   obtain⟨c,hc,h1⟩:=Zj1 h
   exact⟨c,by simp[hc],h1⟩
theorem Zoe{E:Env}{ops:Array Oper}:∀{r before l1:List DOp} {d:DOp} {l2:List DOp},Zig E ops r before=true->r=l1++d::l2->Zxs E ops d (l1.reverse++before)=true
 | [],before,l1,d,l2,h,e=>by simp at e
 | x::r,before,[],d,l2,h,e=>by
  simp only[Zig,Bool.and_eq_true]at h
  simp at e
  rw[<-e.1];exact h.1
 | x::r,before,y::l1,d,l2,h,e=>by
  simp only[Zig,Bool.and_eq_true]at h
  simp at e
  obtain⟨rfl,e⟩:=e
  have:=Zoe h.2 e
  simpa using this
structure Fact (E:Env)(ops:Array Oper)(ds:List DOp)(d:DOp)(o:Oper):Prop where
 ok:DOk E ops d o
 vw:∀j,j∈d.vw->j∈d.an
 an:∀j,j∈d.an->j∈Zb3 o\/∃p∈Zb3 o,∃c∈ds,c.i=p/\j∈c.an
theorem Zj2{E:Env}{ops:Array Oper}{ds:List DOp}(h:Zig E ops ds []=true){l1 l2:List DOp}{d:DOp}(e:ds=l1++d::l2):
  ∃o,Fact E ops ds d o/\(∀p∈Zb3 o,∃c∈l1,c.i=p)/\(∀c∈l1,(c.i∈d.an\/ZqY ops c d=true)/\c.i≠d.i):=by
 have h1:=Zoe h e
 simp only[List.append_nil]at h1
 unfold Zxs at h1
 split at h1
 ·cases h1
 ·rename_i o ho
  simp only[Bool.and_eq_true,List.all_eq_true,Bool.or_eq_true,List.any_eq_true]at h1
  obtain⟨⟨⟨⟨⟨⟨g1,g2⟩,g3⟩,g4,g5⟩,g6⟩,g7⟩,g8⟩:=h1
  have iz:∀c∈l1.reverse,c∈ds:=λc hc=>by rw[e];simp at hc ⊢;exact .inl hc
  refine⟨o,⟨⟨ho,g1,ZgT g2,ZgT g3⟩,ZgT g4,λj hj=>?_⟩,λp hp=>?_,λc hc=>⟨?_,?_⟩⟩
  ·rcases g6 j hj with h2|⟨p,hp,h2⟩
   ·exact .inl (ZaQ.1 h2)
   ·obtain⟨c,hc,h3,h4⟩:=Zj1 (ZaQ.1 h2)
    exact .inr ⟨p,hp,c,iz c hc,h3,h4⟩
  ·have:=ZgT g5 p hp
   obtain⟨c,hc,h2⟩:=List.mem_map.1 this
   exact⟨c,by simpa using hc,h2⟩
  ·exact(g7 c (by simpa using hc)).imp ZaQ.1 id
  ·have:=g8 c (by simpa using hc)
   intro e;rw[e,Zew]at this;simp at this
theorem ZfV{α:Type}{R:α->α->Prop}:∀{l:List α},(∀l1 d l2,l=l1++d::l2->∀c∈l1,R c d)->l.Pairwise R
 | [],_=>List.Pairwise.nil
 | x::l,h=>by
  refine List.Pairwise.cons (λy hy=>?_) (ZfV λl1 d l2 e c hc=>h (x::l1) d l2 (by simp[e]) c (by simp[hc]))
  obtain⟨s,t,rfl⟩:=List.append_of_mem hy
  exact h (x::s) y t (by simp) x (by simp)
structure Inv (ds:List DOp)(dn:Nat->Bool)(rem:List DOp):Prop where
 rem:rem=ds.filter λc=>!dn c.i
 closed:∀d∈ds,dn d.i=true->∀j,j∈d.an->dn j=true
section
variable {E:Env} {ops:Array Oper} {ds:List DOp} {dn:Nat->Bool}
theorem Inv.an_of{rem:List DOp}(h:Inv ds dn rem){d:DOp}{o:Oper}(hd:Fact E ops ds d o)(hp:∀p,p∈Zb3 o->dn p=true):∀j,j∈d.an->dn j=true:=λj hj=>by
 rcases hd.an j hj with h1|⟨p,h1,c,h2,h3,h4⟩
 ·exact hp j h1
 ·exact h.closed c h2 (h3 ▸ hp p h1) j h4
theorem Inv.step{r1 r2:List DOp}{d:DOp}(hp:ds.Pairwise λc d=>c.i≠d.i)(h:Inv ds dn (r1++d::r2))(hd:∀j,j∈d.an->dn j=true):Inv ds (λj=>dn j||Nat.beq j d.i) (r1++r2):=by
 have gY:(r1++d::r2).Pairwise λc d=>c.i≠d.i:=by rw[h.rem];exact hp.sublist List.filter_sublist
 refine⟨?_,λc hc te j hj=>?_⟩
 ·have e:(ds.filter λc=>!(dn c.i||Nat.beq c.i d.i))=(r1++d::r2).filter λc=>!Nat.beq c.i d.i:=by
   rw[h.rem,List.filter_filter]
   congr 1;funext c
   cases dn c.i <;> simp
  rw[e,List.filter_append,List.filter_cons]
  simp only[Zew,Bool.not_true,Bool.false_eq_true,if_false]
  rw[List.pairwise_append]at gY
  obtain⟨_,h2,h3⟩:=gY
  rw[List.pairwise_cons]at h2
  rw[List.filter_eq_self.2,List.filter_eq_self.2]
  ·intro c hc
   have:=h2.1 c hc
   simp[Zar (Ne.symm this)]
  ·intro c hc
   have:=h3 c hc d (by simp)
   simp[Zar this]
 ·simp only[Bool.or_eq_true]at te ⊢
  rcases te with h1|h1
  ·exact .inl (h.closed c hc h1 j hj)
  ·have:c=d:=by
    have lN:d∈ds:=by
     have:d∈ds.filter λc=>!dn c.i:=by rw[<-h.rem];simp
     exact(List.mem_filter.1 this).1
    have hi:=Nat.eq_of_beq_eq_true h1
    by_cases e:c=d
    ·exact e
    ·exfalso
     obtain⟨s,t,rfl⟩:=List.append_of_mem hc
     rw[List.pairwise_append,List.pairwise_cons]at hp
     simp only[List.mem_append,List.mem_cons]at lN
     rcases lN with lN|lN|lN
     ·exact hp.2.2 d lN c (by simp) hi.symm
     ·exact e lN.symm
     ·exact hp.2.1.1 d lN hi
   subst this
   exact .inl (hd j hj)
theorem Inv.head{d:DOp}{r:List DOp}(cV:Zig E ops ds []=true)(h:Inv ds dn (d::r)):∃o,Fact E ops ds d o/\∀p,p∈Zb3 o->dn p=true:=by
 obtain⟨l1,l2,h1,h2,h3,_⟩:=List.filter_eq_cons_iff.1 h.rem.symm
 obtain⟨o,hf,hp,_⟩:=Zj2 cV h1
 refine⟨o,hf,λp nU=>?_⟩
 obtain⟨c,hc,rfl⟩:=hp p nU
 have:=h2 c hc
 simpa using this
theorem Inv.topo(cV:Zig E ops ds []=true)(hp:ds.Pairwise λc d=>c.i≠d.i):∀{r1 r2:List DOp} {dn:Nat->Bool},Inv ds dn (r1++r2)->Zxt (λj=>dn j=true) r1
 | [],r2,dn,h=>trivial
 | c::r1,r2,dn,h=>by
  obtain⟨o,hf,gY⟩:=h.head cV
  have nF:=h.an_of hf gY
  refine⟨λj hj=>nF j (hf.vw j hj),?_⟩
  have:=Inv.topo cV hp (r1:=r1) (r2:=r2) (Inv.step (r1:=[]) hp h nF)
  have e:(λj=>(dn j||Nat.beq j c.i)=true)=(λj=>dn j=true\/j=c.i):=by
   funext j
   rw[Bool.or_eq_true]
   exact propext ⟨λh=>h.imp id Nat.eq_of_beq_eq_true,λh=>h.imp id λe=>by rw[e];exact Zew _⟩
  rw[e]at this
  exact this
end
theorem ZgV{ops:Array Oper}:∀{ds:List DOp} {j:Nat},j∈Zia ops ds->∃d∈ds,d.i=j
 | [],j,h=>by simp[Zia]at h
 | d::r,j,h=>by
  simp only[Zia]at h
  split at h
  ·obtain⟨c,hc,e⟩:=ZgV h;exact⟨c,by simp[hc],e⟩
  ·rename_i o _
   cases hg:ZdK o with
   | true=>
    simp only[hg,cond_true,List.mem_cons]at h
    rcases h with h|h
    ·exact⟨d,by simp,h.symm⟩
    ·obtain⟨c,hc,e⟩:=ZgV h;exact⟨c,by simp[hc],e⟩
   | false=>
    simp only[hg,cond_false]at h
    obtain⟨c,hc,e⟩:=ZgV h;exact⟨c,by simp[hc],e⟩
theorem Zj3{ops:Array Oper}:∀{ds:List DOp},Zia ops ds=[]->∀d∈ds,∀o,ops.toList[d.i]?=some o->ZdK o=false
 | [],_,d,hd=>by simp at hd
 | c::r,h,d,hd=>λo ho=>by
  simp only[Zia]at h
  rcases List.mem_cons.1 hd with rfl|hd
  ·simp only[ho]at h
   cases hg:ZdK o with
   | false=>rfl
   | true=>simp[hg]at h
  ·split at h
   ·exact Zj3 h d hd o ho
   ·rename_i oc _
    cases hg:ZdK oc with
    | true=>simp[hg]at h
    | false=>simp only[hg,cond_false]at h;exact Zj3 h d hd o ho
theorem Zof{C:Ctx}{E:Env}(hE:E.ok){F:Fence}(hF:FOk F)(hY:YOk E C){ops:Array Oper}(bB:Zlm C.n ops.toList=true)(gX:E.fix=none){m0:Mem}{f:Fx}{ds:List DOp}(cV:Zig E ops ds []=true)
  {n e:Nat} {Q:Exit->Act->World->Prop} {K:St->Mem->Prop}
  (iQ:∀(listed:Array Bool)(rem:List DOp) i,Inv ds (λj=>listed.getD j false) rem->(∀j,listed.getD j false=true->∃d∈ds,d.i=j)->listed.size=ops.size->i∈Region.ready .any ops listed->(∃d∈ds,d.i=i)\/∀d∈ds,listed.getD d.i false=true)
  (iO:∀(fuel:Nat)(listed:Array Bool)(S':St)(m':Mem)(a':Act)(w':World),e<=fuel->listed.size=ops.size->(∀d∈ds,listed.getD d.i false=true)->(∀j,listed.getD j false=true->∃d∈ds,d.i=j)->K S' m'->Rel C S' m' a' w'->wpAnyIn F n E.P .any ops Q fuel listed a' w'):
  ∀(fuel:Nat){listed:Array Bool}{rem:List DOp}{S:St}{μ:Nat->Mem}{A:Mem}{a:Act}{w:World},listed.size=ops.size->Inv ds (λj=>listed.getD j false) rem->rem.length+e<=fuel->Rel C S A a w->m0.le A->
   (∀j,listed.getD j false=true->(μ j).le A)->(∀j,listed.getD j false=true->∃d∈ds,d.i=j)->(Zia ops ds=[]->A=m0)->(∀d∈ds,(∀i,i∈d.ws->i∈S.ids)/\∀k,d.tk=some k->k∈S.tkeys)->
   Zh8 E ops m0 f rem (λS' μ=>Zxq m0 μ (Zia ops ds) λM=>K S' M) S μ->wpAnyIn F n E.P .any ops Q fuel listed a w:=by
 have jH:ds.Pairwise λc d=>(c.i∈d.an\/ZqY ops c d=true)/\c.i≠d.i:=ZfV λl1 d l2 e c hc=>by
  obtain⟨o,_,_,h⟩:=Zj2 cV e
  exact h c hc
 have lI:ds.Pairwise λc d=>c.i≠d.i:=jH.imp λh=>h.2
 have factOf:∀d∈ds,∃o,Fact E ops ds d o:=λd hd=>by
  obtain⟨s,t,e⟩:=List.append_of_mem hd
  obtain⟨o,h,_⟩:=Zj2 cV e
  exact⟨o,h⟩
 have allOf:∀{listed:Array Bool} {rem:List DOp},Inv ds (λj=>listed.getD j false) rem->rem=[]->∀d∈ds,listed.getD d.i false=true:=λeY he d hd=>by
  subst he
  have:=List.filter_eq_nil_iff.1 eY.rem.symm d hd
  simpa using this
 have fin:∀{fuel:Nat} {listed:Array Bool} {rem:List DOp} {S:St} {μ:Nat->Mem} {A:Mem} {a:Act} {w:World},listed.size=ops.size->Inv ds (λj=>listed.getD j false) rem->Rel C S A a w->m0.le A->(∀j,listed.getD j false=true->(μ j).le A)->(∀j,listed.getD j false=true->∃d∈ds,d.i=j)->(Zia ops ds=[]->A=m0)->
   Zh8 E ops m0 f rem (λS' μ=>Zxq m0 μ (Zia ops ds) λM=>K S' M) S μ->rem=[]->e<=fuel->wpAnyIn F n E.P .any ops Q fuel listed a w:=by
  intro fuel listed rem S μ A a w cE eY hr h0 hμ hl hg hn he lM
  have cQ:=allOf eY he
  subst he
  refine iO fuel listed S A a w lM cE cQ hl (Zsj hn h0 hg λj hj=>?_) hr
  obtain⟨d,hd,rfl⟩:=ZgV hj
  exact hμ _ (cQ d hd)
 have stuck:∀{listed:Array Bool} {rem:List DOp},listed.size=ops.size->Inv ds (λj=>listed.getD j false) rem->Region.ready .any ops listed=[]->rem=[]:=by
  intro listed rem cE eY eA
  cases rem with
  | nil=>rfl
  | cons d r=>
   exfalso
   obtain⟨o,hf,hp⟩:=eY.head cV
   have cP:d∈ds.filter λc=>!listed.getD c.i false:=by rw[<-eY.rem];simp
   have h1:=(List.mem_filter.1 cP).2
   have ho':ops[d.i]?=some o:=by simpa using hf.ok.at_
   have bQ:d.i < ops.size:=(Array.getElem?_eq_some_iff.1 ho').1
   have:d.i∈Region.ready .any ops listed:=mem_ready.2 ⟨by
    have hl:d.i < listed.size:=by omega
    simpa[Array.getD,hl]using h1,o,ho',λe he hb=>hp e.on (by
     simp only[Zb3,List.mem_map,List.mem_filter]
     exact⟨e,⟨by simpa using he,hb⟩,rfl⟩)⟩
   rw[eA]at this;simp at this
 intro fuel
 induction fuel with
 | zero=>
  intro listed rem S μ A a w cE eY bT hr h0 hμ kp hg eL hn
  have he:rem=[]:=List.eq_nil_of_length_eq_zero (by omega)
  exact fin cE eY hr h0 hμ kp hg hn he (by omega)
 | succ fuel ih=>
  intro listed rem S μ A a w cE eY bT hr h0 hμ kp hg eL hn
  by_cases mP:rem=[]
  ·exact fin cE eY hr h0 hμ kp hg hn mP (by omega)
  refine⟨λeA=>absurd (stuck cE eY eA) mP,λi hi=>?_⟩
  rcases iQ listed rem i eY kp cE hi with⟨d,hd,rfl⟩|oR
  rotate_left
  ·exfalso
   apply mP
   rw[eY.rem,List.filter_eq_nil_iff]
   intro d hd
   simp[oR d hd]
  obtain⟨iF,o,ho,cQ⟩:=mem_ready.1 hi
  have bQ:d.i < ops.size:=(Array.getElem?_eq_some_iff.1 ho).1
  have hl:d.i < listed.size:=by omega
  have iR:listed.getD d.i false=false:=by simp[Array.getD,hl]at iF ⊢;exact iF
  obtain⟨o',hf⟩:=factOf d hd
  have:o'=o:=by
   have h1:=hf.ok.at_
   have h2:ops.toList[d.i]?=some o:=by simpa using ho
   rw[h1]at h2;exact Option.some.inj h2
  subst this
  have gY:∀p,p∈Zb3 o'->listed.getD p false=true:=λp hp=>by
   simp only[Zb3,List.mem_map,List.mem_filter]at hp
   obtain⟨e,⟨he,hb⟩,rfl⟩:=hp
   exact cQ e (by simpa using he) hb
  have nF:=eY.an_of hf gY
  have rL:d∈rem:=by rw[eY.rem];exact List.mem_filter.2 ⟨hd,by simp[iR]⟩
  obtain⟨r1,r2,rfl⟩:=List.append_of_mem rL
  have dO:(r1++d::r2).Sublist ds:=by rw[eY.rem];exact List.filter_sublist
  have oS:=jH.sublist dO
  have gH:∀c∈r1,ZqY ops c d=true:=λc hc=>by
   rw[List.pairwise_append]at oS
   rcases(oS.2.2 c hc d (by simp)).1 with h1|h1
   ·have h2:=nF _ h1
    have uM:c∈ds.filter λc=>!listed.getD c.i false:=by rw[<-eY.rem];simp[hc]
    have h3:=(List.mem_filter.1 uM).2
    rw[h2]at h3;cases h3
   ·exact h1
  have iz:∀c∈r1++d::r2,c∈ds:=λc hc=>dO.subset hc
  have hT:=extract hE hF hY bB gX (r1:=r1) (D:=λj=>listed.getD j false=true) hr h0 hμ (eY.topo cV lI) (λc hc=>by
   obtain⟨oc,lB⟩:=factOf c (iz c (by simp[hc]))
   exact⟨⟨oc,lB.ok⟩,eL c (iz c (by simp[hc]))⟩) gH hn
  refine Zq2 hE hF hY bB gX hf.ok (eL d hd).1 (eL d hd).2 hr h0 (λj hj=>hμ j (nF j (hf.vw j hj))) hT ?_
  intro S' m' A' a' w' fX bP hA hm lO
  have oT:(λj=>(listed.setIfInBounds d.i true).getD j false)=λj=>listed.getD j false||Nat.beq j d.i:=by
   funext j
   by_cases hj:j=d.i
   ·subst hj;simp[Array.getD,hl]
   ·have:Nat.beq j d.i=false:=Zar hj
    rw[getD_set_ne false (Ne.symm hj),this,Bool.or_false]
  refine ih (rem:=r1++r2) (S:=ZpZ ops d S S') (μ:=upd μ d.i m') (A:=A') (by simpa using cE) ?_ (by simp at bT ⊢;omega) bP (mLt h0 hA) ?_ ?_ ?_ ?_ (Zq1 hf.ok.ws gH hn fX)
  ·rw[oT];exact eY.step lI nF
  ·intro j hj
   have hj':(listed.getD j false||Nat.beq j d.i)=true:=by rw[<-hj];exact(congrFun oT j).symm
   by_cases e:j=d.i
   ·subst e;rw[Zq3];exact hm
   ·rw[Zv9 e]
    rw[Zar e,Bool.or_false]at hj'
    exact mLt (hμ j hj') hA
  ·intro j hj
   have hj':(listed.getD j false||Nat.beq j d.i)=true:=by rw[<-hj];exact(congrFun oT j).symm
   rw[Bool.or_eq_true]at hj'
   rcases hj' with h|h
   ·exact kp j h
   ·exact⟨d,hd,(Nat.eq_of_beq_eq_true h).symm⟩
  ·intro tf
   rw[lO (Zj3 tf d hd o' hf.ok.at_)]
   exact hg tf
  ·intro c hc
   rw[(ZjZ ops d S S').1,(ZjZ ops d S S').2]
   exact eL c hc
theorem Zog:∀{ds:List DOp} {d:DOp} {i:Nat},d∈ds->i∈d.ws->i∈Zv2 ds
 | [],d,i,hd,_=>by simp at hd
 | c::r,d,i,hd,hi=>by
  simp only[Zv2,List.mem_append]
  rcases List.mem_cons.1 hd with rfl|hd
  ·exact .inl hi
  ·exact .inr (Zog hd hi)
theorem Zoh:∀{ds:List DOp} {d:DOp} {k:Nat},d∈ds->d.tk=some k->k∈Zvw ds
 | [],d,k,hd,_=>by simp at hd
 | c::r,d,k,hd,hk=>by
  simp only[Zvw]
  rcases List.mem_cons.1 hd with rfl|hd
  ·simp[hk]
  ·have:=Zoh hd hk
   cases c.tk <;> simp[this]
theorem Zoi{C:Ctx}{S:St}{m:Mem}{a:Act}{w:World}(h:Rel C S m a w)(ds:List DOp):Rel C (ZjW ds S) m a w:=
 h.restrict rfl rfl (λ_ _ hx=>hx) (λ_ _ ht=>.inl ht) (λi sv he=>by
  obtain⟨v,h1,h2⟩:=h.env i sv he
  exact⟨v,by cases sv <;> exact h1,h2⟩) (λid x hx=>by simp only[ZjW];exact List.mem_append_right _ (h.ids id x hx)) (λk t ht=>by simp only[ZjW];exact List.mem_append_right _ (h.tkeys k t ht))
theorem ZlI{E:Env}(hE:E.ok)(fE:E.P.follows .mixedOrders=true):Zei E (ZjX E):=by
 intro C F hF hY n id ops K S m a w Q bB hr h hK
 have over0:∀{Q:Exit->Act->World->Prop},(∀S' m' a' w',K S' m'->Rel C S' m' a' w'->Q .normal a' w')->∀(fuel:Nat)(listed:Array Bool)(S':St)(m':Mem)(a':Act)(w':World),listed.size=ops.size->(∀j,j < ops.size->listed.getD j false=true)->K S' m'->Rel C S' m' a' w'->wpAnyIn F n E.P .any ops Q fuel listed a' w':=by
  intro Q hK fuel listed S' m' a' w' cE cQ hk bP
  have fT:Region.ready .any ops listed=[]:=by
   cases eA:Region.ready .any ops listed with
   | nil=>rfl
   | cons i l=>
    exfalso
    have hi:i∈Region.ready .any ops listed:=by rw[eA];simp
    obtain⟨iF,o,ho,_⟩:=mem_ready.1 hi
    have bQ:i < ops.size:=(Array.getElem?_eq_some_iff.1 ho).1
    have h1:=cQ i bQ
    have hl:i < listed.size:=by omega
    simp[Array.getD,hl]at iF h1
    rw[iF]at h1;cases h1
  cases fuel with
  | zero=>exact⟨fT,hK _ _ _ _ hk bP⟩
  | succ fuel=>exact⟨λ_=>hK _ _ _ _ hk bP,λi hi=>by rw[fT]at hi;simp at hi⟩
 have over:=over0 hK
 unfold ZjX at h
 cases hh:E.mix id with
 | some q=>
  obtain⟨H,T⟩:=q
  simp only[hh]at h
  have:=wpIn_region_any (F:=F) (n:=n) (id:=id) (Q:=λe a w=>e=.normal/\Q .normal a w) fE (Zwa hE hF hY bB (λc a w h=>nomatch h.1) (over0 λS' m' a' w' h1 h2=>⟨rfl,hK S' m' a' w' h1 h2⟩) hr.drew h)
  exact wpIn_mono this λe a w h=>by
   obtain⟨rfl,h⟩:=h;exact h
 | none=>
 simp only[hh]at h
 obtain⟨h1,h2⟩:=Zah h
 obtain⟨f,h2⟩:=Zus h2
 have h2:Zh8 E ops m f (E.dr id) (λS' μ=>Zxq m μ (Zia ops (E.dr id)) λM=>bif E.last id then Zse E ops (E.lastK id) K S' M else K S' M) (ZjW (E.dr id) S) (λ_=>m):=by
  cases oE:E.gb with
  | false=>simp only[oE,cond_false]at h2;exact h2
  | true=>simp only[oE,cond_true]at h2;exact Zjj h2
 simp only[Zv3,Bool.and_eq_true,List.all_eq_true,List.any_eq_true]at h1
 obtain⟨⟨⟨⟨iQ,bT⟩,cV⟩,gX⟩,fY⟩:=h1
 refine wpIn_region_any fE ?_
 have ig:∀i,i < (bif E.last id then ops.size - E.lastK id else ops.size)->∃d∈E.dr id,d.i=i:=λi hi=>by
  obtain⟨d,hd,e⟩:=iQ i (List.mem_range.2 hi)
  exact⟨d,hd,Nat.eq_of_beq_eq_true e⟩
 have bT:(E.dr id).length<=ops.size:=Nat.le_of_ble_eq_true bT
 have inv0:Inv (E.dr id) (λj=>(Array.replicate ops.size false).getD j false) (E.dr id):=by
  refine⟨(List.filter_eq_self.2 λc hc=>?_).symm,λd hd oT=>?_⟩
  ·simp[Array.getD]
  ·simp[Array.getD]at oT
 have none0:∀j,(Array.replicate ops.size false).getD j false=true->False:=λj hj=>by simp[Array.getD]at hj
 have ids0:∀d∈E.dr id,(∀i,i∈d.ws->i∈(ZjW (E.dr id) S).ids)/\∀k,d.tk=some k->k∈(ZjW (E.dr id) S).tkeys:=λd hd=>
  ⟨λi hi=>List.mem_append_left _ (Zog hd hi),λk hk=>List.mem_append_left _ (Zoh hd hk)⟩
 cases hl:E.last id with
 | false=>
  simp only[hl,cond_false]at h2 ig
  refine Zof hE hF hY bB (by simpa using gX) cV (e:=0) (λlisted _ i _ _ _ hi=>.inl ?_) (λfuel listed S' m' a' w' _ cE cQ _ hk bP=>over fuel listed S' m' a' w' cE (λj hj=>by obtain⟨d,hd,rfl⟩:=ig j hj;exact cQ d hd) hk bP) ops.size (rem:=E.dr id) (A:=m) (by simp) inv0 (by omega) ((Zoi hr.drew (E.dr id))) (Mem.le_refl m) (λj hj=>(none0 j hj).elim) (λj hj=>(none0 j hj).elim) (λ_=>rfl) ids0 h2
  obtain⟨_,o,ho,_⟩:=mem_ready.1 hi
  exact ig i (Array.getElem?_eq_some_iff.1 ho).1
 | true=>
  simp only[hl,cond_true]at h2 ig fY
  generalize E.lastK id=k at *
  unfold Zv4 at fY
  simp only[Bool.and_eq_true,List.all_eq_true]at fY
  obtain⟨⟨lb,oU⟩,uN⟩:=fY
  have lb:=Nat.le_of_ble_eq_true lb
  have gT:∀i,ops.size - k<=i->i < ops.size->∃o,ops[i]?=some o/\(∀j,ops.size - k<=j->j < i->j∈Zb3 o)/\(∀j∈Zb3 o,j < i)/\(i=ops.size - k->∀j,j < ops.size - k->j∈Zb3 o\/∃p∈Zb3 o,∃c∈E.dr id,c.i=p/\j∈c.an):=by
   intro i h1 h2
   have:=oU (i - (ops.size - k)) (List.mem_range.2 (by omega))
   rw[show ops.size - k+(i - (ops.size - k))=i by omega]at this
   split at this
   ·cases this
   ·rename_i o ho
    simp only[Bool.and_eq_true,List.all_eq_true]at this
    refine⟨o,by simpa using ho,λj oV hj=>?_,λj hj=>Nat.le_of_ble_eq_true (this.2.1 j hj),λhi j hj=>?_⟩
    ·have h3:=ZaQ.1 (this.1 (j - (ops.size - k)) (List.mem_range.2 (by omega)))
     rw[show ops.size - k+(j - (ops.size - k))=j by omega]at h3
     exact h3
    ·have h3:=this.2.2
     rw[hi,Nat.sub_self]at h3
     simp only[show Nat.beq 0 0=true from rfl,cond_true,List.all_eq_true,Bool.or_eq_true,List.any_eq_true]at h3
     rcases h3 j (List.mem_range.2 hj)with h4|⟨p,hp,h4⟩
     ·exact .inl (ZaQ.1 h4)
     ·obtain⟨c,hc,h5,h6⟩:=Zj1 (ZaQ.1 h4)
      exact .inr ⟨p,hp,c,hc,h5,h6⟩
  have lk:∀d∈E.dr id,d.i < ops.size - k:=λd hd=>Nat.le_of_ble_eq_true (uN d hd)
  have wh:(E.dr id).length+k<=ops.size:=by
   have lI:(E.dr id).Pairwise λc d=>c.i≠d.i:=ZfV λl1 d l2 e c hc=>by
    obtain⟨o,_,_,h⟩:=Zj2 cV e
    exact(h c hc).2
   have eJ:((E.dr id).map (·.i)).Nodup:=by
    unfold List.Nodup
    rw[List.pairwise_map]
    exact lI
   have:=List.Nodup.length_le_of_subset eJ (l₂:=List.range (ops.size - k)) (λj hj=>by
    obtain⟨d,hd,rfl⟩:=List.mem_map.1 hj
    exact List.mem_range.2 (lk d hd))
   simp at this
   omega
  have tail:∀(r:List Oper)(i:Nat),ops.toList.drop i=r->ops.size - k<=i->i<=ops.size->∀(fuel:Nat)(listed:Array Bool)(S':St)(m':Mem)(a':Act)(w':World),r.length<=fuel->listed.size=ops.size->(∀j,j < i->listed.getD j false=true)->(∀j,i<=j->listed.getD j false=false)->Zib E ops K r S' m'->Rel C S' m' a' w'->wpAnyIn F n E.P .any ops Q fuel listed a' w':=by
   intro r
   induction r with
   | nil=>
    intro i hi h1 h2 fuel listed S' m' a' w' _ cE cQ _ hk bP
    have:ops.size<=i:=by
     have:=congrArg List.length hi
     simp at this
     omega
    exact over fuel listed S' m' a' w' cE (λj hj=>cQ j (by omega)) hk bP
   | cons o r ih=>
    intro i hi h1 h2 fuel listed S' m' a' w' lM cE cQ fC hk bP
    have fF:i < ops.size:=by
     have:=congrArg List.length hi
     simp at this
     omega
    obtain⟨o',ho',tg,gw,_⟩:=gT i h1 fF
    have ti:ops.toList[i]?=some o:=by
     have:=congrArg (λl=>l[0]?) hi
     simpa using this
    have rI:o'=o:=by
     have:ops.toList[i]?=some o':=by simpa using ho'
     rw[ti]at this;cases this;rfl
    subst rI
    have uO:ops.toList.drop (i+1)=r:=by
     have:=congrArg (List.drop 1) hi
     simpa[List.drop_drop,Nat.add_comm]using this
    obtain⟨fuel,rfl⟩:∃k,fuel=k+1:=⟨fuel - 1,by simp at lM;omega⟩
    have iF:listed.getD i false=false:=fC i (Nat.le_refl _)
    have fP:i < listed.size:=by omega
    refine⟨λeA=>?_,λq hq=>?_⟩
    ·exfalso
     have:i∈Region.ready .any ops listed:=mem_ready.2 ⟨by simpa[Array.getD,fP]using iF,o',ho',λe he hb=>?_⟩
     ·rw[eA]at this;simp at this
     ·have hm:e.on∈Zb3 o':=by
       simp only[Zb3,List.mem_map,List.mem_filter]
       exact⟨e,⟨by simpa using he,hb⟩,rfl⟩
      exact cQ _ (gw _ hm)
    ·obtain⟨tj,o2,iB,gY⟩:=mem_ready.1 hq
     have hq':q < ops.size:=(Array.getElem?_eq_some_iff.1 iB).1
     have:q=i:=by
      by_cases h3:q < i
      ·have h4:=cQ q h3
       have hl:q < listed.size:=by omega
       simp[Array.getD,hl]at tj h4
       rw[tj]at h4;cases h4
      ·by_cases h4:q=i
       ·exact h4
       ·exfalso
        obtain⟨o3,rM,rN,_⟩:=gT q (by omega) hq'
        rw[rM]at iB;cases iB
        have:=rN i h1 (by omega)
        simp only[Zb3,List.mem_map,List.mem_filter]at this
        obtain⟨e,⟨he,hb⟩,h5⟩:=this
        have:=gY e (by simpa using he) hb
        rw[h5,iF]at this;cases this
     subst this
     simp only[Zib]at hk
     have:=Zln hE hF hY (Zdh bB _ o' ti) bP hk (n:=n) (Q:=Q) (next:=wpAnyIn F n E.P .any ops Q fuel (listed.setIfInBounds q true)) (λS2 m2 a2 w2 ia ko=>ih (q+1) uO (by omega) (by omega) fuel _ S2 m2 a2 w2 (by simp at lM;omega) (by simpa using cE) (λj hj=>by
      by_cases e:j=q
      ·subst e;simp[Array.getD,fP]
      ·rw[getD_set_ne false (Ne.symm e)]
       exact cQ j (by omega)) (λj hj=>by
      rw[getD_set_ne false (by omega)]
      exact fC j (by omega)) ia ko)
     unfold wpOpIn
     simp only[ho']
     exact this
  refine Zof hE hF hY bB (by simpa using gX) cV (e:=k) (λlisted rem i eY kp cE hi=>?_) (λfuel listed S' m' a' w' lM cE cQ kp hk bP=>?_) ops.size (rem:=E.dr id) (A:=m) (by simp) inv0 (by omega) ((Zoi hr.drew (E.dr id))) (Mem.le_refl _) (λj hj=>(none0 j hj).elim) (λj hj=>(none0 j hj).elim) (λ_=>rfl) ids0 h2
  ·obtain⟨_,o2,iB,cQ⟩:=mem_ready.1 hi
   have hi':i < ops.size:=(Array.getElem?_eq_some_iff.1 iB).1
   by_cases ik:i < ops.size - k
   ·exact .inl (ig i ik)
   ·right
    obtain⟨o3,rM,rN,_,rO⟩:=gT i (by omega) hi'
    have uP:o2=o3:=by rw[rM]at iB;cases iB;rfl
    subst uP
    have kS:∀j∈Zb3 o2,listed.getD j false=true:=λj hj=>by
     simp only[Zb3,List.mem_map,List.mem_filter]at hj
     obtain⟨e,⟨he,hb⟩,h3⟩:=hj
     have:=cQ e (by simpa using he) hb
     rw[h3]at this
     exact this
    intro d hd
    by_cases uQ:i=ops.size - k
    ·rcases rO uQ d.i (lk d hd)with h3|⟨p,hp,c,hc,h3,h4⟩
     ·exact kS _ h3
     ·exact eY.closed c hc (h3 ▸ kS p hp) d.i h4
    ·exfalso
     have h3:=kS _ (rN (ops.size - k) (Nat.le_refl _) (by omega))
     obtain⟨d',hd',h4⟩:=kp _ h3
     have:=lk d' hd'
     omega
  ·unfold Zse at hk
   refine tail _ (ops.size - k) rfl (Nat.le_refl _) (Nat.sub_le _ _) fuel listed S' m' a' w' (by simp;omega) cE (λj hj=>?_) (λj hj=>?_) hk bP
   ·obtain⟨d,hd,rfl⟩:=ig j hj
    exact cQ d hd
   ·cases hb:listed.getD j false with
    | false=>rfl
    | true=>
     obtain⟨d,hd,h3⟩:=kp _ hb
     have:=lk d hd
     omega
theorem Rel.ptrS{C:Ctx}{S:St}{m:Mem}{a:Act}{w:World}(h:Rel C S m a w)(ts:List Nat):Rel C (ptrS S ts) m a w:=by
 refine h.restrict rfl rfl (λ_ _ hx=>hx) (λ_ _ ht=>.inl ht) (λt sv he=>?_) h.ids h.tkeys
 have den:∀sv,(Eng.ptrS S ts).den sv=S.den sv:=λsv=>by cases sv <;> rfl
 rw[den]
 have he:(bif mem ts t then ZyH S (S.env t)else S.env t)=some sv:=he
 cases hm:mem ts t with
 | false=>rw[hm]at he;exact h.env t sv he
 | true=>
  rw[hm,cond_true]at he
  unfold ZyH at he
  split at he
  ·rename_i i off hi
   cases hx:S.L i with
   | none=>simp[hx]at he
   | some x=>
    simp only[hx,Option.some.injEq]at he
    subst he
    obtain⟨v,h1,h2⟩:=h.env t _ hi
    simp only[St.den,hx]at h1
    cases h1
    exact⟨_,rfl,h2⟩
  ·exact h.env t sv he
theorem Zq6{E:Env}(hE:E.ok)(fE:E.P.follows .mixedOrders=true){C:Ctx}{F:Fence}(hF:FOk F)(hY:YOk E C)(n:Nat)(id:Nat)(ops:Array Oper){K:St->Mem->Prop}{S2:St}{m2:Mem}{a:Act}{w:World}{Q:Exit->Act->World->Prop}
  (bB:Zlm C.n ops.toList=true) (gt:Rel C S2 m2 a w) (h2:Zyg (E.ptrAt id) (ZaD ops.toList) (ZjX E id ops) K S2 m2) (hK:∀S' m' a' w',K S' m'->Rel C S' m' a' w'->Q .normal a' w'):(Code.region id ops true).wpIn F n E.P Q a w:=by
 unfold Zyg at h2
 split at h2
 ·exact ZlI hE fE hF hY n id ops bB gt h2 hK
 ·rename_i t0 tl lc
  obtain⟨h3,h4⟩:=Zah h2
  generalize E.ptrAt id=ts at *
  have h5:=ZjY E id ops _ (λS' m'=>SameOut (ZaD ops.toList) (ptrS S2 ts) S'/\Zih S2 S' ts (K (Zv6 S2 S' ts) m')) _ m2 (λS' m' hs _ y=>⟨hs,y⟩) h4
  refine ZlI hE fE hF hY n id ops bB (gt.ptrS ts) h5 (λS' m' a' w' hk bP=>?_)
  obtain⟨hs,hk⟩:=hk
  obtain⟨hk,hp⟩:=ZfS hk
  refine hK _ m' a' w' hk (bP.restrict rfl rfl (λ_ _ hx=>hx) (λ_ _ ht=>.inl ht) (λt sv he=>?_) bP.ids bP.tkeys)
  have den:∀sv,(Zv6 S2 S' ts).den sv=S'.den sv:=λsv=>by cases sv <;> rfl
  rw[den]
  have he:(bif mem ts t then S2.env t else S'.env t)=some sv:=he
  cases hm:mem ts t with
  | false=>rw[hm]at he;exact bP.env t sv he
  | true=>
   rw[hm,cond_true]at he
   have qb:=ZaQ.1 hm
   have eJ:t ∉ ZaD ops.toList:=λhd=>by
    have:=List.all_eq_true.1 h3 t qb
    simp[ZaQ.2 hd]at this
   have h6:=hs t eJ
   have h7:(ptrS S2 ts).env t=ZyH S2 (S2.env t):=by show(bif mem ts t then _ else _)=_;rw[hm];rfl
   rcases hp t qb with⟨i,off,q1,q2⟩|⟨v,q1⟩
   ·rw[q1]at he;cases he
    obtain⟨v,r1,r2⟩:=gt.env t _ q1
    simp only[St.den]at r1
    cases hx:S2.L i with
    | none=>simp[hx]at r1
    | some x=>
     rw[q1]at h7
     simp only[ZyH,hx]at h7
     obtain⟨u,r3,r4⟩:=bP.env t _ (h6.trans h7)
     simp only[St.den]at r3;cases r3
     refine⟨_,?_,r4⟩
     simp only[St.den,q2,hx]
   ·rw[q1]at he;cases he
    rw[q1]at h7
    exact bP.env t _ (h6.trans h7)
theorem Zj4{E:Env}(hE:E.ok)(fE:E.P.follows .mixedOrders=true):Zei E (Zba E):=by
 intro C F hF hY n id ops K S m a w Q bB hr h hK
 obtain⟨S2,m2,gt,h2⟩:=ZhO hr h
 unfold ZvP at h2
 split at h2
 ·exact Zq6 hE fE hF hY n id ops bB gt h2 hK
 ·rename_i key esz _
  obtain⟨h3,h4⟩:=Zah h2
  cases fy:E.m0 with
  | none=>simp[fy]at h4
  | some mm=>
   simp only[fy]at h4
   obtain⟨z0,p,n',c,z1,z2,z3⟩:=h4
   refine Zq6 hE fE hF hY n id ops bB (gt.acq hY fy z0 z1 z2) z3 (λS' m' a' w' hk bP=>?_)
   split at hk
   ·exact hk.elim
   ·rename_i t ht
    obtain⟨gk,ia⟩:=Zah hk
    obtain⟨zs,qd,j2⟩:=bP.unacq ht
    exact hK _ _ _ _ (ia zs qd) j2
def Zii(fn:Func):Code:=match fn.body with
 | some c=>c
 | none=>.skip
def Env.at(E:Env)(m:Mem):Env:={ E with m0:=some m }
def FW(E:Env)(fn:Func)(svs:List SV)(xs:List Box)(m:Mem)(R:Value->Mem->List (List Value)->Prop):Prop:=
 W (E.at m) (Zba (E.at m)) (Zii fn) (Zzo (E.at m) fn.results.toList m xs R) (S0 svs xs) m
def ZyX(E:Env)(fn:Func)(svs:List SV)(xs:List Box):Bool:=
 !(fn.name == "runtime.NumGoroutine")&&fn.body.isSome&&Zav E (Zii fn)&&Zbk fn.ntmps (Zii fn)&&Zvv E.frz&&(E.yl.isNone&&E.ylY.isNone)&&Nat.ble svs.length fn.ntmps&&Zng xs svs
theorem ZfW{fn:Func}(h:fn.body.isSome=true):fn.body=some (Zii fn):=by
 unfold Zii
 cases hb:fn.body with
 | none=>rw[hb]at h;cases h
 | some c=>rfl
theorem Zbw(E:Env)(m:Mem):∀c:Code,Zav (E.at m) c=Zav E c
 | .region _ _ _=>rfl
 | .seq a b=>by simp only[Zav,Zbw E m a,Zbw E m b];rfl
 | .cond _ a b=>by simp only[Zav,Zbw E m a,Zbw E m b]
 | .block _ a=>by simp only[Zav,Zbw E m a]
 | .loop a=>by simp only[Zav,Zbw E m a];rfl
 | .rangeFunc _ _ a b=>by simp only[Zav,Zbw E m a,Zbw E m b]
 | .scope a=>by simp only[Zav,Zbw E m a]
 | .skip=>rfl
 | .label _=>rfl
 | .goto _=>rfl
 | .exit _=>rfl
 | .ret=>rfl
 | .refuse _=>rfl
theorem Zad{E:Env}(hE:E.ok)(fE:E.P.follows .mixedOrders=true){g:FuncId}{fn:Func}(hf:E.P.funcs[g]?=some fn){m:Mem}{R:Value->Mem->List (List Value)->Prop}(svs:List SV)(xs:List Box)
  (cV:ZyX E fn svs xs=true) (h:FW E fn svs xs m R):CX E.P g (svs.map (ZrH xs)).toArray m xs R:=by
 simp only[ZyX,Bool.and_eq_true,Bool.not_eq_true']at cV
 obtain⟨⟨⟨⟨⟨⟨⟨h1,h2⟩,h3⟩,h4⟩,h5⟩,h8⟩,h6⟩,h7⟩:=cV
 exact ZvU (E:=E.at m) hE (Zno _) (Zj4 (E:=E.at m) hE fE) hf h1 (ZfW h2) (by rw[Zbw];exact h3) h4 h5 (show E.yl=none/\E.ylY=none by simpa using h8) (λmm ic=>Option.some.inj ic) svs xs h6 h7 h
theorem ZaR(E:Env)(l:Nat)(xs:List (List Value)):∀c:Code,Zav (E.yields l xs) c=Zav E c
 | .region _ _ _=>rfl
 | .seq a b=>by simp only[Zav,ZaR E l xs a,ZaR E l xs b];rfl
 | .cond _ a b=>by simp only[Zav,ZaR E l xs a,ZaR E l xs b]
 | .block _ a=>by simp only[Zav,ZaR E l xs a]
 | .loop a=>by simp only[Zav,ZaR E l xs a];rfl
 | .rangeFunc _ _ a b=>by simp only[Zav,ZaR E l xs a,ZaR E l xs b]
 | .scope a=>by simp only[Zav,ZaR E l xs a]
 | .skip=>rfl
 | .label _=>rfl
 | .goto _=>rfl
 | .exit _=>rfl
 | .ret=>rfl
 | .refuse _=>rfl
def FWI(E:Env)(fn:Func)(first captured:List Value)(m:Mem)(xs:List (List Value)):Prop:=
 ∀l,W (E.yields l xs) (Zba (E.yields l xs)) (Zii fn) (Zya E fn.results.toList xs.length) (S0 ((first++.func (.yield l) #[] #[]::captured).map .v) []) m
def Zyh(E:Env)(fn:Func)(k:Nat):Bool:=
 !(fn.name == "runtime.NumGoroutine")&&fn.body.isSome&&Zav E (Zii fn)&&Zbk fn.ntmps (Zii fn)&&Nat.ble (k+1) fn.ntmps
theorem ZgW{E:Env}(hE:E.ok)(fE:E.P.follows .mixedOrders=true){g:FuncId}{fn:Func}(hf:E.P.funcs[g]?=some fn){m:Mem}(first captured:List Value)(xs:List (List Value))
  (cV:Zyh E fn (first.length+captured.length)=true) (h:FWI E fn first captured m xs):IX E.P g first captured m xs:=by
 simp only[Zyh,Bool.and_eq_true,Bool.not_eq_true']at cV
 obtain⟨⟨⟨⟨h1,h2⟩,h3⟩,h4⟩,h5⟩:=cV
 exact ZvV (Zba:=Zba) hE hf h1 (ZfW h2) h4 first captured xs h5 λl=>
  ⟨Zno _,Zj4 (E:=E.yields l xs) hE fE,by rw[ZaR];exact h3,h l⟩
end Go.Eng
namespace Go.Eng
open Go Go.RowKit
set_option maxRecDepth 100000
theorem CXT.mono{P:Program}{g:FuncId}{args:Array Value}{m:Mem}{esz:Nat}{R R':Value->Mem->List (List Value)->Prop}(h:CXT P g args m esz R)(k:∀v m' css,m.le m'->R v m' css->R' v m' css):CXT P g args m esz R':=
 ⟨h.1,λw h1=>(h.2 w h1).mono λ_ _ ⟨v,m',a1,a2,a3,a4,a5,a6,a7,a8⟩=>⟨v,m',a1,a2,a3,a4,a5,a6,a7,k _ _ _ a2 a8⟩⟩
def ZxL(m m':Mem)(esz:Nat)(v:Value):Prop:=v=.slice none 0 0\/∃b o n c,v=.slice (some ⟨b,o,none⟩) n c/\n<=c/\m.free b/\∀q,n*esz<=q->q < c*esz->∃u,m' b (o+q)=some u
theorem CXT.room{P:Program}{g:FuncId}{args:Array Value}{m:Mem}{esz:Nat}{R:Value->Mem->List (List Value)->Prop}(h:CXT P g args m esz R):CX P g args m [] (λv m' _=>∃m1:Mem,m.le m1/\m1.le m'/\R v m1 []/\ZxL m m' esz v):=by
 refine⟨h.1,λw h1 _ _=>(h.2 w h1).mono ?_⟩
 rintro e w' ⟨v,m',a1,a2,a3,a4,a5,a6,a7,a8⟩
 have a9:=a6
 rcases a6 with h6|⟨b,o0,n,c,cur,T,fr,hv,iA,hh,cE,_,dI⟩
 ·exact⟨v,m',[],a1,a2,a3,a4,a5,rfl,λi x cs hi=>by simp at hi,m',a2,Mem.le_refl _,a8,.inl h6⟩
 ·have hv:v=.slice (some ⟨b,o0,none⟩) n c:=hv
  have hb:w.heap.size<=b:=a7 b (by simp[Tok.blk,hv])
  have cF:m.free b:=λo=>by
   cases he:m b o with
   | none=>rfl
   | some u=>have:=h1.lt he;omega
  have un:c*esz=n*esz+(c - n)*esz:=by rw[<-Nat.add_mul];congr 1;omega
  have dI:∀o,o0+n*esz<=o->o < o0+c*esz->m' b o=none:=dI
  have cE:o0+c*esz<=cur.size:=cE
  obtain⟨P0,nk⟩:∃P0,P0=o0+n*esz:=⟨_,rfl⟩
  obtain⟨zs,nw⟩:∃zs,zs=(cur.toList.drop P0).take ((c - n)*esz):=⟨_,rfl⟩
  have iC:zs.length=(c - n)*esz:=by rw[nw];simp;omega
  have re:∀q v,zs[q]?=some v->cur[P0+q]?=some v:=λq v hq=>by
   rw[nw,List.getElem?_take]at hq
   split at hq
   ·rw[List.getElem?_drop]at hq;simpa using hq
   ·cases hq
  have cJ:m'.le (m'.addAt b P0 zs):=⟨λb' o v hv'=>by
   simp only[Mem.addAt]
   split
   ·rename_i hc
    obtain⟨rfl,ho⟩:=hc
    cases hz:zs[o - P0]? with
    | none=>simp only[hz];exact hv'
    | some u=>
     have hq:=(List.getElem?_eq_some_iff.1 hz).1
     rw[dI o (by omega) (by omega)]at hv';cases hv'
   ·exact hv',λ_ _ h=>h⟩
  have dP:∀b' o u,m'.addAt b P0 zs b' o=some u->m' b' o=some u\/(b'=b/\w'.cell? ⟨b',o,none⟩=some u):=λb' o u hu=>by
   simp only[Mem.addAt]at hu
   split at hu
   ·rename_i hc
    obtain⟨rfl,ho⟩:=hc
    cases hz:zs[o - P0]? with
    | none=>simp only[hz]at hu;exact .inl hu
    | some x=>
     simp only[hz]at hu;cases hu
     have:=re _ _ hz
     rw[show P0+(o - P0)=o by omega]at this
     refine .inr ⟨rfl,?_⟩
     simp only[World.cell?,hh]
     simpa using this
   ·exact .inl hu
  refine⟨v,m'.addAt b P0 zs,[],a1,mLt a2 cJ,⟨λb' o u hu=>(dP b' o u hu).elim (a3 b' o u) (·.2),a3.k⟩,a4.addAt _ ⟨hb,a9.wr (by simp[Tok.blk,hv])⟩,a5,rfl,λi x cs hi=>by simp at hi,m',a2,cJ,a8,.inr ⟨b,o0,n,c,hv,iA,cF,λq gD nq=>?_⟩⟩
  have bB:o0+q - P0 < zs.length:=by omega
  refine⟨zs[o0+q - P0],?_⟩
  simp only[Mem.addAt]
  rw[if_pos ⟨trivial,by omega⟩,List.getElem?_eq_getElem bB]
def Zms:List Nat->List Tok->Nat->Option Tok
 | k::ks,t::ts=>λi=>bif Nat.beq i k then some t else Zms ks ts i
 | _,_=>λ_=>none
theorem Zjm:∀{ks:List Nat} {ts:List Tok} {i:Nat} {t:Tok},Zms ks ts i=some t->∃q:Nat,ks[q]?=some i/\ts[q]?=some t
 | [],ts,i,t,h=>by simp[Zms]at h
 | k::ks,[],i,t,h=>by simp[Zms]at h
 | k::ks,t0::ts,i,t,h=>by
  by_cases hi:i=k
  ·subst hi;simp[Zms]at h;subst h;exact⟨0,rfl,rfl⟩
  ·simp only[Zms,Zar hi,cond_false]at h
   obtain⟨q,h1,h2⟩:=Zjm h
   exact⟨q+1,by simpa using h1,by simpa using h2⟩
def S0Y(svs:List SV)(xs:List Box)(ks:List Nat)(ts:List Tok):St:={ S0 svs xs with tok:=Zms ks ts,tkeys:=ks }
def Zj5(S:St):List Nat->List Tok->(List Value->Prop)->Prop
 | k::ks,t::ts,r=>match S.tok k with
  | none=>False
  | some t'=>chk (Nat.beq t'.esz t.esz) (Zj5 S ks ts λtvs=>r (t'.v::tvs))
 | [],[],r=>r []
 | _,_,_=>False
theorem ZeZ{S:St}:∀{ks:List Nat} {ts:List Tok} {r:List Value->Prop},Zj5 S ks ts r->∃tvs,tvs.length=ts.length/\ks.length=ts.length/\(∀(i:Nat)(t:Tok)(tv:Value),ts[i]?=some t->tvs[i]?=some tv->∃k:Nat,ks[i]?=some k/\S.tok k=some ⟨tv,t.esz⟩)/\r tvs
 | [],[],r,h=>⟨[],rfl,rfl,λi t tv h=>by simp at h,h⟩
 | [],_::_,r,h=>h.elim
 | _::_,[],r,h=>h.elim
 | k::ks,t::ts,r,h=>by
  unfold Zj5 at h
  cases ht:S.tok k with
  | none=>simp[ht]at h
  | some t'=>
   simp only[ht]at h
   obtain⟨h1,h2⟩:=Zah h
   have he:=Nat.eq_of_beq_eq_true h1
   obtain⟨tvs,g1,g2,g3,g4⟩:=ZeZ h2
   refine⟨t'.v::tvs,by simp[g1],by simp[g2],λi t0 tv hi hv=>?_,g4⟩
   cases i with
   | zero=>
    simp at hi hv;subst hi hv
    exact⟨k,rfl,by rw[ht,<-he]⟩
   | succ i=>simpa using g3 i t0 tv (by simpa using hi) (by simpa using hv)
def Zxu(E:Env)(rs:List ResultVar)(xs:List Box)(ks:List Nat)(ts:List Tok)(R:Value->Mem->List (List Value)->List Value->Prop)(S:St)(m:Mem):Prop:=
 ZxI E S m rs λvs=>Zvu S 0 xs λcss=>Zj5 S ks ts λtvs=>ZvS E S m (R (Zxo vs) (ZrL S E.frz m) css tvs)
def Zyi(E:Env)(rs:List ResultVar)(xs:List Box)(ks:List Nat)(ts:List Tok)(R:Value->Mem->List (List Value)->List Value->Prop):KT:=λe S m=>match e with
 | .normal=>Zxu E rs xs ks ts R S m
 | .ret=>Zxu E rs xs ks ts R S m
 | _=>False
def Zxv(n:Nat)(m:Mem)(w:World)(B:Nat->Prop):Ctx where
 n:=n
 m0:=m
 me:=m
 mle:=Mem.le_refl m
 p:=λ_ M w'=>Upd B w w'/\∀k,M k->(w.heap.size<=k/\k < w'.heap.size/\Wr w' k)\/B k
 st:=by
  rintro g M M' w1 w2 ⟨h1,h2⟩ hu hg
  refine⟨⟨hu.os.trans h1.os,hu.tape.trans h1.tape,hu.output.trans h1.output,Nat.le_trans h1.size hu.size,λk hk hn=>?_,λk hl hk=>hu.wr k (Nat.lt_of_lt_of_le hl h1.size) (h1.wr k hl hk)⟩,λk hk=>?_⟩
  ·rw[hu.block k (Nat.lt_of_lt_of_le hk h1.size) λhm=>?_,h1.block k hk hn]
   rcases h2 k hm with h|h
   ·omega
   ·exact hn h
  ·rcases hg k hk with h|h
   ·exact(h2 k h).imp_left λh=>⟨h.1,Nat.lt_of_lt_of_le h.2.1 hu.size,hu.wr k h.2.1 h.2.2⟩
   ·have:=h1.size;exact .inl ⟨by omega,h.2⟩
theorem Zp9{n:Nat}{w:World}{m:Mem}{Y:Nat->Prop}{xs:List Box}{svs:List SV}{ks:List Nat}{ts:List Tok}(hs:Sub m w)(hx:∀x∈xs,Own m w x/\x.fz=false/\¬Y x.b)(eJ:(xs.map (·.b)).Nodup)(cV:Zng xs svs=true)(hn:svs.length<=n)
  (ht:∀t∈ts,TokOk m w t/\∀b,t.blk=some b->Y b) (jH:Zvp ts) (hY:∀b,Y b->b < w.heap.size/\Wr w b):
  Rel (Zxv n (m.off Y) w (λk=>k∈xs.map (·.b)\/Y k)) (S0Y svs xs ks ts) m { tmps:=(svs.map (ZrH xs)).toArray++Array.replicate (n - (svs.map (ZrH xs)).toArray.size) undef,defers:=[] } w:=by
 have hL:∀id x,(S0Y svs xs ks ts).L id=some x->100000<=id/\xs[id - 100000]?=some x:=λid x h=>by
  simp only[S0Y,S0]at h
  cases hb:Nat.ble 100000 id with
  | false=>simp[hb]at h
  | true=>simp only[hb,cond_true]at h;exact⟨Nat.le_of_ble_eq_true hb,h⟩
 have hT:∀k t,(S0Y svs xs ks ts).tok k=some t->∃q:Nat,ks[q]?=some k/\ts[q]?=some t:=λk t h=>Zjm h
 refine⟨⟨[],rfl,List.nodup_nil,by simp⟩,by simp[Zxv];omega,?_,?_,?_,?_,?_,?_,?_,hs,Mem.off_le m Y,⟨λk=>k∈xs.map (·.b)\/Y k,⟨Upd.refl _ _,λk hk=>.inr hk⟩,λk hk=>?_,λid x hx=>?_,λk t b h1 h2=>?_,by simp,⟨λb o v hv=>?_,λb e he=>?_⟩⟩,λ_=>rfl⟩
 ·intro i sv he
  simp only[S0Y,S0]at he
  have bB:=(List.getElem?_eq_some_iff.1 he).1
  have h1:=ZhT cV i sv he
  refine⟨ZrH xs sv,?_,?_⟩
  ·cases sv with
   | v x=>rfl
   | loc id off=>
    simp only[ZxH,Bool.and_eq_true]at h1
    have h2:id - 100000 < xs.length:=Zmp h1.2
    simp[St.den,S0Y,S0,ZrH,h1.1,List.getElem?_eq_getElem h2]
   | sl id n c=>
    simp only[ZxH,Bool.and_eq_true]at h1
    have h2:id - 100000 < xs.length:=Zmp h1.2
    simp[St.den,S0Y,S0,ZrH,h1.1,List.getElem?_eq_getElem h2]
  ·rw[Array.getElem?_append_left (by simpa using bB)]
   simp[he]
 ·intro id x hx'
  exact(hx x (List.mem_of_getElem? (hL id x hx').2)).1
 ·intro id id' x x' h1 h2 hb
  obtain⟨g1,g2⟩:=hL _ _ h1
  obtain⟨g3,g4⟩:=hL _ _ h2
  have hi:=(List.getElem?_eq_some_iff.1 g2).1
  have:=(List.getElem?_inj (l:=xs.map (·.b)) (i:=id - 100000) (j:=id' - 100000) (by simpa using hi) eJ).1 (by simp[g2,g4,hb])
  omega
 ·intro id x h1
  obtain⟨g1,g2⟩:=hL _ _ h1
  have hi:=(List.getElem?_eq_some_iff.1 g2).1
  simp only[S0Y,S0,List.mem_map,List.mem_range,bid]
  exact⟨id - 100000,hi,by omega⟩
 ·intro k t h1
  obtain⟨q,_,h2⟩:=hT k t h1
  obtain⟨g1,g2⟩:=ht t (List.mem_of_getElem? h2)
  exact⟨g1,λb hb=>⟨λid x rz e=>(hx x (List.mem_of_getElem? (hL id x rz).2)).2.2 (e ▸ g2 b hb),Mem.off_free (g2 b hb)⟩⟩
 ·intro k t h1
  obtain⟨q,h2,_⟩:=hT k t h1
  exact List.mem_of_getElem? h2
 ·intro k k' t t' b h1 h2 h3 h4
  obtain⟨q,g1,g2⟩:=hT k t h1
  obtain⟨q',g3,g4⟩:=hT k' t' h2
  have:=jH q q' t t' b g2 g4 h3 h4
  subst this
  rw[g1]at g3;exact Option.some.inj g3
 ·rcases hk with hk|hk
  ·obtain⟨x,h1,h2⟩:=List.mem_map.1 hk
   exact h2 ▸ (hx x h1).1.lt
  ·exact(hY k hk).1
 ·exact .inl (List.mem_map.2 ⟨x,List.mem_of_getElem? (hL id x hx).2,rfl⟩)
 ·obtain⟨q,_,g2⟩:=hT k t h1
  exact .inr ((ht t (List.mem_of_getElem? g2)).2 b h2)
 ·by_cases fW:Y b
  ·exact .inr (.inr fW)
  ·exact .inl (by show m.off Y b o=some v;rw[Mem.off_at fW];exact hv)
 ·by_cases fW:Y b
  ·exact .inr (.inr fW)
  ·exact .inl (by show(m.off Y).k b=some e;rw[Mem.off_k fW];exact he)
theorem TokOk.sl{m:Mem}{w:World}{t:Tok}(h:TokOk m w t):Zbi t.v=true:=by
 rcases h with h|⟨b,o0,n,c,_,_,_,h,_⟩
 ·rw[h];rfl
 ·rw[h];rfl
theorem Zuz{E:Env}(hE:E.ok){Zba:Nat->Array Oper->(St->Mem->Prop)->St->Mem->Prop}(hD:ZeD E Zba)(gW:Zei E Zba){g:FuncId}{fn:Func}{c:Code}
  (hf:E.P.funcs[g]?=some fn) (hn:(fn.name == "runtime.NumGoroutine")=false) (hb:fn.body=some c) (hc:Zav E c=true) (hl:Zbk fn.ntmps c=true) (hz:Zvv E.frz=true) (gA:E.yl=none/\E.ylY=none)
  {m:Mem} {Y:Nat->Prop} (fy:∀mm,E.m0=some mm->m.off Y=mm) {R:Value->Mem->List (List Value)->List Value->Prop} (svs:List SV) (xs:List Box) (ks:List Nat) (ts:List Tok) (lb:Zbd ks=true) (bT:Nat.ble svs.length fn.ntmps=true) (cV:Zng xs svs=true)
  (h:W E Zba c (Zyi E fn.results.toList xs ks ts R) (S0Y svs xs ks ts) m):CXY E.P g (svs.map (ZrH xs)).toArray m Y xs ts R:=by
 refine⟨ZjA hf hn (by simp[hb]),λw hs hx eJ ht jH hY=>?_⟩
 have bP:=Zp9 (n:=fn.ntmps) (ks:=ks) hs hx eJ cV (Nat.le_of_ble_eq_true bT) ht jH hY
 refine callsIn_wide.1 (callsIn_of_wp_marks (F:=Fence.wide) (n:=0) hf hb trivial ?_)
 refine Zcg hE hD gW c hc (.inl rfl) (YOk.none gA.1 gA.2 (λmm ic=>⟨fy mm ic,λg M w' hp k hk=>?_⟩)) (λl hl=>by cases hl) 0 hl bP h ?_
 ·rcases hp.2 k hk with h1|h1|h1
  ·exact h1.2.2
  ·obtain⟨x,h2,rfl⟩:=List.mem_map.1 h1
   exact hp.1.wr _ (hx x h2).1.lt (hx x h2).1.wr
  ·exact hp.1.wr k (hY k h1).1 (hY k h1).2
 have key:∀S' m' a' w',Zxu E fn.results.toList xs ks ts R S' m'->Rel (Zxv fn.ntmps (m.off Y) w (λk=>k∈xs.map (·.b)\/Y k)) S' m' a' w'->LeavesInM Fence.wide 0 E.P fn a'.tmps (λe w'=>
   ∃v m' css tvs,e=.returned v/\(m.off Y).le m'/\Sub m' w'/\NewM m m' (λb=>Y b\/(w.heap.size<=b/\Wr w' b))/\Upd (λk=>k∈xs.map (·.b)\/Y k) w w'/\
   css.length=xs.length/\(∀(i:Nat)(x:Box)(cs:List Value),xs[i]?=some x->css[i]?=some cs->Own m' w' { x with cs:=cs })/\
   tvs.length=ts.length/\(∀(i:Nat)(t:Tok)(tv:Value),ts[i]?=some t->tvs[i]?=some tv->Zbi tv=true/\TokOk m' w' ⟨tv,t.esz⟩/\∀b,(Tok.mk tv t.esz).blk=some b->(Y b\/w.heap.size<=b)/\b ∉ xs.map (·.b))/\
   Zvp ((ts.zip tvs).map λq=>⟨q.2,q.1.esz⟩)/\R v m' css tvs) a'.defers .returning w':=by
  intro S' m' a' w' hk hr
  obtain⟨ms,q1,_,_⟩:=hr.defers
  refine Rel.leave ?_ ms a' w' rfl q1 hr
  clear hr q1
  intro a2 w2 uR hr
  rw[<-uR]
  obtain⟨vs,hk,bS⟩:=Ze9 hE hr hk
  obtain⟨css,h1,h2,hk⟩:=ZfP hk
  obtain⟨tvs,k1,k2,k3,h5⟩:=ZeZ hk
  have h5:=Zlt hr h5
  obtain⟨M,hd⟩:=hr.dom
  simp only[Zvv,Bool.and_eq_true]at hz
  have ry:=ZaB hz.1
  have lz:=ZaB lb
  obtain⟨f1,f2,f3⟩:=ZqS hr ry
  have frzlt:∀id∈E.frz,id < 100000:=λid dH=>Zmp (List.all_eq_true.1 hz.2 id dH)
  have boxOf:∀b,b∈xs.map (·.b)->∃(i:Nat)(x:Box)(cs:List Value),xs[i]?=some x/\x.b=b/\S'.L (bid i)=some { x with cs:=cs }:=λb hb=>by
   obtain⟨y,hy,fW⟩:=List.mem_map.1 hb
   obtain⟨i,hi⟩:=List.getElem?_of_mem hy
   obtain⟨cs,_,gy⟩:=h2 i y hi
   exact⟨i,y,cs,hi,fW,by rw[Nat.zero_add]at gy;exact gy⟩
  have tokY:∀(i:Nat)(t:Tok)(tv:Value),ts[i]?=some t->tvs[i]?=some tv->∃k:Nat,ks[i]?=some k/\S'.tok k=some ⟨tv,t.esz⟩:=k3
  have frzNb:∀id∈E.frz,∀x,S'.L id=some x->x.b ∉ xs.map (·.b):=λid dH x eW hm=>by
   obtain⟨i,y,cs,_,fW,gy⟩:=boxOf _ hm
   have:=hr.apart _ _ _ _ eW gy fW.symm
   have:=frzlt id dH
   simp only[bid]at *
   omega
  refine⟨Zxo vs,ZfO bS,Zxo vs,ZrL S' E.frz m',css,tvs,rfl,mLt hr.le f1,f2,?_,hd.p.1,h1,?_,k1,?_,?_,h5⟩
  ·refine⟨λb o u hu=>?_,λb e he=>?_⟩
   rotate_left
   ·rw[ZpU]at he
    rcases hd.new.k b e he with h6|h6
    ·exact .inl ((Mem.off_le m Y).k b e h6)
    ·rcases hd.p.2 b h6 with h|h|h
     ·exact .inr (.inr ⟨h.1,h.2.2⟩)
     ·exfalso
      obtain⟨i,y,cs,hi,fW,gy⟩:=boxOf b h
      obtain⟨c0,T0,f0,h7⟩:=(hr.own _ _ gy).isC
      obtain⟨es,cl,h8,_⟩:=hr.sub.k b e he
      simp only[fW]at h7
      rw[h7]at h8;cases h8
     ·exact .inr (.inl h)
   have inM:M b->m b o=some u\/Y b\/(w.heap.size<=b/\Wr w2 b)\/b∈xs.map (·.b):=λhm=>by
    rcases hd.p.2 b hm with h|h|h
    ·exact .inr (.inr (.inl ⟨h.1,h.2.2⟩))
    ·exact .inr (.inr (.inr h))
    ·exact .inr (.inl h)
   rcases f3 b o u hu with hv|⟨id,dH,x,eW,gQ⟩
   ·rcases hd.new b o u hv with h6|h6
    ·exact .inl (Mem.off_le m Y b o u h6)
    ·rcases inM h6 with h|h|h|h
     ·exact .inl h
     ·exact .inr (.inl h)
     ·exact .inr (.inr h)
     ·exfalso
      obtain⟨i,y,cs,hi,fW,gy⟩:=boxOf b h
      have:=(hr.own _ _ gy).free (hx y (List.mem_of_getElem? hi)).2.1 o
      simp only[fW]at this
      rw[this]at hv;cases hv
   ·subst gQ
    rcases inM (hd.own id x eW)with h|h|h|h
    ·exact .inl h
    ·exact .inr (.inl h)
    ·exact .inr (.inr h)
    ·exact(frzNb id dH x eW h).elim
  ·intro i x cs hi dM
   obtain⟨cs',h6,h7⟩:=h2 i x hi
   rw[dM]at h6;cases h6
   have ho:=hr.own _ _ h7
   have oB:=(hx x (List.mem_of_getElem? hi)).2.1
   refine⟨ho.cells,λ_ o=>?_,λhz'=>by simp[oB]at hz',ho.whole⟩
   show ZrL S' E.frz m' x.b o=none
   rw[Zd2 S' m' (λid dH y hy e=>frzNb id dH y hy (e ▸ List.mem_map.2 ⟨x,List.mem_of_getElem? hi,rfl⟩))]
   exact ho.free oB o
  ·intro i t tv hi hv
   obtain⟨k,g1,g2⟩:=tokY i t tv hi hv
   obtain⟨g3,g4⟩:=hr.toks k _ g2
   refine⟨g3.sl,g3.same (λ_ _=>rfl) (λb o hb hn=>?_),λb hb=>⟨?_,λhm=>?_⟩⟩
   ·rw[Zd2 S' m' (λid _ y hy e=>(g4 b hb).1 id y hy e)];exact hn
   ·rcases hd.p.2 b (hd.tok _ _ _ g2 hb)with h|h|h
    ·exact .inr h.1
    ·obtain⟨i,y,cs,_,fW,gy⟩:=boxOf b h
     exact((g4 b hb).1 _ _ gy fW).elim
    ·exact .inl h
   ·obtain⟨i,y,cs,_,fW,gy⟩:=boxOf b hm
    exact(g4 b hb).1 _ _ gy fW
  ·intro i j t t' b hi hj dF fD
   rw[List.getElem?_map]at hi hj
   obtain⟨⟨t0,tv⟩,ik,rfl⟩:=Option.map_eq_some_iff.1 hi
   obtain⟨⟨t0',tv'⟩,tn,rfl⟩:=Option.map_eq_some_iff.1 hj
   obtain⟨a1,a2⟩:=List.getElem?_zip_eq_some.1 ik
   obtain⟨a3,a4⟩:=List.getElem?_zip_eq_some.1 tn
   obtain⟨k,g1,g2⟩:=tokY i t0 tv a1 a2
   obtain⟨k',g3,g4⟩:=tokY j t0' tv' a3 a4
   have:=hr.tapart k k' _ _ b g2 g4 dF fD
   subst this
   have hi':=(List.getElem?_eq_some_iff.1 g1).1
   exact(List.getElem?_inj (l:=ks) (i:=i) (j:=j) hi' lz).1 (by rw[g1,g3])
 intro e S' m' a' w' hk hr
 cases e with
 | normal=>exact key S' m' a' w' hk hr
 | ret=>exact key S' m' a' w' hk hr
 | exit _=>exact hk.elim
 | goto _=>exact hk.elim
 | panic _=>exact hk.elim
 | outgrown=>exact hk.elim
def FWY(E:Env)(fn:Func)(svs:List SV)(xs:List Box)(ks:List Nat)(ts:List Tok)(m:Mem)(Y:Nat->Prop)(R:Value->Mem->List (List Value)->List Value->Prop):Prop:=
 W (E.at (m.off Y)) (Zba (E.at (m.off Y))) (Zii fn) (Zyi (E.at (m.off Y)) fn.results.toList xs ks ts R) (S0Y svs xs ks ts) m
theorem Zqa{E:Env}(hE:E.ok)(fE:E.P.follows .mixedOrders=true){g:FuncId}{fn:Func}(hf:E.P.funcs[g]?=some fn){m:Mem}{Y:Nat->Prop}{R:Value->Mem->List (List Value)->List Value->Prop}(svs:List SV)(xs:List Box)(ks:List Nat)(ts:List Tok)(lb:Zbd ks=true)
  (cV:ZyX E fn svs xs=true) (h:FWY E fn svs xs ks ts m Y R):CXY E.P g (svs.map (ZrH xs)).toArray m Y xs ts R:=by
 simp only[ZyX,Bool.and_eq_true,Bool.not_eq_true']at cV
 obtain⟨⟨⟨⟨⟨⟨⟨h1,h2⟩,h3⟩,h4⟩,h5⟩,h8⟩,h6⟩,h7⟩:=cV
 exact Zuz (E:=E.at (m.off Y)) hE (Zno _) (Zj4 (E:=E.at (m.off Y)) hE fE) hf h1 (ZfW h2) (by rw[Zbw];exact h3) h4 h5 (show E.yl=none/\E.ylY=none by simpa using h8) (λmm ic=>Option.some.inj ic) svs xs ks ts lb h6 h7 h
theorem CXY.mono{P:Program}{g:FuncId}{args:Array Value}{m:Mem}{Y:Nat->Prop}{X:List Box}{ts:List Tok}{R R':Value->Mem->List (List Value)->List Value->Prop}(h:CXY P g args m Y X ts R)(k:∀v m' css tvs,(m.off Y).le m'->R v m' css tvs->R' v m' css tvs):CXY P g args m Y X ts R':=
 ⟨h.1,λw h1 h2 h3 h4 h5 h6=>(h.2 w h1 h2 h3 h4 h5 h6).mono λ_ _ ⟨v,m',css,tvs,a1,a2,a3,a4,a5,a6,a7,a8,a9,a10,a11⟩=>⟨v,m',css,tvs,a1,a2,a3,a4,a5,a6,a7,a8,a9,a10,k _ _ _ _ a2 a11⟩⟩
theorem IXY.mono{P:Program}{g:FuncId}{first captured:List Value}{m:Mem}{Y:Nat->Prop}{n:Nat}{V V':Nat->List Value->Mem->Prop}{R R':Mem->Prop}(h:IXY P g first captured m Y n V R)(k:∀i v mi,V i v mi->V' i v mi)(k':∀m',R m'->R' m'):IXY P g first captured m Y n V' R':=
 ⟨h.1,λp hp l w hs hY nY hy=>(h.2 p hp l w hs hY nY (λF n' l' g v M w mi hF bB ⟨e,i,z1,z2,z3⟩=>hy F n' l' g v M w mi hF bB ⟨e,i,z1,z2,k i v mi z3⟩)).mono
  λ_ _ ⟨v,M,m',a1,a2,a3,a4,a5,a6,a7⟩=>⟨v,M,m',a1,a2,a3,a4,a5,a6,k' _ a7⟩⟩
end Go.Eng
namespace Go.Eng
open Go Go.RowKit
def zok(i:TI):Bool:=Nat.beq i.zero.cells.size i.size&&Zdv i.zero.cells.toList&&(i.agg||Nat.beq i.size 1)
structure TRow (P:Program)(t:TypeId)(i:TI):Prop where
 und:P.underlying t=some i.d
 info:(P.info? t).map (λx=>(x.size,x.zero,x.bytes))=some (i.size,some i.zero,i.bytes)
 ok:zok i=true
theorem TRow.tok{P:Program}{t:TypeId}{i:TI}(h:TRow P t i):TOk P t i:=by
 have hz:=h.ok
 simp only[zok,Bool.and_eq_true,Bool.or_eq_true]at hz
 refine⟨h.und,?_,Nat.eq_of_beq_eq_true hz.1.1,Ze3 hz.1.2,λha=>?_⟩
 ·obtain⟨x,hx,e⟩:=Option.map_eq_some_iff.1 h.info
  simp only[Prod.mk.injEq]at e
  exact⟨x,hx,e.1,e.2.1,e.2.2⟩
 ·rcases hz.2 with h1|h1
  ·rw[ha]at h1;cases h1
  ·exact Nat.eq_of_beq_eq_true h1
def Zvy:List (Nat×TI)->Nat->Option TI
 | [],_=>none
 | q::l,t=>bif Nat.beq t q.1 then some q.2 else Zvy l t
def Zxw(P:Program):List (Nat×TI)->Prop
 | []=>True
 | q::l=>TRow P q.1 q.2/\Zxw P l
theorem Zq7{P:Program}:∀{l:List (Nat×TI)},Zxw P l->∀t i,Zvy l t=some i->TOk P t i
 | [],_,t,i,h=>by simp[Zvy]at h
 | q::l,hl,t,i,h=>by
  simp only[Zvy]at h
  cases hb:Nat.beq t q.1 with
  | true=>
   simp only[hb,cond_true,Option.some.injEq]at h
   rw[Nat.eq_of_beq_eq_true hb,<-h];exact hl.1.tok
  | false=>simp only[hb,cond_false]at h;exact Zq7 hl.2 t i h
abbrev Zat(l:List (Option Box)):Prop:=l=l
abbrev Ret(u:Value):Value->Mem->List (List Value)->Prop:=λv _ _=>v=u
theorem Zac{m m':Mem}{R:Value->Mem->List (List Value)->Prop}{v:Value}(h:m.le m')(k:R v m []):∃m'':Mem,m.le m''/\m''.le m'/\R v m'' []:=⟨m,Mem.le_refl m,h,k⟩
theorem ZaS{m m':Mem}{R:Value->Mem->List (List Value)->Prop}{v:Value}(h:m.le m')(k:R v m' []):∃m'':Mem,m.le m''/\m''.le m'/\R v m'' []:=⟨m',h,Mem.le_refl _,k⟩
section
variable {P:Program} {g:FuncId} {args:Array Value} {m:Mem}
theorem Zag{K:Bool->Mem->Prop}{x:Bool}(h:CX P g args m [] (Ret (.bool x)))(k:∀m',m.le m'->K x m'):
  ∃R:Value->Mem->List (List Value)->Prop,True/\CX P g args m [] R/\(∀(v:Value)(m':Mem) (css:List (List Value)),R v m' css->Shape.fits .bool v=true)/\∀(b:Bool)(m':Mem),m.le m'->R (.bool b) m' []->K b m':=
 ⟨_,trivial,h,λv _ _ e=>by rw[e];rfl,λb m' hm e=>by cases e;exact k m' hm⟩
theorem Zax{kk:IntKind}{K:Int->Mem->Prop}{x:Int}(h:CX P g args m [] (Ret (.int kk x)))(k:∀m',m.le m'->K x m'):
  ∃R:Value->Mem->List (List Value)->Prop,True/\CX P g args m [] R/\(∀(v:Value)(m':Mem) (css:List (List Value)),R v m' css->Shape.fits (.int kk) v=true)/\∀(b:Int)(m':Mem),m.le m'->R (.int kk b) m' []->K b m':=
 ⟨_,trivial,h,λv _ _ e=>by rw[e];simp[Shape.fits],λb m' hm e=>by cases e;exact k m' hm⟩
theorem Zai{s:Shape}{R:Value->Mem->List (List Value)->Prop}{Q:(Value->Mem->List (List Value)->Prop)->Prop}(h:CX P g args m [] R)(hs:∀(v:Value)(m':Mem) (css:List (List Value)),R v m' css->s.fits v=true)(k:Q R):
  ∃R:Value->Mem->List (List Value)->Prop,True/\CX P g args m [] R/\(∀(v:Value)(m':Mem) (css:List (List Value)),R v m' css->s.fits v=true)/\Q R:=⟨R,trivial,h,hs,k⟩
end
theorem Zsr{b:Bool}{p q:Prop}:br b p q↔(if b=true then p else q):=by cases b <;> simp[br]
theorem Zal{n:Int}(h1 : -9223372036854775808<=n)(h2:n<=9223372036854775807):IntKind.i64.wrap n=n:=by
 unfold IntKind.wrap
 simp only[IntKind.bits,IntKind.signed,Bool.true_and]
 have e:(2:Int) ^ 64=18446744073709551616:=by decide
 have e':(2:Int) ^ (64 - 1)=9223372036854775808:=by decide
 simp only[e,e']
 split
 ·rename_i h
  have:=of_decide_eq_true h
  omega
 ·rename_i h
  have:¬(n % 18446744073709551616 ≥ 9223372036854775808):=λhh=>h (decide_eq_true hh)
  omega
theorem Zcp{f f':Nat}{a b a' b':List Value}(h:Value.func (.func f) a.toArray b.toArray=.func (.func f') a'.toArray b'.toArray):f=f'/\a=a'/\b=b':=by
 simpa using h
theorem Zae{a b:Bool}(h:a=b):[Value.bool a]=[Value.bool b]:=by rw[h]
end Go.Eng
namespace Go.Eng
open Go Go.RowKit Go.ChangeShapes Go.WideShapes
def Zoj(W:World):Mem:=⟨λb o=>W.cell? ⟨b,o,none⟩,λ_=>none⟩
theorem ZfX{H:Type}{enc:TypeId×Value->H}{P:Program}(hl:laidOutB P=true){W W':World}{sp:Nat->Bool}:∀{ts:List TypeId} {vs:List Value} {ds:List (DataW H)} {ps:List MemPlace},(∀t∈ts,P.readableRec t=true/\t < P.types.size)->DataW.TrodAll enc P W 0 (λ_=>true) true ts vs ds ps->(∀p∈ps,W.sameAt W' p)->(∀p∈ps,sp p.block=true)->DataW.TrodAll enc P W' 0 sp true ts vs ds ps
 | [],[],[],ps,_,h,_,_=>h
 | t::ts,v::vs,d::ds,ps,ht,h,hs,tq=>by
  obtain⟨p,q,h1,h2,rfl⟩:=h
  exact⟨p,q,WideElems.Trod_stays hl (ht t (by simp)).1 (ht t (by simp)).2 h1 (λx hx=>hs x (by simp[hx])) (λx hx=>tq x (by simp[hx])),ZfX hl (λt' h'=>ht t' (by simp[h'])) h2 (λx hx=>hs x (by simp[hx])) (λx hx=>tq x (by simp[hx])),rfl⟩
 | [],[],_::_,_,_,h,_,_=>h.elim
 | [],_::_,_,_,_,h,_,_=>by simp[DataW.TrodAll]at h
 | _::_,[],_,_,_,h,_,_=>by simp[DataW.TrodAll]at h
 | _::_,_::_,[],_,_,h,_,_=>h.elim
theorem Zss{H:Type}{enc:TypeId×Value->H}{P:Program}{g:FuncId}{f:Func}{s:ChangeSpec}{W:World}{args:Array Value}{ds gs:List (DataW H)}{before:List MemPlace}{tb:TypeId}(hl:laidOutB P=true)
  (lc:∀t∈f.params.toList,P.readableRec t=true/\t < P.types.size) (hW:DataW.Whole enc P f.params.toList s.vars false W args.toList ds gs before) (hv:s.vars=[])
  (hr:(s.fn H (ds++gs)).results=[.lit (.bool true)]) (ha:(s.fn H (ds++gs)).args=ds) (hw:(s.fn H (ds++gs)).vars=[]) (ld:f.resultTypes=#[tb]) (rx:P.underlying tb=some .bool)
  (hU:CX P g args (Zoj W) [] (Ret (.bool true))):
  Calls P g args W λe W'=>∃v,e=.returned v/\s.post enc P f false true false false W args v W':=by
 refine(hU.2 W ⟨λ_ _ _ h=>h,λ_ _ h=>by cases h⟩ (by simp) (by simp)).mono ?_
 rintro e W' ⟨v,m',css,rfl,hm,dO,dA,hk,_,_,rfl⟩
 have hb:Below W.heap.size W W':=hk.below
 have bB:∀p∈before,p.block < W.heap.size:=λp hp=>by simpa using hW.lt p hp
 have hW':=hW
 obtain⟨p,q,hA,hV,rfl,hz,hn⟩:=hW
 rw[hv]at hV
 obtain⟨rfl,rfl⟩:gs=[]/\q=[]:=by
  cases gs with
  | nil=>exact⟨rfl,hV⟩
  | cons g gs=>exact hV.elim
 refine⟨_,rfl,ds,[],p++[],[],p,[],hW',?_,?_,?_,hb.frame _,λh=>by cases h⟩
 ·rw[hr,ld]
  exact trodAll_cons_mk (shut_bool rx _) trodAll_mk0
 ·rw[ha]
  exact ZfX hl lc hA (λx hx=>hb.same (bB x (by simp[hx]))) (λx hx=>by simpa using bB x (by simp[hx]))
 ·rw[hw,hv];rfl
end Go.Eng