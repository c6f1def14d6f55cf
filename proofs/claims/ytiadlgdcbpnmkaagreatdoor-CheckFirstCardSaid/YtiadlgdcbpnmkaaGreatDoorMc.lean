/- The engine: a reckoner over the code of a program in Lean, with its soundness; it names no program. No condition. -/
import Derived.Test.YtiadlgdcbpnmkaaGreatDoorMb
import Derived.OrdersIn
import Derived.ProofKit
import Derived.OpenShut
import Derived.JoinedCond
import Derived.Deep.Slices
set_option linter.unusedVariables false
set_option linter.unusedSimpArgs false
set_option linter.unusedSectionVars false
namespace Go.Eng
open Go Go.RowKit
theorem Zn5{F:Fence}{n:Nat}{P:Program}{c:Code}{Q:Exit->Act->World->Prop}{a:Act}{w:World}(Inv:Nat->Act->World->Prop)(h0:∃q,Inv q a w)
  (round:∀q a w,Inv q a w->c.wpIn F n P (Exit.then (λa' w'=>∃q',q' < q/\Inv q' a' w') Q) a w):(Code.loop c).wpIn F n P Q a w:=by
 classical
 have ig:∀a w,(∃q,Inv q a w)->∃q,Inv q a w/\∀q',Inv q' a w->q<=q':=by
  intro a w ⟨q,hq⟩
  induction q using Nat.strongRecOn with
  | _ q ih=>
   by_cases hh:∃q',q' < q/\Inv q' a w
   ·obtain⟨q',h1,h2⟩:=hh;exact ih q' h1 h2
   ·exact⟨q,hq,λq' hq'=>Nat.le_of_not_lt λbF=>hh ⟨q',bF,hq'⟩⟩
 let μ:Act->World->Nat:=λa w=>if h:∃q,Inv q a w then Classical.choose (ig a w h)else 0
 have hμ:∀a w (h:∃q,Inv q a w),Inv (μ a w) a w/\∀q',Inv q' a w->μ a w<=q':=λa w h=>by
  have:=Classical.choose_spec (ig a w h)
  simp only[μ,h,dif_pos];exact this
 refine wpIn_loop (λa w=>∃q,Inv q a w) μ h0 λa w hI=>?_
 refine wpIn_mono (round _ a w (hμ a w hI).1) λe a' w' he=>?_
 cases e with
 | normal=>
  obtain⟨q',h1,h2⟩:=he
  exact⟨⟨q',h2⟩,Nat.lt_of_le_of_lt ((hμ a' w' ⟨q',h2⟩).2 q' h2) h1⟩
 | _=>exact he
theorem ZcJ{P:Program}{b:Frame}{a:Act}{k:List Item}{cs:List Frame}{w:World}{c:Code}:step P (lone (b.atR a (.code (.scope c)::k)) cs w)=.next (lone (b.atR a (.code c::.inScope c::k)) cs w):=
 step_lone_go (by simp[stepG,stepG.exec,Frame.atR])
theorem ZkG{P:Program}{b:Frame}{a:Act}{k:List Item}{cs:List Frame}{w:World}{c:Code}:step P (lone (b.atR a (.inScope c::k)) cs w)=.next (lone (b.atR a k) cs w):=
 step_lone_go (by simp[stepG,stepG.exec,Frame.atR])
theorem ZpO{F:Fence}{n:Nat}{P:Program}{a:Act}{w:World}{Q:Exit->Act->World->Prop}{c:Code}(h:c.wpIn F n P (λe a w=>match e with
  | .goto _=>False
  | e=>Q e a w) a w):(Code.scope c).wpIn F n P Q a w:=by
 intro b k cs pB hb hr
 have h0:(lone (b.atR a (.code (.scope c)::k)) cs w).fenced P F:=fenced_calm hb hr rfl
 obtain⟨e,a₁,w₁,hq,dS⟩:=h b (.inScope c::k) cs pB hb hr
 cases e with
 | normal=>exact⟨.normal,a₁,w₁,hq,.head h0 ZcJ (StepsIn.trans dS (.one (fenced_calm hb hr rfl) ZkG))⟩
 | exit id=>
  have hx:exitTo id (.inScope c::k)=exitTo id k:=by simp[exitTo]
  exact⟨.exit id,a₁,w₁,hq,λk' hk=>.head h0 ZcJ (dS.1 k' (by rw[hx];exact hk)),
    λhr' hk=>let ⟨k₁,h1,h2⟩:=dS.2 hr' (by rw[hx];exact hk);⟨k₁,h1,.head h0 ZcJ h2⟩⟩
 | goto l=>exact hq.elim
 | ret=>exact⟨_,a₁,w₁,hq,.of_steps (.one h0 ZcJ) dS⟩
 | panic ch=>exact⟨_,a₁,w₁,hq,.of_steps (.one h0 ZcJ) dS⟩
 | outgrown=>exact⟨_,a₁,w₁,hq,.of_steps (.one h0 ZcJ) dS⟩
theorem YOk.cold{E:Env}{C:Ctx}(h:YOk E C):YOk E.cold C:=⟨h.y,h.yY,h.m0⟩
def Zet(E:Env)(Zbh:Nat->Array Oper->(St->Mem->Prop)->St->Mem->Prop):Prop:=
 ∀{C:Ctx} {F:Fence} (_:FOk F) (_:YOk E C) (n:Nat) (id:Nat) (ops:Array Oper) {K:St->Mem->Prop} {S:St} {m:Mem} {a:Act} {w:World} {Q:Exit->Act->World->Prop},
  ZlJ C.n ops.toList=true->Rel C S m a w->Zbh id ops K S m->(∀S' m' a' w',K S' m'->Rel C S' m' a' w'->Q .normal a' w')->(Code.region id ops true).wpIn F n E.P Q a w
theorem Zcl{E:Env}(hE:E.ok){Zbh:Nat->Array Oper->(St->Mem->Prop)->St->Mem->Prop}(hD:Ze3 E Zbh)(gG:Zet E Zbh):
  ∀(c:Code),Zas E c=true->∀{F:Fence} (_:FOk F) {C:Ctx} (_:YOk E C) (_:ROk F C) (n:Nat),Zbp C.n c=true->∀{S:St} {m:Mem} {a:Act} {w:World} {K:KT} {Q:Exit->Act->World->Prop},Rel C S m a w->W E Zbh c K S m->
   (∀e S' m' a' w',K e S' m'->Rel C S' m' a' w'->Q e a' w')->c.wpIn F n E.P Q a w
 | .skip,_,F,hF,C,hY,hR,n,_,S,m,a,w,K,Q,hr,h,hK=>wpIn_skip (hK _ _ _ _ _ h hr)
 | .label _,_,F,hF,C,hY,hR,n,_,S,m,a,w,K,Q,hr,h,hK=>wpIn_label (hK _ _ _ _ _ h hr)
 | .exit _,_,F,hF,C,hY,hR,n,_,S,m,a,w,K,Q,hr,h,hK=>wpIn_exit (hK _ _ _ _ _ h hr)
 | .ret,_,F,hF,C,hY,hR,n,_,S,m,a,w,K,Q,hr,h,hK=>wpIn_ret (hK _ _ _ _ _ h hr)
 | .region id ops draw,hc,F,hF,C,hY,hR,n,hl,S,m,a,w,K,Q,hr,h,hK=>by
  simp only[W]at h
  simp only[Zbp]at hl
  cases hj:E.joins id with
  | none=>
   simp only[hj]at h
   cases draw with
   | true=>exact gG hF hY n id ops hl hr (by simpa using h) (λS' m' a' w' hk bH=>hK _ _ _ _ _ hk bH)
   | false=>
    simp only[cond_false]at h
    exact Zu3 hY hr h λK' S' m' hr' h' fin=>wpIn_region (ZiK hE hF hY hl _ hr' h' (λS2 m2 a2 w2 hk bH=>by
     obtain⟨S3,m3,k3,r3⟩:=fin S2 m2 a2 w2 hk bH
     exact hK _ _ _ _ _ k3 r3))
  | some outs=>
   simp only[hj]at h
   obtain⟨xs,_,h1,h2⟩:=Shape.exL_elim _ _ h
   have fin:∀S' m' a' w',((S'.gh=S.gh/\S'.fo=S.fo/\ZbC S' Zgg S.ids=ZbC S Zgg S.ids/\Za0 S' Zgg S.tkeys=Za0 S Zgg S.tkeys/\ZgZ S' outs λxs'=>xs'=xs)/\SameOut (ZaC ops.toList) S S'/\m.le m')->Rel C S' m' a' w'->Q .normal a' w':=by
    rintro S' m' a' w' ⟨⟨g0,gf,g1,g2,g3⟩,g4,g5⟩ bH
    obtain⟨xs',_,e2,e3,rfl⟩:=ZcT bH g3
    refine hK _ _ _ _ _ h2 ?_
    have hz:=Zc7 (A:=⟨outs,[],[],false⟩) (css:=[]) (tvs:=[]) hr.ok bH gf g4 (by simpa[ZbC,Zgg]using g1) (by simpa[Za0,Zgg]using g2) e2 rfl (by simp) rfl (by simp)
    have:Za6 S (ZaC ops.toList) ⟨outs,[],[],false⟩ S'.gh xs' [] []={ S with env:=ZbG (λi=>bif (ZaC ops.toList).any (Nat.beq i ·)then none else S.env i) outs xs' }:=by
     simp[Za6,ZjN,Zfi,g0]
    rw[this]at hz
    exact hz.forget g5 hr.le (λid x hx hf=>(hr.own id x hx).known hf)
   cases draw with
   | true=>
    simp only[cond_true]at h1
    cases fI:E.last id with
    | true=>simp only[fI,cond_true]at h1
    | false=>
    simp only[fI,cond_false]at h1
    have h1':=hD id ops _ (λS' m'=>(S'.gh=S.gh/\S'.fo=S.fo/\ZbC S' Zgg S.ids=ZbC S Zgg S.ids/\Za0 S' Zgg S.tkeys=Za0 S Zgg S.tkeys/\ZgZ S' outs λxs'=>xs'=xs)/\SameOut (ZaC ops.toList) S S'/\m.le m') S m (λS' m' hs hm y=>⟨by have y':=Zdm y;rw[Zcw,Zcx]at y';exact⟨y'.1 rfl,y'.2⟩,hs,hm.le fI⟩) h1
    exact gG hF hY n id ops hl hr h1' fin
   | false=>
    simp only[cond_false]at h1
    have h1':ZuS E.cold ops (List.range ops.size) (λS' m'=>(S'.gh=S.gh/\S'.fo=S.fo/\ZbC S' Zgg S.ids=ZbC S Zgg S.ids/\Za0 S' Zgg S.tkeys=Za0 S Zgg S.tkeys/\ZgZ S' outs λxs'=>xs'=xs)/\SameOut (ZaC ops.toList) S S'/\m.le m') S m:=
     ZhD (E:=E.cold) (λS' m' hs hm y=>⟨by have y':=Zdm y;rw[Zcw,Zcx]at y';exact⟨y'.1 rfl,y'.2⟩,hs,hm⟩) h1
    exact wpIn_region (ZiK (E:=E.cold) hE hF hY.cold hl _ hr h1' fin)
 | .seq x y,hc,F,hF,C,hY,hR,n,hl,S,m,a,w,K,Q,hr,h,hK=>by
  simp only[Zas,Zbp,Bool.and_eq_true]at hc hl
  simp only[W]at h
  cases jB:E.cuts (Zax y)with
  | none=>
   simp only[jB]at h
   refine wpIn_seq (Zcl hE hD gG x hc.1.1 hF hY hR n hl.1 hr h λe S' m' a' w' hk bH=>?_)
   cases e with
   | normal=>exact Zcl hE hD gG y hc.1.2 hF hY hR n hl.2 bH hk hK
   | _=>exact hK _ _ _ _ _ hk bH
  | some A=>
   simp only[jB]at h hc
   obtain⟨J,h1,h2⟩:=h
   have h1':=Zd2 hD x hc.1.1 (K':=λe S' m'=>(match e with
    | .normal=>ZjO A.gh S'.gh S.gh S'.fo S.fo (Zkw (ZbC S' A S.ids) (ZbC S A S.ids) (Zkx (Za0 S' A S.tkeys) (Za0 S A S.tkeys) (ZgZ S' A.slots λxs=>Zhy S' A.boxes λcss=>Zd1 S' A.toks λtvs=>J (ghs A.gh S'.gh xs) css tvs m')))
    | e=>K e S' m')/\SameOut (ZiZ x) S S'/\leT E.thaw m m') (λe S' m' hs hm y=>⟨y,hs,hm⟩) h1
   refine wpIn_seq (Zcl hE hD gG x hc.1.1 hF hY hR n hl.1 hr h1' ?_)
   rintro e S' m' a' w' ⟨hk,hs,gC⟩ bH
   cases e with
   | normal=>
    obtain⟨r0,rf,hk⟩:=Zdm hk
    obtain⟨r1,hk⟩:=Zcw.1 hk
    obtain⟨r2,hk⟩:=Zcx.1 hk
    obtain⟨xs,f1,f2,f3,hk⟩:=ZcT bH hk
    obtain⟨css,g1,g2,hk⟩:=Zct hk
    obtain⟨tvs,k1,k2,hJ⟩:=ZbD hk
    have fV:∀v∈tvs,ZbM v=true:=λv hv=>by
     obtain⟨i,hi⟩:=List.getElem?_of_mem hv
     have bF:=(List.getElem?_eq_some_iff.1 hi).1
     obtain⟨qe,iJ⟩:∃qe,A.toks[i]?=some qe:=⟨_,List.getElem?_eq_getElem (by omega)⟩
     exact(k2 i qe.1 qe.2 v iJ hi).1
    exact Zcl hE hD gG y hc.1.2 hF hY hR n hl.2 (Zc7 hr.ok bH rf hs r1 r2 f2 g1 g2 k1 k2) (ZcV (ZcU (Shape.allL_fits _ _ (Zeq h2 r0) xs f1) css g1) tvs k1 fV m' gC hJ) hK
   | _=>exact hK _ _ _ _ _ hk bH
 | .cond c x y,hc,F,hF,C,hY,hR,n,hl,S,m,a,w,K,Q,hr,h,hK=>by
  simp only[Zas,Zbp,Bool.and_eq_true]at hc hl
  obtain⟨v,hv,h⟩:=Zar h
  obtain⟨h1,h2⟩:=Zaf h
  obtain⟨b,rfl⟩:∃b,v=.bool b:=⟨_,ZbZ h1⟩
  simp only[Zc3]at h2
  refine wpIn_cond (hr.ev hv) ?_
  cases b
  ·exact Zcl hE hD gG y hc.2 hF hY hR n hl.2 hr h2 hK
  ·exact Zcl hE hD gG x hc.1 hF hY hR n hl.1 hr h2 hK
 | .block id x,hc,F,hF,C,hY,hR,n,hl,S,m,a,w,K,Q,hr,h,hK=>by
  simp only[Zas,Zbp]at hc hl
  simp only[W]at h
  refine wpIn_block (Zcl hE hD gG x hc hF hY hR n hl hr h λe S' m' a' w' hk bH=>?_)
  cases e with
  | exit id'=>
   simp only at hk
   simp only[Exit.inBlock]
   cases hb:Nat.beq id' id with
   | true=>
    simp only[hb,cond_true]at hk
    rw[if_pos (Nat.eq_of_beq_eq_true hb)]
    exact hK _ _ _ _ _ hk bH
   | false=>
    simp only[hb,cond_false]at hk
    rw[if_neg (λe=>by subst e;simp at hb)]
    exact hK _ _ _ _ _ hk bH
  | _=>exact hK _ _ _ _ _ hk bH
 | .loop x,hc,F,hF,C,hY,hR,n,hl,S,m,a,w,K,Q,hr,h,hK=>by
  simp only[Zas,Zbp,Bool.and_eq_true]at hc hl
  simp only[W]at h
  obtain⟨I,h1,h2⟩:=h
  generalize hA:E.loops (Zax x)=A at *
  obtain⟨xs,f1,f2,f3,h1⟩:=ZcT hr h1
  obtain⟨css,g1,g2,h1⟩:=Zct h1
  obtain⟨tvs,k1,k2,q,h1⟩:=ZbD h1
  have cN:=hr.ok
  refine Zn5 (λq a w=>∃g xs css tvs m',(A.gh=false->g=S.gh)/\Shape.fitsL (A.slots.map (·.2)) xs=true/\css.length=A.boxes.length/\tvs.length=A.toks.length/\(∀v∈tvs,ZbM v=true)/\leT E.thaw m m'/\I (ghs A.gh g xs) css tvs m' q/\Rel C (Za6 S (ZiZ x) A g xs css tvs) m' a w) ?_ ?_
  ·refine⟨q,S.gh,xs,css,tvs,m,λ_=>rfl,f1,g1,k1,λv hv=>?_,leT.refl _ m,h1,?_⟩
   ·obtain⟨i,hi⟩:=List.getElem?_of_mem hv
    have bF:=(List.getElem?_eq_some_iff.1 hi).1
    obtain⟨qe,iJ⟩:∃qe,A.toks[i]?=some qe:=⟨_,List.getElem?_eq_getElem (by omega)⟩
    exact(k2 i qe.1 qe.2 v iJ hi).1
   ·exact Zc7 cN hr rfl (SameOut.refl _ _) rfl rfl f2 g1 g2 k1 k2
  ·rintro q a w ⟨g,xs,css,tvs,m',hg,f1,g1,k1,k2,hm,hI,bH⟩
   have hb:=ZcV (ZcU (Shape.allL_fits _ _ (Zeq h2 hg) xs f1) css g1) tvs k1 k2 m' q hm hI
   have hb':=Zd2 hD x hc.1 (K':=λe S' m''=>(match e with
    | .normal=>ZjO A.gh S'.gh S.gh S'.fo S.fo (Zkw (ZbC S' A S.ids) (ZbC S A S.ids) (Zkx (Za0 S' A S.tkeys) (Za0 S A S.tkeys) (ZgZ S' A.slots λxs'=>Zhy S' A.boxes λcss'=>Zd1 S' A.toks λtvs'=>∃n',n' < q/\I (ghs A.gh S'.gh xs') css' tvs' m'' n')))
    | e=>K e S' m'')/\SameOut (ZiZ x) (Za6 S (ZiZ x) A g xs css tvs) S'/\leT E.thaw m' m'') (λe S' m'' hs hm y=>⟨y,hs,hm⟩) hb
   refine Zcl hE hD gG x hc.1 hF hY hR n hl bH hb' ?_
   rintro e S' m'' a' w' ⟨hk,hs,gC⟩ jH
   cases e with
   | normal=>
    obtain⟨r0,rf,hk⟩:=Zdm hk
    obtain⟨r1,hk⟩:=Zcw.1 hk
    obtain⟨r2,hk⟩:=Zcx.1 hk
    obtain⟨xs',f1',f2',f3',hk⟩:=ZcT jH hk
    obtain⟨css',g1',g2',hk⟩:=Zct hk
    obtain⟨tvs',k1',k2',q',bF,hI'⟩:=ZbD hk
    have hm':leT E.thaw m m'':=leT.trans hm gC
    refine⟨q',bF,S'.gh,xs',css',tvs',m'',r0,f1',g1',k1',λv hv=>?_,hm',hI',?_⟩
    ·obtain⟨i,hi⟩:=List.getElem?_of_mem hv
     have bF:=(List.getElem?_eq_some_iff.1 hi).1
     obtain⟨qe,iJ⟩:∃qe,A.toks[i]?=some qe:=⟨_,List.getElem?_eq_getElem (by omega)⟩
     exact(k2' i qe.1 qe.2 v iJ hi).1
    ·have fH:SameOut (ZiZ x) S S':=SameOut.trans (ZdF (S':=Za6 S (ZiZ x) A g xs css tvs) hc.2 rfl) hs
     exact Zc7 cN jH rf fH r1 r2 f2' g1' g2' k1' k2'
   | _=>exact hK _ _ _ _ _ hk jH
 | .goto _,_,F,hF,C,hY,hR,n,_,S,m,a,w,K,Q,hr,h,hK=>by simp[W]at h
 | .scope x,hc,F,hF,C,hY,hR,n,hl,S,m,a,w,K,Q,hr,h,hK=>by
  simp only[Zas,Zbp]at hc hl
  simp only[W]at h
  refine ZpO (Zcl hE hD gG x hc hF hY hR n hl hr h λe S' m' a' w' hk bH=>?_)
  cases e with
  | goto l=>exact hk.elim
  | _=>exact hK _ _ _ _ _ hk bH
 | .rangeFunc f ps x y,hc,F,hF,C,hY,hR,n,hl,S,m,a,w,K,Q,hr,h,hK=>by
  simp only[Zas,Zbp,Bool.and_eq_true]at hc hl
  simp only[W]at h
  cases mR:E.rgY (Zax y)with
  | true=>
   rw[mR,cond_true]at h
   exact ZmF hF hY hR n (λhF' _ hY' hR' n' hl'=>Zcl hE hD gG x hc.1 hF' hY' hR' n' hl') (λhF' _ hY' hR' n' hl'=>Zcl hE hD gG y hc.2 hF' hY' hR' n' hl') hl.2.1 hl.2.2 hl.1 hr h hK
  | false=>
  rw[mR,cond_false]at h
  exact Zn3 hF hY hR n (λhF' _ hY' hR' n' hl'=>Zcl hE hD gG x hc.1 hF' hY' hR' n' hl') (λhF' _ hY' hR' n' hl'=>Zcl hE hD gG y hc.2 hF' hY' hR' n' hl')
   (λhk=>Zd2 hD x hc.1 (λe S' m' _ hm y=>⟨y,hm⟩) hk) (λhk=>Zd2 hD y hc.2 (λe S' m' _ hm y=>⟨y,hm⟩) hk) hl.2.1 hl.2.2 hl.1 hr h hK
 | .refuse _,_,F,hF,C,hY,hR,n,_,S,m,a,w,K,Q,hr,h,hK=>by simp[W]at h
def bid(j:Nat):Nat:=100000+j
def Zrv(xs:List Box):SV->Value
 | .v x=>x
 | .loc id off=>match xs[id - 100000]? with
  | some x=>.pointer (some ⟨x.b,off,none⟩)
  | none=>undef
 | .sl id n c=>match xs[id - 100000]? with
  | some x=>.slice (some ⟨x.b,0,none⟩) n c
  | none=>undef
def Zww(xs:List Box):SV->Bool
 | .v _=>true
 | .loc id _=>Nat.ble 100000 id&&Nat.blt (id - 100000) xs.length
 | .sl id _ _=>Nat.ble 100000 id&&Nat.blt (id - 100000) xs.length
def Znp(xs:List Box):List SV->Bool
 | []=>true
 | s::l=>Zww xs s&&Znp xs l
def S0(svs:List SV)(xs:List Box):St:=
 {env:=λi=>svs[i]?
  L:=λid=>bif Nat.ble 100000 id then xs[id - 100000]? else none
  ids:=(List.range xs.length).map bid
  tok:=λ_=>none
  tkeys:=[]
  gh:=0
  fo:=false }
def Ztb(E:Env)(S:St)(m:Mem):ResultVar->(Value->Prop)->Prop
 | .tmp t,k=>wv S (.tmp t) k
 | .cell t T,k=>Zel E S m T (.tmp t) k
def ZpP(tmps:Array Value):ResultVar->Sem Value
 | .tmp t=>pure (tmps.getD t undef)
 | .cell a t=>do loadVar t (<-asAddr (tmps.getD a undef))
def Zwx(E:Env)(S:St)(m:Mem):List ResultVar->(List Value->Prop)->Prop
 | [],k=>k []
 | r::l,k=>Ztb E S m r λv=>Zwx E S m l λvs=>k (v::vs)
def Zwi:List Value->Value
 | [v]=>v
 | vs=>.tuple vs.toArray
def ZuJ(S:St):Nat->List Box->(List (List Value)->Prop)->Prop
 | _,[],k=>k []
 | j,x::xs,k=>match S.L (bid j)with
  | none=>False
  | some y=>{ y with cs:=x.cs }=x/\ZuJ S (j+1) xs λcss=>k (y.cs::css)
def ZuK(l:List Nat):Bool:=Zbj l&&l.all (λi=>Nat.blt i 100000)
def Ztc(S:St):List Nat->Mem->Prop->Prop
 | [],_,k=>k
 | id::l,m,k=>match S.L id with
  | none=>Ztc S l m k
  | some x=>bif x.fz then Ztc S l m k else(m.free x.b->m.k x.b=none->Ztc S l m k)
theorem ZfK{C:Ctx}{S:St}{m:Mem}{a:Act}{w:World}(hr:Rel C S m a w):∀{l:List Nat} {k:Prop},Ztc S l m k->k
 | [],k,h=>h
 | id::l,k,h=>by
  unfold Ztc at h
  cases hx:S.L id with
  | none=>simp only[hx]at h;exact ZfK hr h
  | some x=>
   simp only[hx]at h
   cases hz:x.fz with
   | true=>simp only[hz,cond_true]at h;exact ZfK hr h
   | false=>
    simp only[hz,cond_false]at h
    refine ZfK hr (h ((hr.own id x hx).free hz) ?_)
    cases hk:m.k x.b with
    | none=>rfl
    | some e=>
     exfalso
     obtain⟨c0,T0,f0,h7⟩:=(hr.own _ _ hx).isC
     obtain⟨es,cl,h8,_⟩:=hr.sub.k x.b e hk
     rw[h7]at h8;cases h8
def Zu5(E:Env)(S:St)(m:Mem)(k:Prop):Prop:=bif E.kF then Ztc S E.frz m k else k
theorem ZlQ{C:Ctx}{E:Env}{S:St}{m:Mem}{a:Act}{w:World}(hr:Rel C S m a w){k:Prop}(h:Zu5 E S m k):k:=by
 unfold Zu5 at h
 cases hk:E.kF with
 | true=>rw[hk]at h;exact ZfK hr h
 | false=>rw[hk]at h;exact h
def ZxU(E:Env)(rs:List ResultVar)(m0:Mem)(xs:List Box)(R:Value->Mem->List (List Value)->Prop)(S:St)(m:Mem):Prop:=
 Zwx E S m rs λvs=>ZuJ S 0 xs λcss=>Zu5 E S m (∃m'',m0.le m''/\m''.le (Zrz S E.frz m)/\R (Zwi vs) m'' css)
def Zx1(E:Env)(rs:List ResultVar)(m0:Mem)(xs:List Box)(R:Value->Mem->List (List Value)->Prop):KT:=λe S m=>match e with
 | .normal=>ZxU E rs m0 xs R S m
 | .ret=>ZxU E rs m0 xs R S m
 | _=>False
theorem Zn6{P:Program}{T:TypeId}{x v:Value}{w:World}(h:(Instr.loadAt T x).run P w=.ok v w):(do loadVar T (<-asAddr x):Sem Value).run P w=.ok v w:=by
 cases x with
 | pointer p=>
  cases p with
  | none=>simp[Instr.loadAt,Instr.sureAddr]at h
  | some p=>simpa[Instr.loadAt,Instr.sureAddr,asAddr]using h
 | _=>simp[Instr.loadAt,Instr.sureAddr]at h
theorem ZmG{a b:Nat}(h:Nat.blt a b=true):a < b:=Nat.le_of_ble_eq_true h
section
variable {C:Ctx} {S:St} {m:Mem} {a:Act} {w:World}
theorem ZkH{E:Env}(hE:E.ok)(hr:Rel C S m a w){r:ResultVar}{k:Value->Prop}(h:Ztb E S m r k):∃v,k v/\(ZpP a.tmps r).run E.P w=.ok v w:=by
 cases r with
 | tmp t=>
  obtain⟨v,hv,hk⟩:=Zar h
  refine⟨v,hk,?_⟩
  have:=hr.ev hv
  simp only[Act.eval]at this
  simp only[ZpP]
  rw[<-this];rfl
 | cell t T=>
  obtain⟨v,hk,bK⟩:=Zem hE hr h
  exact⟨v,hk,Zn6 bK⟩
theorem ZfL{E:Env}(hE:E.ok)(hr:Rel C S m a w):∀{rs:List ResultVar} {k:List Value->Prop},Zwx E S m rs k->∃vs,k vs/\(rs.mapM (ZpP a.tmps)).run E.P w=.ok vs w
 | [],k,h=>⟨[],h,by simp⟩
 | r::l,k,h=>by
  obtain⟨v,h,h1⟩:=ZkH hE hr h
  obtain⟨vs,hk,h2⟩:=ZfL hE hr h
  refine⟨v::vs,hk,?_⟩
  rw[List.mapM_cons]
  simp only[Sem.run_bind,h1,Result.andThen_ok,h2]
  rfl
theorem Zgm{fn:Func}{tmps:Array Value}{P:Program}{w:World}{vs:List Value}(h:(fn.results.toList.mapM (ZpP tmps)).run P w=.ok vs w):(results fn tmps).run P w=.ok (Zwi vs) w:=by
 have e:results fn tmps=(do
  let vs <-fn.results.mapM (ZpP tmps)
  pure (if h:vs.size=1 then vs[0]else .tuple vs)):=rfl
 rw[e,Array.mapM_eq_mapM_toList]
 simp only[Sem.run_bind,Sem.run_map,h,Result.andThen_ok]
 match vs with
 | []=>rfl
 | [v]=>rfl
 | v::u::l=>rfl
theorem Zgn:∀{xs:List Box} {j:Nat} {k:List (List Value)->Prop},ZuJ S j xs k->∃css,css.length=xs.length/\(∀(i:Nat)(x:Box),xs[i]?=some x->∃cs,css[i]?=some cs/\S.L (bid (j+i))=some { x with cs:=cs })/\k css
 | [],j,k,h=>⟨[],rfl,by simp,h⟩
 | x::xs,j,k,h=>by
  simp only[ZuJ]at h
  cases hL:S.L (bid j)with
  | none=>simp[hL]at h
  | some y=>
   simp only[hL]at h
   obtain⟨h1,h2⟩:=h
   obtain⟨css,g1,g2,g3⟩:=Zgn h2
   refine⟨y.cs::css,by simp[g1],?_,g3⟩
   intro i z hi
   cases i with
   | zero=>
    simp at hi;subst hi
    refine⟨y.cs,by simp,?_⟩
    rw[Nat.add_zero,hL,<-h1]
   | succ i=>
    obtain⟨cs,h3,h4⟩:=g2 i z (by simpa using hi)
    exact⟨cs,by simpa using h3,by rw[<-h4];congr 2;omega⟩
theorem Zee(S:St)(m:Mem):∀{l:List Nat} {b:Nat},(∀id∈l,∀x,S.L id=some x->x.b≠b)->∀o,Zrz S l m b o=m b o
 | [],b,_,o=>rfl
 | id::l,b,h,o=>by
  have ih:=Zee S m (l:=l) (b:=b) (λi hi=>h i (by simp[hi])) o
  simp only[Zrz]
  cases hL:S.L id with
  | none=>exact ih
  | some x=>
   simp only
   cases hz:x.fz with
   | true=>exact ih
   | false=>
    simp only[cond_false]
    rw[Mem.add_other _ (Ne.symm (h id (by simp) x hL))];exact ih
theorem ZqN(hr:Rel C S m a w):∀{l:List Nat},l.Nodup->m.le (Zrz S l m)/\Sub (Zrz S l m) w/\(∀b o v,Zrz S l m b o=some v->m b o=some v\/∃id∈l,∃x,S.L id=some x/\x.b=b)
 | [],_=>⟨Mem.le_refl m,hr.sub,λb o v h=>.inl h⟩
 | id::l,hn=>by
  obtain⟨h1,h2⟩:=List.nodup_cons.1 hn
  obtain⟨i1,i2,i3⟩:=ZqN hr h2
  simp only[Zrz]
  cases hL:S.L id with
  | none=>exact⟨i1,i2,λb o v h=>(i3 b o v h).imp_right λ⟨id',h,x⟩=>⟨id',by simp[h],x⟩⟩
  | some x=>
   simp only
   cases hz:x.fz with
   | true=>exact⟨i1,i2,λb o v h=>(i3 b o v h).imp_right λ⟨id',h,x⟩=>⟨id',by simp[h],x⟩⟩
   | false=>
    simp only[cond_false]
    have fW:=(hr.own id x hL)
    have bY:(Zrz S l m).free x.b:=λo=>by
     rw[Zee S m (λi hi y hy e=>h1 (hr.apart _ _ _ _ hy hL e ▸ hi))]
     exact fW.free hz o
    refine⟨mLt i1 (Mem.le_add bY x.cs),?_,?_⟩
    ·exact i2.add λo v hv=>fW.cell hv
    ·intro b o v hv
     by_cases hb:b=x.b
     ·exact .inr ⟨id,by simp,x,hL,hb.symm⟩
     ·rw[Mem.add_other _ hb]at hv
      exact(i3 b o v hv).imp_right λ⟨id',h,x⟩=>⟨id',by simp[h],x⟩
end
theorem ZpQ(S:St)(m:Mem):∀l:List Nat,(Zrz S l m).k=m.k
 | []=>rfl
 | id::l=>by
  simp only[Zrz]
  cases hL:S.L id with
  | none=>exact ZpQ S m l
  | some x=>
   simp only
   cases hz:x.fz with
   | true=>exact ZpQ S m l
   | false=>exact ZpQ S m l
theorem ZiM{xs:List Box}:∀{l:List SV},Znp xs l=true->∀(i:Nat) s,l[i]?=some s->Zww xs s=true
 | [],_,i,s,h=>by simp at h
 | x::l,h,i,s,hs=>by
  simp only[Znp,Bool.and_eq_true]at h
  cases i with
  | zero=>simp at hs;subst hs;exact h.1
  | succ i=>exact ZiM h.2 i s (by simpa using hs)
def ZxB(n:Nat)(m:Mem)(w:World)(bs:List Nat):Ctx where
 n:=n
 m0:=m
 me:=m
 mle:=Mem.le_refl m
 p:=λ_ M w'=>Keep w.heap.size bs w w'/\∀k,M k->(w.heap.size<=k/\k < w'.heap.size/\Wr w' k)\/k∈bs
 st:=by
  rintro g M M' w1 w2 ⟨h1,h2⟩ hu hg
  refine⟨h1.trans ⟨hu.os,hu.tape,hu.output,hu.size,λk hk hn=>hu.block k (Nat.lt_of_lt_of_le hk h1.size) λhm=>?_,hu.wr⟩,λk hk=>?_⟩
  ·rcases h2 k hm with h|h
   ·omega
   ·exact hn h
  ·rcases hg k hk with h|h
   ·exact(h2 k h).imp_left λh=>⟨h.1,Nat.lt_of_lt_of_le h.2.1 hu.size,hu.wr k h.2.1 h.2.2⟩
   ·have:=h1.size;exact .inl ⟨by omega,h.2⟩
theorem Zu6{n:Nat}{m:Mem}{w:World}{bs:List Nat}(hb:∀k∈bs,k < w.heap.size/\Wr w k){g:Int}{M:Nat->Prop}{w':World}(h:(ZxB n m w bs).p g M w')(k:Nat)(hk:M k):Wr w' k:=by
 rcases h.2 k hk with h1|h1
 ·exact h1.2.2
 ·exact h.1.wr k (hb k h1).1 (hb k h1).2
theorem ZlR{C:Ctx}{w:World}{xs:List Box}{svs:List SV}(fU:C.me=C.m0)(hs:Sub C.m0 w)(hx:∀x∈xs,Own C.m0 w x/\x.fz=false)(dR:(xs.map (·.b)).Nodup)(cN:Znp xs svs=true)(hn:svs.length<=C.n)(hp:C.p 0 (λk=>k∈xs.map (·.b)) w):
  Rel C (S0 svs xs) C.m0 { tmps:=(svs.map (Zrv xs)).toArray++Array.replicate (C.n - (svs.map (Zrv xs)).toArray.size) undef,defers:=[] } w:=by
 have hL:∀id x,(S0 svs xs).L id=some x->100000<=id/\xs[id - 100000]?=some x:=λid x h=>by
  simp only[S0]at h
  cases hb:Nat.ble 100000 id with
  | false=>simp[hb]at h
  | true=>simp only[hb,cond_true]at h;exact⟨Nat.le_of_ble_eq_true hb,h⟩
 refine⟨⟨[],rfl,List.nodup_nil,by simp⟩,by simp;omega,?_,?_,?_,?_,by simp[S0],by simp[S0],by simp[S0],hs,fU ▸ Mem.le_refl _,⟨_,hp,λk hk=>?_,λid x hx=>?_,λk t b ht=>by simp[S0]at ht,by simp,fU ▸ NewM.refl _ _⟩,λ_=>fU⟩
 ·intro i sv he
  simp only[S0]at he
  have bF:=(List.getElem?_eq_some_iff.1 he).1
  have h1:=ZiM cN i sv he
  refine⟨Zrv xs sv,?_,?_⟩
  ·cases sv with
   | v x=>rfl
   | loc id off=>
    simp only[Zww,Bool.and_eq_true]at h1
    have h2:id - 100000 < xs.length:=ZmG h1.2
    simp[St.den,S0,Zrv,h1.1,List.getElem?_eq_getElem h2]
   | sl id n c=>
    simp only[Zww,Bool.and_eq_true]at h1
    have h2:id - 100000 < xs.length:=ZmG h1.2
    simp[St.den,S0,Zrv,h1.1,List.getElem?_eq_getElem h2]
  ·rw[Array.getElem?_append_left (by simpa using bF)]
   simp[he]
 ·intro id x hx'
  have:=List.mem_of_getElem? (hL id x hx').2
  exact(hx x this).1
 ·intro id id' x x' h1 h2 hb
  obtain⟨g1,g2⟩:=hL _ _ h1
  obtain⟨g3,g4⟩:=hL _ _ h2
  have hi:=(List.getElem?_eq_some_iff.1 g2).1
  have hi':=(List.getElem?_eq_some_iff.1 g4).1
  have:=(List.getElem?_inj (l:=xs.map (·.b)) (i:=id - 100000) (j:=id' - 100000) (by simpa using hi) dR).1 (by simp[g2,g4,hb])
  omega
 ·intro id x h1
  obtain⟨g1,g2⟩:=hL _ _ h1
  have hi:=(List.getElem?_eq_some_iff.1 g2).1
  simp only[S0,List.mem_map,List.mem_range,bid]
  exact⟨id - 100000,hi,by omega⟩
 ·obtain⟨x,h1,h2⟩:=List.mem_map.1 hk
  exact h2 ▸ (hx x h1).1.lt
 ·exact List.mem_map.2 ⟨x,List.mem_of_getElem? (hL id x hx).2,rfl⟩
theorem ZrV{n:Nat}{w:World}{m:Mem}{xs:List Box}{svs:List SV}(hs:Sub m w)(hx:∀x∈xs,Own m w x/\x.fz=false)(dR:(xs.map (·.b)).Nodup)(cN:Znp xs svs=true)(hn:svs.length<=n):
  Rel (ZxB n m w (xs.map (·.b))) (S0 svs xs) m { tmps:=(svs.map (Zrv xs)).toArray++Array.replicate (n - (svs.map (Zrv xs)).toArray.size) undef,defers:=[] } w:=
 ZlR (C:=ZxB n m w (xs.map (·.b))) rfl hs hx dR cN hn ⟨Keep.refl _ _ _,λk hk=>.inr hk⟩
theorem Rel.leave{P:Program}{C:Ctx}{S:St}{m:Mem}{fn:Func}{tmps:Array Value}{R:Ending->World->Prop}(h:∀a' w',a'.tmps=tmps->Rel C S m a' w'->∃v,(results fn tmps).run P w'=.ok v w'/\R (.returned v) w'):
  ∀(ms:List Nat)(a:Act)(w:World),a.tmps=tmps->a.defers=ms.map ZeU->Rel C S m a w->LeavesInM Fence.wide 0 P fn tmps R a.defers .returning w
 | [],a,w,ht,hm,hr=>by
  rw[hm]
  simp only[List.map_nil,LeavesInM,LeavesIn]
  exact h a w ht hr
 | D::ms,a,w,ht,hm,hr=>by
  obtain⟨ms',q1,q2,q3⟩:=hr.defers
  have gC:ms'=D::ms:=by
   rw[hm]at q1
   have inj:∀(l l':List Nat),l.map ZeU=l'.map ZeU->l=l':=by
    intro l
    induction l with
    | nil=>intro l' h;cases l' <;> simp_all
    | cons x l ih=>
     intro l' h
     cases l' with
     | nil=>simp at h
     | cons y l'=>simp only[List.map_cons,List.cons.injEq]at h;rw[ih l' h.2];simpa[ZeU]using h.1
   exact(inj _ _ q1).symm
  subst gC
  have hD:=q3 D (by simp)
  rw[hm]
  simp only[List.map_cons,LeavesInM]
  refine⟨by simp,.inl ⟨D,_,rfl,run_takeDeferred hD,?_⟩⟩
  have hr':Rel C S m { a with defers:=ms.map ZeU } (w.putObj D (.deferred none)):=by
   obtain⟨M,hd⟩:=hr.dom
   have su:M D:=hd.mks D (by rw[hm];simp)
   have dG:∀k,k≠D->(w.putObj D (.deferred none)).heap[k]?=w.heap[k]?:=λk hk=>World.putObj_heap_other hk
   refine hr.swap rfl hr.le rfl rfl rfl rfl hr.env hr.size ⟨ms,rfl,(List.nodup_cons.1 q2).2,λD' hD'=>?_⟩ (λk o hk hm=>dG k (λe=>by rw[e,hD]at hk;cases hk;cases hm)) (λk t b ht hb=>((hr.toks k t ht).2 b hb).2) hr.fo ?_
   ·rw[dG D' (λe=>(List.nodup_cons.1 q2).1 (e ▸ hD'))];exact q3 D' (by simp[hD'])
   ·have h1:=hd.step (m':=m) (Zed (o:=.deferred none) rfl su) (NewM.refl _ _)
    exact⟨_,h1.p,h1.lt,h1.own,h1.tok,λD' hD'=>h1.mks D' (by rw[hm];exact List.mem_cons_of_mem _ hD'),h1.new⟩
  exact Rel.leave h ms { a with defers:=ms.map ZeU } _ ht rfl hr'
theorem Zu7{E:Env}(hE:E.ok){Zbh:Nat->Array Oper->(St->Mem->Prop)->St->Mem->Prop}(hD:Ze3 E Zbh)(gG:Zet E Zbh){g:FuncId}{fn:Func}{c:Code}
  (hf:E.P.funcs[g]?=some fn) (hn:(fn.name == "runtime.NumGoroutine")=false) (hb:fn.body=some c) (hc:Zas E c=true) (hl:Zbp fn.ntmps c=true) (hz:ZuK E.frz=true) (gz:E.yl=none/\E.ylY=none)
  {m:Mem} (eH:∀mm,E.m0=some mm->m=mm) {R:Value->Mem->List (List Value)->Prop} (svs:List SV) (xs:List Box) (bL:Nat.ble svs.length fn.ntmps=true) (cN:Znp xs svs=true)
  (h:W E Zbh c (Zx1 E fn.results.toList m xs R) (S0 svs xs) m):CX E.P g (svs.map (Zrv xs)).toArray m xs R:=by
 refine⟨Zkn hf hn (by simp[hb]),λw hs hx dR=>?_⟩
 have bH:=ZrV (n:=fn.ntmps) hs hx dR cN (Nat.le_of_ble_eq_true bL)
 refine callsIn_wide.1 (callsIn_of_wp_marks (F:=Fence.wide) (n:=0) hf hb trivial ?_)
 refine Zcl hE hD gG c hc (.inl rfl) (YOk.none gz.1 gz.2 (λmm gC=>⟨eH mm gC,λg M w' hp k hk=>Zu6 (λk hk=>by
  obtain⟨x,h1,rfl⟩:=List.mem_map.1 hk
  exact⟨(hx x h1).1.lt,(hx x h1).1.wr⟩) hp k hk⟩)) (λl hl=>by cases hl) 0 hl bH h ?_
 have key:∀S' m' a' w',ZxU E fn.results.toList m xs R S' m'->Rel (ZxB fn.ntmps m w (xs.map (·.b))) S' m' a' w'->LeavesInM Fence.wide 0 E.P fn a'.tmps (λe w'=>
   ∃v_1 m'_1 css,e=Ending.returned v_1/\m.le m'_1/\Sub m'_1 w'/\Zhl m m'_1 w w'/\Keep w.heap.size (xs.map (·.b)) w w'/\css.length=xs.length/\(∀(i:Nat)(x:Box)(cs:List Value),xs[i]?=some x->css[i]?=some cs->Own m'_1 w' { x with cs:=cs })/\R v_1 m'_1 css) a'.defers .returning w':=by
  intro S' m' a' w' hk hr
  obtain⟨ms,q1,_,_⟩:=hr.defers
  refine Rel.leave ?_ ms a' w' rfl q1 hr
  clear hr q1
  intro a2 w2 ht hr
  rw[<-ht]
  obtain⟨vs,hk,bK⟩:=ZfL hE hr hk
  obtain⟨css,h1,h2,hk⟩:=Zgn hk
  obtain⟨m'',h3,h4,h5⟩:=ZlQ hr hk
  obtain⟨M,hd⟩:=hr.dom
  refine⟨Zwi vs,Zgm bK,Zwi vs,m'',css,rfl,h3,?_,?_,hd.p.1,h1,?_,h5⟩
  all_goals simp only[ZuK,Bool.and_eq_true]at hz
  all_goals have pP:=Zaz hz.1
  all_goals obtain⟨f1,f2,f3⟩:=ZqN hr pP
  ·exact f2.less h4
  ·refine⟨λb o v hv=>?_,λb e he=>?_⟩
   rotate_left
   ·have he':=h4.k b e he
    rw[ZpQ]at he'
    rcases hd.new.k b e he' with h6|h6
    ·exact .inl h6
    ·rcases hd.p.2 b h6 with h6|h6
     ·exact .inr ⟨h6.1,h6.2.2⟩
     ·exfalso
      obtain⟨y,hy,fG⟩:=List.mem_map.1 h6
      obtain⟨i,hi⟩:=List.getElem?_of_mem hy
      obtain⟨cs,_,gZ⟩:=h2 i y hi
      obtain⟨c0,T0,f0,h7⟩:=(hr.own _ _ gZ).isC
      obtain⟨es,cl,h8,_⟩:=hr.sub.k b e he'
      simp only[fG]at h7
      rw[h7]at h8;cases h8
   rcases f3 b o v (h4 b o v hv)with hv|⟨id,cR,x,dO,iA⟩
   ·rcases hd.new b o v hv with h6|h6
    ·exact .inl h6
    ·rcases hd.p.2 b h6 with h6|h6
     ·exact .inr ⟨h6.1,h6.2.2⟩
     ·exfalso
      obtain⟨y,hy,fG⟩:=List.mem_map.1 h6
      obtain⟨i,hi⟩:=List.getElem?_of_mem hy
      obtain⟨cs,_,gZ⟩:=h2 i y hi
      have:=(hr.own _ _ gZ).free (hx y hy).2 o
      simp only[fG]at this
      rw[this]at hv;cases hv
   ·right
    have h6:=hd.p.2 _ (hd.own id x dO)
    subst iA
    rcases h6 with h6|h6
    ·exact⟨h6.1,h6.2.2⟩
    ·exfalso
     obtain⟨y,hy,fG⟩:=List.mem_map.1 h6
     obtain⟨i,hi⟩:=List.getElem?_of_mem hy
     obtain⟨cs,_,gZ⟩:=h2 i y hi
     have:=hr.apart _ _ _ _ dO gZ fG.symm
     have bF:id < 100000:=by
      have:=List.all_eq_true.1 hz.2 id cR
      exact ZmG this
     simp only[bid]at this
     omega
  ·intro i x cs hi dN
   obtain⟨cs',h6,h7⟩:=h2 i x hi
   rw[dN]at h6;cases h6
   have ho:=hr.own _ _ h7
   have nb:=(hx x (List.mem_of_getElem? hi)).2
   refine⟨ho.cells,λ_ o=>?_,λhz'=>by simp[nb]at hz',ho.whole⟩
   cases hv:m'' x.b o with
   | none=>rfl
   | some v=>
    have h8:=h4 _ _ _ hv
    rw[Zee S' m' (λid cR y hy e=>?_)]at h8
    ·have:=ho.free nb o
     simp only at this
     rw[this]at h8;cases h8
    ·have:=hr.apart _ _ _ _ hy h7 e
     have bF:id < 100000:=by
      have:=List.all_eq_true.1 hz.2 id cR
      exact ZmG this
     simp only[bid]at this
     omega
 intro e S' m' a' w' hk hr
 cases e with
 | normal=>exact key S' m' a' w' hk hr
 | ret=>exact key S' m' a' w' hk hr
 | exit _=>exact hk.elim
 | goto _=>exact hk.elim
 | panic _=>exact hk.elim
 | outgrown=>exact hk.elim
def ZwX(E:Env)(rs:List ResultVar)(n:Nat):KT:=λe S m=>match e with
 | .normal=>Zwx E S m rs λ_=>S.gh=n\/S.gh=-1
 | .ret=>Zwx E S m rs λ_=>S.gh=n\/S.gh=-1
 | _=>False
def Env.yields(E:Env)(l:Nat)(xs:List (List Value)):Env:={ E with yl:=some λl' g v=>l'=l/\0<=g/\xs[g.toNat]?=some v,ylY:=none,m0:=none }
theorem Zu8{E:Env}(hE:E.ok){Zbh:(E:Env)->Nat->Array Oper->(St->Mem->Prop)->St->Mem->Prop}{g:FuncId}{fn:Func}{c:Code}
  (hf:E.P.funcs[g]?=some fn) (hn:(fn.name == "runtime.NumGoroutine")=false) (hb:fn.body=some c) (hl:Zbp fn.ntmps c=true)
  {m:Mem} (first captured:List Value) (xs:List (List Value)) (bL:Nat.ble (first.length+captured.length+1) fn.ntmps=true)
  (h:∀l,Ze3 (E.yields l xs) (Zbh (E.yields l xs))/\Zet (E.yields l xs) (Zbh (E.yields l xs))/\Zas (E.yields l xs) c=true/\W (E.yields l xs) (Zbh (E.yields l xs)) c (ZwX E fn.results.toList xs.length) (S0 ((first++.func (.yield l) #[] #[]::captured).map .v) []) m):
  IX E.P g first captured m xs:=by
 refine⟨Zkn hf hn (by simp[hb]),λp hp l w hs mN hy=>?_⟩
 obtain⟨hD,gG,hc,h⟩:=h l
 have hE':(E.yields l xs).ok:=hE
 let C:Ctx:=⟨fn.ntmps,m,m,Mem.le_refl m,p,hp⟩
 have cN:∀vs:List Value,Znp [] (vs.map .v)=true:=λvs=>by
  induction vs with
  | nil=>rfl
  | cons v vs ih=>simp[Znp,Zww,ih]
 have ln:∀vs:List Value,(vs.map SV.v).map (Zrv [])=vs:=λvs=>by
  induction vs with
  | nil=>rfl
  | cons v vs ih=>simp only[List.map_cons,ih];rfl
 have bH:=ZlR (C:=C) (xs:=[]) (svs:=(first++.func (.yield l) #[] #[]::captured).map .v) rfl hs (by simp) (by simp) (cN _) (by have:=Nat.le_of_ble_eq_true bL;simp;omega) (by
  have e:(λk=>k∈([]:List Box).map (·.b))=(λ_:Nat=>False):=by funext k;simp
  rw[e];exact mN)
 rw[ln]at bH
 refine callsIn_wide.1 (callsIn_of_wp_marks (F:=Fence.wide) (n:=0) hf hb trivial ?_)
 refine Zcl hE' hD gG c hc (.inl rfl) (C:=C) ⟨λY hY=>by
  simp only[Env.yields,Option.some.injEq]at hY
  subst hY;exact hy,λY hY=>(by cases hY),λmm gC=>by cases gC⟩ (λl hl=>by cases hl) 0 hl bH h ?_
 have key:∀S' m' a' w',Zwx E S' m' fn.results.toList (λ_=>S'.gh=xs.length\/S'.gh=-1)->Rel C S' m' a' w'->LeavesInM Fence.wide 0 E.P fn a'.tmps (λe w'=>∃v M,e=.returned v/\(∀k,M k->k < w'.heap.size)/\(p xs.length M w'\/p (-1) M w')) a'.defers .returning w':=by
  intro S' m' a' w' hk hr
  obtain⟨ms,q1,_,_⟩:=hr.defers
  refine Rel.leave ?_ ms a' w' rfl q1 hr
  clear hr q1
  intro a2 w2 ht hr
  rw[<-ht]
  obtain⟨vs,hk,bK⟩:=ZfL hE hr hk
  obtain⟨M,hd⟩:=hr.dom
  refine⟨Zwi vs,Zgm bK,_,M,rfl,hd.lt,?_⟩
  have:=hd.p
  rcases hk with hk|hk
  ·rw[hk]at this;exact .inl this
  ·rw[hk]at this;exact .inr this
 intro e S' m' a' w' hk hr
 cases e with
 | normal=>exact key S' m' a' w' hk hr
 | ret=>exact key S' m' a' w' hk hr
 | exit _=>exact hk.elim
 | goto _=>exact hk.elim
 | panic _=>exact hk.elim
 | outgrown=>exact hk.elim
def LC{α β:Type}(T1:(α->Prop)->Prop)(T2:(β->Prop)->Prop)(ρ:α->β->Prop):Prop:=
 T1 (λ_=>True)->T2 (λy2=>∃y1,(∀K,T1 K->K y1)/\ρ y1 y2)
section comb
variable {α β:Type} {ρ:α->β->Prop}
theorem LC.false{T2:(β->Prop)->Prop}:LC (λ_:α->Prop=>False) T2 ρ:=λh=>h.elim
theorem LC.ret{a:α}{b:β}(h:ρ a b):LC (λK=>K a) (λK=>K b) ρ:=λ_=>⟨a,λ_ hK=>hK,h⟩
theorem LC.chk{c:Bool}{T1:(α->Prop)->Prop}{T2:(β->Prop)->Prop}(h:c=true->LC T1 T2 ρ):LC (λK=>chk c (T1 K)) (λK=>chk c (T2 K)) ρ:=by
 cases c
 ·exact λh=>h.elim
 ·exact h rfl
theorem LC.br{c:Bool}{T1 U1:(α->Prop)->Prop}{T2 U2:(β->Prop)->Prop}(h:LC T1 T2 ρ)(k:LC U1 U2 ρ):LC (λK=>br c (T1 K) (U1 K)) (λK=>br c (T2 K) (U2 K)) ρ:=by
 cases c
 ·exact k
 ·exact h
theorem LC.and{p q:Prop}{T1:(α->Prop)->Prop}{T2:(β->Prop)->Prop}(jp:p->q)(h:p->LC T1 T2 ρ)(mono:∀{K K':β->Prop},(∀y,K y->K' y)->T2 K->T2 K'):LC (λK=>p/\T1 K) (λK=>q/\T2 K) ρ:=λ⟨h1,h2⟩=>
 ⟨jp h1,mono (λy ⟨y1,g1,g2⟩=>⟨y1,λK hK=>g1 K hK.2,g2⟩) (h h1 h2)⟩
theorem LC.map{γ δ:Type}{σ:γ->δ->Prop}{T1:(α->Prop)->Prop}{T2:(β->Prop)->Prop}(h:LC T1 T2 ρ)(f:α->γ)(g:β->δ)(mQ:∀a b,ρ a b->σ (f a) (g b))(mono:∀{K K':β->Prop},(∀y,K y->K' y)->T2 K->T2 K'):
  LC (λK=>T1 λa=>K (f a)) (λK=>T2 λb=>K (g b)) σ:=λh1=>
 mono (λb ⟨a,g1,g2⟩=>⟨f a,λK hK=>g1 _ hK,mQ _ _ g2⟩) (h h1)
end comb
abbrev LE{α:Type}(T1 T2:(α->Prop)->Prop):Prop:=LC T1 T2 Eq
theorem ZqO{l:List Value}{n:Nat}{α β:Type}{ρ:α->β->Prop}{f:Value->α}{g:Value->β}(h:∀v,ρ (f v) (g v)):LC (λK=>ZsZ l n λv=>K (f v)) (λK=>ZsZ l n λv=>K (g v)) ρ:=by
 unfold ZsZ
 cases hl:l[n]? with
 | none=>exact LC.false
 | some v=>simp only;exact LC.ret (h v)
theorem Ztd{op:BinOp}{b:Bool}:LE (Zs0 op b) (Zs0 op b):=by
 cases op <;> first
  | exact LC.false
  | exact LC.ret rfl
theorem Zu9{op:BinOp}{k:IntKind}{a b:Int}:LE (Zwa op k a b) (Zwa op k a b):=by
 cases op <;> first
  | exact LC.false
  | exact LC.ret rfl
  | exact LC.and id (λ_=>LC.ret rfl) (λh=>h _)
theorem ZrW{op:BinOp}{k:IntKind}{a b:Int}:LE (Zkj op k a b) (Zkj op k a b):=by
 cases op <;> first
  | exact LC.false
  | exact LC.and id (λ_=>LC.ret rfl) (λh=>h _)
theorem Zva{op:BinOp}{a b:ByteArray}:LE (Zwb op a b) (Zwb op a b):=by
 cases op <;> first
  | exact LC.false
  | exact LC.ret rfl
  | exact LC.and id (λ_=>LC.ret rfl) (λh=>h _)
theorem EqIs.unique{P:Program}{T:TypeId}{x y:Value}{a b:Bool}(w:World)(h:EqIs P T x y a)(k:EqIs P T x y b):a=b:=by
 have h1:=h.1 w
 rw[k.1 w]at h1
 cases h1;rfl
theorem BinIs.unique{P:Program}{op:BinOp}{T:TypeId}{x y a b:Value}(w:World)(h:BinIs P op T x y a)(k:BinIs P op T x y b):a=b:=by
 have h1:=h (.tmp 0) (.tmp 0) w
 rw[k (.tmp 0) (.tmp 0) w]at h1
 cases h1;rfl
theorem ConvIs.unique{P:Program}{s d:TypeId}{x a b:Value}(w:World)(h:ConvIs P s d x a)(k:ConvIs P s d x b):a=b:=by
 have h1:=h w
 rw[k w]at h1
 cases h1;rfl
theorem Zvb{E:Env}(w:World){op:BinOp}{T:TypeId}{x y:Value}:LE (Zv2 E op T x y) (Zv2 E op T x y):=by
 unfold Zv2
 cases ht:E.tt T with
 | none=>exact LC.false
 | some i=>
  simp only
  cases hd:i.d <;> simp only <;> first
   | exact LC.false
   | exact LC.chk λ_=>Zva
   | exact LC.chk λ_=>Ztd
   | (refine LC.chk λ_=>?_
      rintro⟨b,hb,h⟩
      exact⟨b,hb,Zky (λv ⟨v1,g1,g2⟩=>⟨v1,λK ⟨b',hb',hK⟩=>g1 K (by rw[EqIs.unique w hb hb'];exact hK),g2⟩) (Ztd h)⟩)
   | (cases hc:ZuY op
      ·simp only[cond_false];rintro⟨v,hv,_⟩;exact⟨v,hv,v,λK ⟨v',hv',hK⟩=>(by rw[BinIs.unique w hv hv'];exact hK),rfl⟩
      ·simp only[cond_true];rintro⟨v,hv,_⟩;exact⟨v,hv,.bool v,λK ⟨v',hv',hK⟩=>(by rw[BinIs.unique w hv hv'];exact hK),rfl⟩)
   | (cases hs:ZjI op
      ·exact LC.chk λ_=>Zu9
      ·exact LC.chk λ_=>ZrW)
theorem ZtM{E:Env}(w:World){s d:TypeId}{v:Value}:LE (Zry E s d v) (Zry E s d v):=by
 unfold Zry
 cases E.tt s with
 | none=>exact LC.false
 | some i=>
  cases E.tt d with
  | none=>exact LC.false
  | some j=>
   simp only
   cases i.d <;> cases j.d <;> simp only <;> first
    | exact LC.false
    | exact LC.chk λ_=>LC.ret rfl
    | (rintro⟨v,hv,_⟩;exact⟨v,hv,v,λK ⟨v',hv',hK⟩=>(by rw[ConvIs.unique w hv hv'];exact hK),rfl⟩)
theorem Zvc{E:Env}{T:TypeId}{v:Value}:LE (Zwt E T v) (Zwt E T v):=by
 unfold Zwt
 cases E.tt T with
 | none=>exact LC.false
 | some i=>
  simp only
  cases i.d <;> simp only <;> first
   | exact LC.false
   | exact LC.ret rfl
   | exact LC.chk λ_=>LC.ret rfl
theorem ZfM{α β:Type}{ρ:α->β->Prop}{x:Option Value}{d y:Nat}{U1:Nat->(α->Prop)->Prop}{U2:Nat->(β->Prop)->Prop}(h:∀n,LC (U1 n) (U2 n) ρ)(mono:∀n {K K':β->Prop},(∀y,K y->K' y)->U2 n K->U2 n K'):
  LC (λK=>Zho x d y λn=>U1 n K) (λK=>Zho x d y λn=>U2 n K) ρ:=by
 cases x with
 | none=>exact h d
 | some v=>exact LC.chk λ_=>LC.and id (λ_=>h _) (mono _)
theorem ZqP{α β:Type}{ρ:α->β->Prop}{place:Nat->Option (Nat×Nat)}{f:List Value->α}{g:List Value->β}(h:∀v,ρ (f v) (g v)):∀{parts:List (Nat×Value)} {cs:List Value},LC (λK=>Znn place cs parts λr=>K (f r)) (λK=>Znn place cs parts λr=>K (g r)) ρ
 | [],cs=>LC.ret (h cs)
 | (i,v)::rest,cs=>by
  simp only[Znn]
  cases place i with
  | none=>exact LC.false
  | some os=>exact LC.chk λ_=>ZqP h
theorem ZrX{E:Env}{T:TypeId}{v:Value}{lo hi mx:Option Value}:LE (Zi5 E T v lo hi mx) (Zi5 E T v lo hi mx):=by
 unfold Zi5
 cases ZiE E T with
 | some sz=>
  simp only
  exact LC.chk λ_=>ZfM (λm=>ZfM (λh=>ZfM (λl=>LC.chk λ_=>LC.ret rfl) (λl K K' hh=>Zah (hh _))) (λh K K' hh=>ZbH (λl=>Zah (hh _)))) (λm K K' hh=>ZbH (λh=>ZbH (λl=>Zah (hh _))))
 | none=>
  simp only
  cases ZeZ E T with
  | false=>exact LC.false
  | true=>exact LC.chk λ_=>ZfM (λh=>ZfM (λl=>LC.ret rfl) (λl K K' hh=>hh _)) (λh K K' hh=>ZbH (λl=>hh _))
structure Less (S1 S2:St):Prop where
 env:∀t sv,S1.env t=some sv->S2.env t=some sv
 L:∀id x,S1.L id=some x->S2.L id=some x
theorem Less.ev{S1 S2:St}(h:Less S1 S2){x:Operand}{sv:SV}(hx:S1.ev x=some sv):S2.ev x=some sv:=by
 cases x with
 | tmp t=>exact h.env t sv hx
 | _=>exact hx
theorem Less.den{S1 S2:St}(h:Less S1 S2){sv:SV}{v:Value}(hx:S1.den sv=some v):S2.den sv=some v:=by
 cases sv with
 | v u=>exact hx
 | loc id off=>
  simp only[St.den]at *
  cases hb:S1.L id with
  | none=>simp[hb]at hx
  | some b=>simp only[hb]at hx;simp only[h.L id b hb];exact hx
 | sl id n c=>
  simp only[St.den]at *
  cases hb:S1.L id with
  | none=>simp[hb]at hx
  | some b=>simp only[hb]at hx;simp only[h.L id b hb];exact hx
theorem Less.val{S1 S2:St}(h:Less S1 S2){x:Operand}{v:Value}(hx:S1.val x=some v):S2.val x=some v:=by
 unfold St.val at *
 cases he:S1.ev x with
 | none=>simp[he]at hx
 | some sv=>simp only[he]at hx;rw[h.ev he];exact h.den hx
section ops
variable {α β:Type} {ρ:α->β->Prop} {S1 S2:St}
theorem Zcy(hs:Less S1 S2){x:Operand}{U1:Value->(α->Prop)->Prop}{U2:Value->(β->Prop)->Prop}(h:∀v,LC (U1 v) (U2 v) ρ):
  LC (λK=>wv S1 x λv=>U1 v K) (λK=>wv S2 x λv=>U2 v K) ρ:=by
 unfold wv
 cases hv:S1.val x with
 | none=>exact LC.false
 | some v=>simp only[hs.val hv];exact h v
theorem ZmH(hs:Less S1 S2):∀{l:List Operand} {U1:List Value->(α->Prop)->Prop} {U2:List Value->(β->Prop)->Prop} (h:∀v,LC (U1 v) (U2 v) ρ),LC (λK=>wvs S1 l λv=>U1 v K) (λK=>wvs S2 l λv=>U2 v K) ρ
 | [],U1,U2,h=>h []
 | x::l,U1,U2,h=>Zcy hs (U1:=λv K=>wvs S1 l λvs=>U1 (v::vs) K) (U2:=λv K=>wvs S2 l λvs=>U2 (v::vs) K) λv=>ZmH hs (λvs=>h (v::vs))
theorem ZqQ(hs:Less S1 S2){x:Option Operand}{U1:Option Value->(α->Prop)->Prop}{U2:Option Value->(β->Prop)->Prop}(h:∀v,LC (U1 v) (U2 v) ρ):
  LC (λK=>Zwe S1 x λv=>U1 v K) (λK=>Zwe S2 x λv=>U2 v K) ρ:=by
 cases x with
 | none=>exact h none
 | some x=>exact Zcy hs (U1:=λv K=>U1 (some v) K) (U2:=λv K=>U2 (some v) K) λv=>h (some v)
end ops
theorem ZtN{E:Env}{S1 S2:St}(w:World)(hs:Less S1 S2){o:Oper}:LE (Zcg E S1 o) (Zcg E S2 o):=by
 have hr:∀{a:SV},LE (λK:SV->Prop=>K a) (λK=>K a):=LC.ret rfl
 have eV:∀{c:Bool} {a:SV},LE (λK:SV->Prop=>Eng.chk c (K a)) (λK=>Eng.chk c (K a)):=LC.chk λ_=>LC.ret rfl
 obtain⟨dst,op,type,pos,after,guard⟩:=o
 cases op <;> unfold Zcg <;> simp only <;> try exact LC.false
 case unOp op T x=>
  refine Zcy hs λv=>?_
  cases op <;> simp only <;> first
   | exact LC.false
   | exact eV
   | (cases Zb6 E T <;> simp only <;> first
     | exact LC.false
     | exact eV)
 case binOp op T x y yT=>
  exact Zcy hs λv=>Zcy hs λv'=>(Zvb w).map _ _ (λa b e=>by rw[e]) (λh=>ZnW h)
 case convert s d x=>exact Zcy hs λv=>(ZtM w).map _ _ (λa b e=>by rw[e]) (λh hx=>by
  unfold Zry at *
  (repeat' split at hx) <;> first|exact(hx:False).elim|exact Zah (h _) hx|exact hx.elim λu z=>⟨u,z.1,h _ z.2⟩)
 case makeFunc=>exact ZmH hs λv=>ZmH hs λv'=>hr
 case fieldAddr T x f=>
  cases ZeY E T f with
  | none=>exact LC.false
  | some fo=>
   simp only
   cases he:S1.ev x with
   | none=>exact LC.false
   | some sv=>
    simp only[hs.ev he]
    cases sv <;> first
     | exact LC.false
     | exact hr
     | exact eV
 case indexAddr T x i=>
  refine Zcy hs λvi=>LC.chk λ_=>?_
  cases Zwd E T with
  | none=>exact LC.false
  | some ix=>
   cases he:S1.ev x with
   | none=>
    cases ix <;> simp only
    ·exact λh=>h.2.elim
    ·exact LC.false
   | some sv=>
    simp only[hs.ev he]
    cases ix <;> simp only
    ·cases sv <;> simp only
     ·exact LC.and id (λ_=>eV) (λh=>Zah (h _))
     ·exact LC.and id (λ_=>hr) (λh=>h _)
     ·exact λh=>h.2.elim
    ·cases sv <;> simp only
     ·refine LC.chk λ_=>?_
      rintro⟨b,o,h1,h2,h3⟩
      refine⟨b,o,h1,h2,_,λK ⟨b',o',g1,g2,g3⟩=>?_,rfl⟩
      rw[h1]at g1
      cases g1
      exact g3
     ·exact LC.false
     ·exact LC.and id (λ_=>hr) (λh=>h _)
 case index T x i=>
  refine Zcy hs λv=>Zcy hs λvi=>LC.chk λ_=>?_
  cases ZeZ E T <;> simp only[cond_true,cond_false]
  ·cases ZpD E T with
   | none=>exact LC.false
   | some len=>exact LC.chk λ_=>LC.and id (λ_=>ZqO (λ_=>rfl)) (λh=>ZhA (λu=>h _))
  ·exact LC.chk λ_=>LC.and id (λ_=>hr) (λh=>h _)
 case build T parts=>
  cases ZiD E T with
  | none=>exact LC.false
  | some place=>exact ZmH hs λvs=>ZqP (λ_=>rfl)
 case extract x n=>exact Zcy hs λv=>LC.chk λ_=>ZqO (λ_=>rfl)
 case makeInterface T x=>exact Zcy hs λv=>eV
 case nilCheck x=>
  cases he:S1.ev x with
  | none=>exact LC.false
  | some sv=>
   simp only[hs.ev he]
   cases sv <;> first
    | exact LC.false
    | exact hr
    | exact eV
 case slice T x lo hi mx=>exact Zcy hs λv=>ZqQ hs λl=>ZqQ hs λh=>ZqQ hs λm=>ZrX.map _ _ (λa b e=>by rw[e]) (λh=>ZjQ h)
 case call c=>
  split
  ·split
   ·exact Zcy hs λv=>Zvc.map _ _ (λa b e=>by rw[e]) (λh y=>by
     unfold Zwt at *
     (repeat' split at y) <;> first|exact y.elim|exact Zah (h _) y|exact h _ y)
   ·exact LC.false
  ·split
   ·rename_i T _ _ _
    refine Zcy hs λv=>Zcy hs λv'=>?_
    split
    ·exact eV
    ·exact LC.false
   ·exact LC.false
  ·split
   ·refine Zcy hs λv=>Zcy hs λv'=>?_
    split
    ·exact eV
    ·exact LC.false
   ·refine Zcy hs λv=>Zcy hs λv'=>Zcy hs λv''=>?_
    split
    ·exact eV
    ·exact LC.false
   ·exact LC.false
  ·exact LC.false
theorem CX.frame2{P:Program}{g:FuncId}{args:Array Value}{m M:Mem}{X:List Box}{R:Value->Mem->List (List Value)->Prop}(h:CX P g args m X R)(hm:m.le M):
  CX P g args M X (λv M' css=>∃m',m.le m'/\m'.le M'/\(∀b o u,M b o=some u->∀o',m' b o'=m b o')/\R v m' css):=by
 refine⟨h.1,λw hs hX dR=>?_⟩
 have bY:∀{b o},M b o=none->m b o=none:=λ{b o} hb=>by
  cases he:m b o with
  | none=>rfl
  | some v=>rw[hm _ _ _ he]at hb;cases hb
 have hX':∀x∈X,Own m w x/\x.fz=false:=λx hx=>by
  obtain⟨ho,hz⟩:=hX x hx
  exact⟨⟨ho.cells,λ_ o=>bY (ho.free hz o),λhz'=>by simp[hz]at hz',ho.whole⟩,hz⟩
 refine(h.2 w (hs.less hm) hX' dR).mono ?_
 rintro e w' ⟨v,m',css,rfl,a2,a3,a4,a5,a6,a7,a8⟩
 have cA:m'.le (M.or m'):=⟨λb o u hu=>by
  cases hM:M b o with
  | none=>simp[Mem.or,hM,hu]
  | some u'=>
   rcases a4 b o u hu with h1|h1
   ·rw[hm _ _ _ h1]at hM;cases hM;simp[Mem.or,hm _ _ _ h1]
   ·have:=hs.lt hM;omega,λb u hu=>by
  cases hM:M.k b with
  | none=>simp[Mem.or,hM,hu]
  | some u'=>
   rcases a4.k b u hu with h1|h1
   ·rw[hm.k _ _ h1]at hM;cases hM;simp[Mem.or,hm.k _ _ h1]
   ·have:=(hs.k b u' hM).lt;omega⟩
 have dI:∀b o u,M b o=some u->∀o',m' b o'=m b o':=λb o u hu o'=>by
  cases hm':m' b o' with
  | none=>
   cases eH:m b o' with
   | none=>rfl
   | some x=>have:=a2 _ _ _ eH;rw[hm']at this;cases this
  | some x=>
   rcases a4 b o' x hm' with h1|h1
   ·exact h1.symm
   ·have:=hs.lt hu;omega
 refine⟨v,M.or m',css,rfl,Mem.le_or _ _,?_,?_,a5,a6,?_,m',a2,cA,dI,a8⟩
 ·refine⟨λb o u hu=>?_,λb e he=>?_⟩
  rotate_left
  ·rcases Mem.or_k he with h1|⟨h1,h2⟩
   ·refine(hs.k b e h1).same (a5.block b (hs.k b e h1).lt λcE=>?_)
    obtain⟨x,hx,rfl⟩:=List.mem_map.1 cE
    obtain⟨c0,T0,f0,h7⟩:=(hX x hx).1.isC
    obtain⟨es,cl,h8,_⟩:=hs.k _ _ h1
    rw[h7]at h8;cases h8
   ·exact a3.k b e h2
  rcases Mem.or_some hu with h1|⟨h1,h2⟩
  ·have bF:=hs.lt h1
   rw[Zca (a5.block b bF ?_)]
   ·exact hs b o u h1
   ·intro cE
    obtain⟨x,hx,rfl⟩:=List.mem_map.1 cE
    obtain⟨ho,hz⟩:=hX x hx
    have:=ho.free hz o
    rw[h1]at this;cases this
  ·exact a3 b o u h2
 ·refine⟨λb o u hu=>?_,λb u hu=>?_⟩
  ·rcases Mem.or_some hu with h1|⟨h1,h2⟩
   ·exact .inl h1
   ·rcases a4 b o u h2 with h3|h3
    ·rw[hm _ _ _ h3]at h1;cases h1
    ·exact .inr h3
  ·rcases Mem.or_k hu with h1|⟨h1,h2⟩
   ·exact .inl h1
   ·rcases a4.k b u h2 with h3|h3
    ·rw[hm.k _ _ h3]at h1;cases h1
    ·exact .inr h3
 ·intro i x cs hi dN
  have ho:=a7 i x cs hi dN
  obtain⟨j3,hz⟩:=hX x (List.mem_of_getElem? hi)
  refine⟨ho.cells,λ_ o=>?_,λhz'=>by simp[hz]at hz',ho.whole⟩
  simp only[Mem.or,j3.free hz o]
  exact ho.free hz o
theorem CX.frame{P:Program}{g:FuncId}{args:Array Value}{m M:Mem}{X:List Box}{R:Value->Mem->List (List Value)->Prop}(h:CX P g args m X R)(hm:m.le M):
  CX P g args M X (λv M' css=>∃m',m.le m'/\m'.le M'/\R v m' css):=(h.frame2 hm).mono λ_ _ _ _ ⟨m',a1,a2,_,a4⟩=>⟨m',a1,a2,a4⟩
theorem CXT.frame{P:Program}{g:FuncId}{args:Array Value}{m M:Mem}{esz:Nat}{R:Value->Mem->List (List Value)->Prop}(h:CXT P g args m esz R)(hm:m.le M):
  CXT P g args M esz (λv M' _=>∃m',m.le m'/\m'.le M'/\R v m' []):=by
 refine⟨h.1,λw hs=>(h.2 w (hs.less hm)).mono ?_⟩
 rintro e w' ⟨v,m',rfl,a2,a3,a4,a5,a6,a7,a8⟩
 have cA:m'.le (M.or m'):=⟨λb o u hu=>by
  cases hM:M b o with
  | none=>simp[Mem.or,hM,hu]
  | some u'=>
   rcases a4 b o u hu with h1|h1
   ·rw[hm _ _ _ h1]at hM;cases hM;simp[Mem.or,hm _ _ _ h1]
   ·have:=hs.lt hM;omega,λb u hu=>by
  cases hM:M.k b with
  | none=>simp[Mem.or,hM,hu]
  | some u'=>
   rcases a4.k b u hu with h1|h1
   ·rw[hm.k _ _ h1]at hM;cases hM;simp[Mem.or,hm.k _ _ h1]
   ·have:=(hs.k b u' hM).lt;omega⟩
 refine⟨v,M.or m',rfl,Mem.le_or _ _,⟨λb o u hu=>?_,λb e he=>?_⟩,⟨λb o u hu=>?_,λb u hu=>?_⟩,a5,a6.same (λ_ _=>rfl) (λb o hb hn=>?_),a7,m',a2,cA,a8⟩
 ·rcases Mem.or_some hu with h1|⟨h1,h2⟩
  ·have bF:=hs.lt h1
   rw[Zca (a5.block b bF (by simp))]
   exact hs b o u h1
  ·exact a3 b o u h2
 ·rcases Mem.or_k he with h1|⟨h1,h2⟩
  ·exact(hs.k b e h1).same (a5.block b (hs.k b e h1).lt (by simp))
  ·exact a3.k b e h2
 ·rcases Mem.or_some hu with h1|⟨h1,h2⟩
  ·exact .inl h1
  ·rcases a4 b o u h2 with h3|h3
   ·rw[hm _ _ _ h3]at h1;cases h1
   ·exact .inr h3
 ·rcases Mem.or_k hu with h1|⟨h1,h2⟩
  ·exact .inl h1
  ·rcases a4.k b u h2 with h3|h3
   ·rw[hm.k _ _ h3]at h1;cases h1
   ·exact .inr h3
 ·cases hM:M b o with
  | none=>simp[Mem.or,hM,hn]
  | some u=>have:=a7 b hb;have:=hs.lt hM;omega
theorem Ze5{m:Mem}{b o:Nat}{xs ys:List Value}(h:m.reads b o xs)(k:m.reads b o ys)(hl:xs.length=ys.length):xs=ys:=by
 refine List.ext_getElem hl λi h1 h2=>?_
 have a:=h i _ (List.getElem?_eq_getElem h1)
 have b:=k i _ (List.getElem?_eq_getElem h2)
 rw[a]at b;exact Option.some.inj b
theorem Ze6{m:Mem}{a:Option Addr}{xs ys:List Value}(h:rowRd m a xs)(k:rowRd m a ys)(hl:xs.length=ys.length):xs=ys:=by
 rcases h with h|⟨b,o,h1,h2⟩
 ·subst h;simp at hl;exact(List.eq_nil_of_length_eq_zero hl.symm).symm
 ·rcases k with k|⟨b',o',k1,k2⟩
  ·subst k;simpa using hl
  ·rw[h1]at k1;cases k1
   exact Ze5 h2 k2 hl
theorem ZpR{i:TI}{m M:Mem}(hm:m.le M){b o:Nat}:LE (Zc5 i m b o) (Zc5 i M b o):=by
 intro h
 unfold Zc5 at *
 cases ha:i.agg with
 | false=>
  simp only[ha,cond_false]at *
  obtain⟨v,hv,_⟩:=h
  exact⟨v,hm _ _ _ hv,v,λK ⟨v',hv',hK⟩=>by rw[hv]at hv';cases hv';exact hK,rfl⟩
 | true=>
  simp only[ha,cond_true]at *
  cases hb:Nat.ble i.size 16 with
  | true=>
   simp only[hb,cond_true]at *
   obtain⟨vs,hl,hr,_⟩:=ZiG h
   refine Zkl vs hl ⟨hr.mono hm,_,λK hK=>?_,rfl⟩
   obtain⟨vs',hl',hr',hK⟩:=ZiG hK
   rw[Ze5 hr hr' (by omega)];exact hK
  | false=>
   simp only[hb,cond_false]at *
   obtain⟨vs,hl,hr,_⟩:=h
   refine⟨vs,hl,hr.mono hm,_,λK ⟨vs',hl',hr',hK⟩=>?_,rfl⟩
   rw[Ze5 hr hr' (by omega)];exact hK
theorem ZlS{i:TI}{x:Box}{off:Nat}:LE (ZcG i x off) (ZcG i x off):=by
 unfold ZcG
 cases i.agg <;> simp only[cond_true,cond_false]
 ·exact ZqO (λ_=>rfl)
 ·cases(x.full&&(Nat.beq x.cap i.size&&Nat.beq off 0)) <;> simp only[cond_true,cond_false]
  ·exact LC.chk λ_=>LC.ret rfl
  ·exact LC.ret rfl
theorem ZrY{m:Mem}{a:Option Addr}{xs ys:List Value}(hx:rowRd m a xs)(hy:rowRd m a ys)(hl:xs.length=ys.length):xs=ys:=by
 apply List.ext_getElem? λj=>?_
 rcases hx with rfl|⟨b,o,rfl,h1⟩
 ·rw[List.eq_nil_of_length_eq_zero hl.symm]
 ·rcases hy with rfl|⟨b',o',h,h2⟩
  ·rw[List.eq_nil_of_length_eq_zero hl]
  ·cases h
   by_cases hj:j < xs.length
   ·have e1:=List.getElem?_eq_getElem hj
    have e2:=List.getElem?_eq_getElem (hl ▸ hj:j < ys.length)
    have g1:=h1 j _ e1
    have g2:=h2 j _ e2
    rw[g1]at g2
    rw[e1,e2,g2]
   ·rw[List.getElem?_eq_none_iff.2 (by omega),List.getElem?_eq_none_iff.2 (by omega)]
theorem ZmI{s t:ByteArray}(h:Za5 s=Za5 t):s=t:=by
 unfold Za5 at h
 have:s.data.toList=t.data.toList:=by
  refine(List.map_inj_right λx y e=>?_).1 h
  simp only[Value.int.injEq,true_and]at e
  exact UInt8.toNat_inj.1 (by omega)
 have h2:s.data=t.data:=Array.ext' this
 cases s;cases t
 simpa using h2
theorem ZpS{S1 S2:St}(hs:Less S1 S2){m M:Mem}(hm:m.le M){x:Operand}:LE (Zeo S1 m x) (ZbS S2 M x):=by
 intro h
 refine ZjM ?_
 unfold Zeo at *
 split at h
 ·rename_i v he
  obtain⟨h1,bs,h2,h3,_⟩:=Zaf h
  simp only[hs.ev he]
  refine Zab h1 ⟨bs,h2,h3.mono hm,.string bs,λK hK=>?_,rfl⟩
  obtain⟨_,bs',h2',h3',hk⟩:=Zaf hK
  have:bs=bs':=ZmI (ZrY h3 h3' (by rw[Zci,Zci,h2,h2']))
  rw[this];exact hk
 ·exact h.elim
theorem ZqR{E:Env}{S1 S2:St}(hs:Less S1 S2){m M:Mem}(hm:m.le M){T:TypeId}{x:Operand}:LE (Zel E S1 m T x) (Zel E S2 M T x):=by
 unfold Zel
 cases E.tt T with
 | none=>exact LC.false
 | some i=>
  simp only
  cases he:S1.ev x with
  | none=>exact LC.false
  | some sv=>
   simp only[hs.ev he]
   cases sv with
   | v u=>
    simp only
    cases Ze0 E x with
    | none=>exact LC.chk λ_=>ZpR hm
    | some id=>
     simp only
     cases hx:S1.L id with
     | none=>exact LC.false
     | some bx=>
      simp only[hs.L id bx hx]
      exact LC.chk λ_=>LC.and (λh=>h) (λ_=>ZlS) (λh=>ZdE h)
   | loc id off=>
    simp only
    cases hx:S1.L id with
    | none=>exact LC.false
    | some bx=>simp only[hs.L id bx hx];exact ZlS
   | sl id n c=>exact LC.false
structure OutB (rs:List Nat)(tk:Option Nat)(g:Bool)(m M:Mem)(S1 S2:St)(y1 y2:St×Mem):Prop where
 env1:y1.1.env=S1.env
 env2:y2.1.env=S2.env
 L:∀id,(id∈rs/\y1.1.L id=y2.1.L id)\/(y1.1.L id=S1.L id/\y2.1.L id=S2.L id)
 tok:∀k,(tk=some k/\y1.1.tok k=y2.1.tok k)\/(y1.1.tok k=S1.tok k/\y2.1.tok k=S2.tok k)
 le:y1.2.le y2.2
 same:g=false->y1.2=m/\y2.2=M
 gh2:(y2.1.gh,y2.1.fo)=(S2.gh,S2.fo)
structure Out (rs:List Nat)(tk:Option Nat)(g:Bool)(m M:Mem)(dst:Option Tmp)(S1 S2:St)(y1 y2:St×Mem):Prop where
 env1:∀t sv,dst=some t->y1.1.env t=some sv->y2.1.env t=some sv
 env2:∀t,dst≠some t->y2.1.env t=S2.env t
 L:∀id,(id∈rs/\y1.1.L id=y2.1.L id)\/(y1.1.L id=S1.L id/\y2.1.L id=S2.L id)
 tok:∀k,(tk=some k/\y1.1.tok k=y2.1.tok k)\/(y1.1.tok k=S1.tok k/\y2.1.tok k=S2.tok k)
 le:y1.2.le y2.2
 same:g=false->y1.2=m/\y2.2=M
 gh2:(y2.1.gh,y2.1.fo)=(S2.gh,S2.fo)
section
variable {rs:List Nat} {tk:Option Nat} {g:Bool} {m M:Mem} {S1 S2:St}
theorem Zte(S:St)(d:Option Tmp)(x:Option SV):(S.put d x).L=S.L:=by cases d <;> rfl
theorem Zvd(S:St)(d:Option Tmp)(x:Option SV):(S.put d x).tok=S.tok:=by cases d <;> rfl
theorem OutB.put{y1 y2:St×Mem}(h:OutB rs tk g m M S1 S2 y1 y2)(dst:Option Tmp){x1 x2:Option SV}(hx:∀sv,x1=some sv->x2=some sv):Out rs tk g m M dst S1 S2 (y1.1.put dst x1,y1.2) (y2.1.put dst x2,y2.2):=by
 refine⟨?_,?_,by simpa[Zte]using h.L,by simpa[Zvd]using h.tok,h.le,h.same,by have:=h.gh2;cases dst <;> exact this⟩
 ·intro t sv ht sw
  subst ht
  simp[St.put]at *
  exact hx _ sw
 ·intro t ht
  cases dst with
  | none=>simp[St.put,h.env2]
  | some d=>simp[St.put,Zam (λe=>ht (by rw[e]):t≠d),h.env2]
theorem OutB.refl(hm:m.le M):OutB rs tk g m M S1 S2 (S1,m) (S2,M):=⟨rfl,rfl,λ_=>.inr ⟨rfl,rfl⟩,λ_=>.inr ⟨rfl,rfl⟩,hm,λ_=>⟨rfl,rfl⟩,rfl⟩
theorem Out.put0(hm:m.le M)(dst:Option Tmp){x1 x2:Option SV}(hx:∀sv,x1=some sv->x2=some sv):Out rs tk g m M dst S1 S2 (S1.put dst x1,m) (S2.put dst x2,M):=
 (OutB.refl (rs:=rs) (tk:=tk) (g:=g) (S1:=S1) (S2:=S2) hm).put dst hx
theorem OutB.setL(hm:m.le M){id:Nat}(cR:id∈rs)(x:Option Box):OutB rs tk g m M S1 S2 (S1.setL id x,m) (S2.setL id x,M):=by
 refine⟨rfl,rfl,λi=>?_,λ_=>.inr ⟨rfl,rfl⟩,hm,λ_=>⟨rfl,rfl⟩,rfl⟩
 by_cases hi:i=id
 ·subst hi;exact .inl ⟨cR,by simp[St.setL]⟩
 ·exact .inr (by simp[St.setL,Zam hi])
theorem OutB.newL{m' M':Mem}(hm:m'.le M')(hg:g=false->m'=m/\M'=M){id:Nat}(cR:id∈rs)(x:Box):OutB rs tk g m M S1 S2 (S1.newL id x,m') (S2.newL id x,M'):=by
 refine⟨rfl,rfl,λi=>?_,λ_=>.inr ⟨rfl,rfl⟩,hm,hg,rfl⟩
 by_cases hi:i=id
 ·subst hi;exact .inl ⟨cR,by simp[St.newL]⟩
 ·exact .inr (by simp[St.newL,Zam hi])
end
mutual
theorem Shape.all_intro:∀(s:Shape){k:Value->Prop},(∀v,k v)->s.all k
 | .any,k,h=>by simpa only[Shape.all]using h
 | .int ki,k,h=>by simp only[Shape.all];exact λn=>h _
 | .bool,k,h=>by simp only[Shape.all];exact λn=>h _
 | .str,k,h=>by simp only[Shape.all];exact λn=>h _
 | .slice,k,h=>by simp only[Shape.all];exact λ_ _ _=>h _
 | .agg l,k,h=>by simp only[Shape.all];exact Shape.allL_intro l (λvs=>h _)
 | .tup l,k,h=>by simp only[Shape.all];exact Shape.allL_intro l (λvs=>h _)
 | .fn,k,h=>by simp only[Shape.all];exact λ_ _ _=>h _
 | .cells,k,h=>by simp only[Shape.all];exact λ_=>h _
 | .ptr,k,h=>by simp only[Shape.all];exact λ_ _=>h _
theorem Shape.allL_intro:∀(l:List Shape){k:List Value->Prop},(∀v,k v)->Shape.allL l k
 | [],k,h=>by simp only[Shape.allL];exact h _
 | s::l,k,h=>by simp only[Shape.allL];exact Shape.all_intro s (λv=>Shape.allL_intro l (λvs=>h _))
end
theorem allL_intro:∀{n:Nat} {k:List (List Value)->Prop},(∀l,l.length=n->k l)->allL n k
 | 0,k,h=>h [] rfl
 | n+1,k,h=>λcs=>allL_intro (λl hl=>h (cs::l) (by simp[hl]))
def Env.fixed(E:Env)(f:List Value->Mem->Value->Mem->List (List Value)->Prop):Env:={ E with fix:=some f }
section
variable {rs:List Nat} {tk:Option Nat} {g:Bool} {S1 S2:St} {m M:Mem}
theorem ZrZ{E:Env}{f:List Value->Mem->Value->Mem->List (List Value)->Prop}(hs:Less S1 S2)(jf:∀id x,S1.L id=some x->id∈rs)(hm:m.le M){T:TypeId}{x:Operand}{v:Value}:
  LC (λK:St×Mem->Prop=>ZgY (E.fixed f) S1 T x v λS'=>K (S',m)) (λK:St×Mem->Prop=>ZgY E S2 T x v λS'=>K (S',M)) (OutB rs tk g m M S1 S2):=by
 unfold ZgY
 show LC (λK=>match E.tt T with
  | none=>False
  | some i=>_) _ _
 cases E.tt T with
 | none=>exact LC.false
 | some i=>
  simp only
  cases he:S1.ev x with
  | none=>exact LC.false
  | some sv=>
   simp only[hs.ev he]
   cases sv with
   | loc id off=>
    simp only
    cases hx:S1.L id with
    | none=>exact LC.false
    | some bx=>
     simp only[hs.L id bx hx]
     refine LC.chk λ_=>?_
     cases(bx.full&&(Nat.beq bx.cap i.size&&Nat.beq off 0)) <;> simp only[cond_true,cond_false]
     ·exact LC.chk λ_=>LC.ret (OutB.setL hm (jf id bx hx) _)
     ·exact LC.ret (OutB.setL hm (jf id bx hx) _)
   | v u=>
    simp only
    show LC (λK=>match Ze0 E x with
     | none=>False
     | some id=>_) _ _
    cases Ze0 E x with
    | none=>exact LC.false
    | some id=>
     simp only
     cases hx:S1.L id with
     | none=>exact LC.false
     | some bx=>
      simp only[hs.L id bx hx]
      refine LC.chk λ_=>?_
      rintro⟨h1,h2,_⟩
      exact⟨h1,h2,_,λK hK=>hK.2.2,OutB.setL hm (jf id bx hx) _⟩
   | sl id n c=>exact LC.false
theorem ZtO{E:Env}{f:List Value->Mem->Value->Mem->List (List Value)->Prop}(hs:Less S1 S2)(jf:∀id x,S1.L id=some x->id∈rs)(hm:m.le M){T:TypeId}{id:Nat}{vd vs:Value}:
  LC (λK:Int×(St×Mem)->Prop=>Zpt (E.fixed f) S1 m T id vd vs λn S'=>K (n,(S',m))) (λK:Int×(St×Mem)->Prop=>Zpt E S2 M T id vd vs λn S'=>K (n,(S',M))) (λy1 y2=>y1.1=y2.1/\OutB rs tk g m M S1 S2 y1.2 y2.2/\y1.2.2=m/\y2.2.2=M):=by
 unfold Zpt
 show LC (λK=>match Zaw E T with
  | none=>False
  | some (e,j)=>_) _ _
 cases Zaw E T with
 | none=>exact LC.false
 | some ej=>
  obtain⟨e,j⟩:=ej
  simp only
  cases hx:S1.L id with
  | none=>exact LC.false
  | some bx=>
   simp only[hs.L id bx hx]
   refine LC.chk λ_=>?_
   intro h sx
   have hf:m.free bx.b:=λo=>by
    cases he:m bx.b o with
    | none=>rfl
    | some u=>have:=hm _ _ _ he;rw[sx o]at this;cases this
   obtain⟨o,xs,h1,h2,h3,h4,h5,_⟩:=h hf
   refine⟨o,xs,h1,h2,h3,h4,h5.imp_left (λh=>h.mono hm),(_,(S1.setL id (some { bx with cs:=ZaZ bx.cs o xs }),m)),λK hK=>?_,rfl,OutB.setL hm (jf id bx hx) _,rfl,rfl⟩
   obtain⟨o',xs',g1,g2,g3,g4,g5,g6⟩:=hK hf
   rw[h1]at g1
   obtain rfl:o=o':=by simpa using g1
   have hl:xs.length=xs'.length:=by rw[h2,g2]
   have eM:∀{as:Option Addr} {ys:List Value} {p:Nat},rowRd m as ys->as=some ⟨bx.b,p,none⟩->ys=[]:=λ{as ys p} hy ha=>by
    rcases hy with hy|⟨b1,o1,jF,hy⟩
    ·exact hy
    ·rw[ha]at jF
     simp only[Option.some.injEq,Addr.mk.injEq,and_true]at jF
     obtain⟨rfl,rfl⟩:=jF
     cases pt:ys with
     | nil=>rfl
     | cons u l=>subst pt;have:=hy 0 u rfl;rw[hf]at this;cases this
   have pQ:xs=xs':=by
    rcases h5 with h5|⟨p,hp,h5⟩
    ·rcases g5 with g5|⟨p',hp',g5⟩
     ·exact Ze6 h5 g5 hl
     ·have:=eM h5 hp';subst this
      exact(List.eq_nil_of_length_eq_zero hl.symm).symm
    ·rcases g5 with g5|⟨p',hp',g5⟩
     ·have:=eM g5 hp;subst this
      exact List.eq_nil_of_length_eq_zero hl
     ·rw[hp]at hp'
      obtain rfl:p=p':=by simpa using hp'
      apply List.ext_getElem?
      intro i
      by_cases hi:i < xs.length
      ·have e1:=h5 i _ (List.getElem?_eq_getElem hi)
       have e2:=g5 i _ (List.getElem?_eq_getElem (by omega))
       rw[e1]at e2
       rw[List.getElem?_eq_getElem hi,List.getElem?_eq_getElem (by omega)]
       exact e2
      ·rw[List.getElem?_eq_none (by omega),List.getElem?_eq_none (by omega)]
   subst pQ
   exact g6
theorem ZhF(hs:Less S1 S2):∀{ids:List Nat} {bxs:List Box},ZbR S1 ids=some bxs->ZbR S2 ids=some bxs
 | [],bxs,h=>h
 | id::l,bxs,h=>by
  simp only[ZbR]at *
  cases hx:S1.L id with
  | none=>simp[hx]at h
  | some x=>
   simp only[hx]at h
   simp only[hs.L id x hx]
   cases hb:ZbR S1 l with
   | none=>simp[hb]at h
   | some xs=>simp only[hb]at h;simp only[ZhF hs hb];exact h
theorem ZtP{E:Env}(hE:E.fix=none){f:List Value->Mem->Value->Mem->List (List Value)->Prop}(hs:Less S1 S2)(jf:∀id x,S1.L id=some x->id∈rs)(hm:m.le M){rt:TypeId}{gg:FuncId}{args:List Value}{ids:List Nat}{γ:Value->St->Option SV}:
  LC (λK:Value×(St×Mem)->Prop=>Zno (E.fixed f) S1 m rt gg args ids λv S' m'=>K (v,(S',m'))) (λK:Value×(St×Mem)->Prop=>Zno E S2 M rt gg args ids λv S' m'=>K (v,(S',m'))) (λy1 y2=>y1.1=y2.1/\OutB rs tk true m M S1 S2 y1.2 y2.2):=by
 intro h
 unfold Zno at *
 cases hb:ZbR S1 ids with
 | none=>simp[hb]at h
 | some bxs=>
  simp only[hb]at h
  simp only[ZhF hs hb]
  obtain⟨h1,R,h0,gK,dZ,_⟩:=Zaf h
  have h0':R=f args m:=h0
  obtain⟨bL,cE⟩:=Zch hb
  simp only[Bool.and_eq_true]at h1
  have dR:=Zaz h1.2
  refine Zab (by simp[h1.1,h1.2]) ⟨λv M' css=>∃m',m.le m'/\m'.le M'/\R v m' css,by rw[hE];trivial,gK.frame hm,λv m' css ⟨_,_,_,hR⟩=>dZ _ _ _ hR,?_⟩
  refine Shape.all_intro _ λv M' hM'=>allL_intro λcss fR ⟨m',g1,g2,hR⟩=>⟨(v,(ZdL S1 ids bxs css,m')),λK hK=>?_,rfl,?_⟩
  ·obtain⟨_,R',h0'',_,_,cB⟩:=Zaf hK
   have h0''':R'=f args m:=h0''
   have mo:R'=R:=by rw[h0''',h0']
   subst mo
   exact Zhp (Shape.all_fits _ _ cB v (dZ _ _ _ hR) m' g1) css fR hR
  ·refine⟨by rw[ZdA],by rw[ZdA],λid=>?_,λk=>.inr ⟨by rw[ZdA],by rw[ZdA]⟩,g2,λh=>(by cases h),by rw[ZdA]⟩
   rcases Zen (S:=S1) dR bL fR id with⟨a1,a2⟩|⟨i,x,cs,a1,a2,a3,a4⟩
   ·rcases Zen (S:=S2) dR bL fR id with⟨b1,b2⟩|⟨i',x',cs',b1,b2,b3,b4⟩
    ·exact .inr ⟨a2,b2⟩
    ·exact absurd (List.mem_of_getElem? b1) a1
   ·rcases Zen (S:=S2) dR bL fR id with⟨b1,b2⟩|⟨i',x',cs',b1,b2,b3,b4⟩
    ·exact absurd (List.mem_of_getElem? a1) b1
    ·obtain⟨id',c1,c2⟩:=cE i x a2
     rw[a1]at c1;cases c1
     have hi:=(List.getElem?_eq_some_iff.1 a1).1
     have:i=i':=(List.getElem?_inj hi dR).1 (by rw[a1,b1])
     subst this
     rw[a2]at b2;rw[a3]at b3;cases b2;cases b3
     exact .inl ⟨jf _ _ c2,by rw[a4,b4]⟩
theorem Zr0{E:Env}(hE:E.fix=none){f:List Value->Mem->Value->Mem->List (List Value)->Prop}{rt:TypeId}{gg:FuncId}{args:List Value}{key esz:Nat}(eL:tk=some key)(hm:m.le M):
  LC (λK:Value×(St×Mem)->Prop=>Zkq (E.fixed f) S1 m rt gg args key esz λv S' m'=>K (v,(S',m'))) (λK:Value×(St×Mem)->Prop=>Zkq E S2 M rt gg args key esz λv S' m'=>K (v,(S',m'))) (λy1 y2=>y1.1=y2.1/\OutB rs tk true m M S1 S2 y1.2 y2.2):=by
 rintro⟨R,h0,gK,dZ,_⟩
 have h0':R=f args m:=h0
 refine⟨λv M' _=>∃m',m.le m'/\m'.le M'/\R v m' [],?_⟩
 rw[hE]
 refine⟨gK.frame hm,λv m' css ⟨_,_,_,hR⟩=>dZ _ _ _ hR,?_⟩
 refine Shape.all_intro _ λv M' hM' ⟨m',g1,g2,hR⟩=>⟨(v,({ S1 with tok:=λk=>bif Nat.beq k key then some ⟨v,esz⟩ else S1.tok k,tkeys:=key::S1.tkeys },m')),λK hK=>?_,rfl,?_⟩
 ·obtain⟨R',h0'',_,_,cB⟩:=hK
  have h0''':R'=f args m:=h0''
  have mo:R'=R:=by rw[h0''',h0']
  subst mo
  exact Shape.all_fits _ _ cB v (dZ _ _ _ hR) m' g1 hR
 ·refine⟨rfl,rfl,λid=>.inr ⟨rfl,rfl⟩,λk=>?_,g2,λh=>(by cases h),rfl⟩
  by_cases hk:k=key
  ·subst hk;exact .inl ⟨eL,by simp⟩
  ·exact .inr (by simp[Zam hk])
theorem ZpT{E:Env}{f:List Value->Mem->Value->Mem->List (List Value)->Prop}(hm:m.le M){T xT:TypeId}{key:Nat}{vs vx:Value}(eL:tk=some key)(cF:∀k,tk=some k->S1.tok k=S2.tok k):
  LC (λK:Value×(St×Mem)->Prop=>Zfh (E.fixed f) S1 m T xT key vs vx λv t m'=>K (v,({ S1 with tok:=t,tkeys:=key::S1.tkeys },m'))) (λK:Value×(St×Mem)->Prop=>Zfh E S2 M T xT key vs vx λv t m'=>K (v,({ S2 with tok:=t,tkeys:=key::S2.tkeys },m'))) (λy1 y2=>y1.1=y2.1/\OutB rs tk true m M S1 S2 y1.2 y2.2):=by
 unfold Zfh
 show LC (λK=>match Zaw E T with
  | none=>False
  | some (_,j)=>match Zaw E xT with
   | none=>False
   | some (_,j')=>_) _ _
 cases Zaw E T with
 | none=>exact LC.false
 | some ej=>
  cases Zaw E xT with
  | none=>exact LC.false
  | some ej'=>
   simp only
   refine LC.chk λ_=>?_
   have kQ:LC (λK:Value×(St×Mem)->Prop=>Zv3 (E.fixed f) S1 m ej.2 key vs vx λv t m'=>K (v,({ S1 with tok:=t,tkeys:=key::S1.tkeys },m'))) (λK:Value×(St×Mem)->Prop=>Zv3 E S2 M ej.2 key vs vx λv t m'=>K (v,({ S2 with tok:=t,tkeys:=key::S2.tkeys },m'))) (λy1 y2=>y1.1=y2.1/\OutB rs tk true m M S1 S2 y1.2 y2.2):=?body
   case body=>
    unfold Zv3
    rintro⟨ht,xs,ys,a1,a2,a3,a4,a5,a6,a7,_⟩
    rw[cF key eL]at ht
    refine⟨ht,xs,ys,a1,a2,a3.mono hm,a4.mono hm,a5,a6,a7,λa' c' M' hM' hr=>?_⟩
    refine ZrG λnf fX=>⟨(.slice a' (slN vs+slN vx) c',({ S1 with tok:=(λk=>bif Nat.beq k key then some ⟨.slice a' (slN vs+slN vx) c',ej.2.size⟩ else S1.tok k),tkeys:=key::S1.tkeys },M')),λK hK=>?_,rfl,⟨rfl,rfl,λ_=>.inr ⟨rfl,rfl⟩,λk=>?_,Mem.le_refl _,λh=>(by cases h),rfl⟩⟩
    ·obtain⟨_,xs',ys',b1,b2,b3,b4,_,_,_,b8⟩:=hK
     rw[Ze6 a3 b3 (by omega),Ze6 a4 b4 (by omega)]at hr
     exact Zmq (b8 a' c' M' (mLt hm hM') hr) (λht=>(nf ht).mono hm) fX
    ·by_cases hk:k=key
     ·subst hk;exact .inl ⟨eL,by simp⟩
     ·exact .inr (by simp[Zam hk])
   show LC (λK=>bif E.tails then br (Nat.beq (slN vx) 0) (chk (Nat.ble (slN vs) (slC vs)) _) _ else _) (λK=>bif E.tails then br (Nat.beq (slN vx) 0) (chk (Nat.ble (slN vs) (slC vs)) _) _ else _) _
   cases E.tails with
   | false=>exact kQ
   | true=>
    refine LC.br (LC.chk λ_=>LC.ret ⟨rfl,⟨rfl,rfl,λ_=>.inr ⟨rfl,rfl⟩,λk=>?_,hm,λh=>(by cases h),rfl⟩⟩) kQ
    by_cases hk:k=key
    ·subst hk;exact .inl ⟨eL,cF k eL⟩
    ·exact .inr ⟨rfl,rfl⟩
end
theorem Mem.add_le{m M:Mem}(h:m.le M)(b:Nat)(cs:List Value):(m.add b cs).le (M.add b cs):=⟨λb' o v hv=>by
 by_cases hb:b'=b
 ·subst hb;rw[Mem.add_same]at hv ⊢;exact hv
 ·rw[Mem.add_other _ hb]at hv ⊢;exact h _ _ _ hv,h.k⟩
theorem Zgo{S1 S2:St}(hs:Less S1 S2):∀{l:List Operand} {k:List Value->Prop},wvs S1 l k->Zd0 S1 l=Zd0 S2 l
 | [],k,h=>rfl
 | x::l,k,h=>by
  obtain⟨v,hv,h⟩:=Zar h
  have ih:=Zgo hs h
  unfold St.val at hv
  cases he:S1.ev x with
  | none=>simp[he]at hv
  | some sv=>
   simp only[Zd0,he,hs.ev he,ih]
   cases sv with
   | loc id off=>
    simp only[he,St.den]at hv
    cases hx:S1.L id with
    | none=>simp[hx]at hv
    | some x=>simp only[hx,hs.L id x hx]
   | _=>rfl
theorem MapFind.unique{P:Program}{T:TypeId}{k:Value}(w:World):∀{es:List (Value×Value)} {r r':Option Value},MapFind P T k es r->MapFind P T k es r'->r=r'
 | [],r,r',h,h'=>by
  simp only[MapFind]at h h'
  rw[h,h']
 | e::es,r,r',h,h'=>by
  simp only[MapFind]at h h'
  rcases h with⟨h1,h2⟩|⟨h1,h2⟩ <;> rcases h' with⟨h3,h4⟩|⟨h3,h4⟩
  ·rw[h2,h4]
  ·exact absurd (EqIs.unique w h1 h3) (by simp)
  ·exact absurd (EqIs.unique w h1 h3) (by simp)
  ·exact MapFind.unique w h2 h4
theorem LookIs.unique{P:Program}{T:TypeId}{k:Value}(w:World){es:List (Value×Value)}{z v v':Value}{o o':Bool}(h:LookIs P T k es z v o)(h':LookIs P T k es z v' o'):v=v'/\o=o':=by
 obtain⟨r,h1,h2,h3⟩:=h
 obtain⟨r',h4,h5,h6⟩:=h'
 cases MapFind.unique w h1 h4
 exact⟨h2.trans h5.symm,h3.trans h6.symm⟩
def Zve(E:Env)(tk:Option Nat)(d:Option Tmp):Bool:=match ZcQ E d with
 | none=>true
 | some ke=>(match tk with
  | some k=>Nat.beq ke.1 k
  | none=>false)
def Ztf(E:Env)(rs:List Nat)(tk:Option Nat)(o:Oper):Bool:=match o.op with
 | .alloc _=>(match o.dst with
  | some d=>rs.any (Nat.beq d ·)
  | none=>false)
 | .box _ _=>(match o.dst with
  | some d=>rs.any (Nat.beq d ·)
  | none=>false)
 | .buildSlice _ _ _=>(match o.dst with
  | some d=>rs.any (Nat.beq d ·)
  | none=>false)
 | .makeSlice _ _ _=>(match o.dst with
  | some d=>rs.any (Nat.beq d ·)
  | none=>false)
 | .call c=>(match c.callee with
  | .builtin .append=>(match o.dst,tk with
   | some d,some k=>Nat.beq (E.tokOf d) k
   | _,_=>false)
  | _=>(ZdN E o.dst).isNone&&Zve E tk o.dst)
 | .store _ x _=>(match ZnO E x with
  | none=>true
  | some _=>false)
 | .mapUpdate _ _ _ _=>false
 | _=>true
theorem ZlT{E:Env}{rs:List Nat}{tk:Option Nat}{o:Oper}(h:Ztf E rs tk o=true):ZnY E o:=by
 refine⟨λT x y e=>?_,λf as ats e=>?_,λT x y z e=>?_⟩
 ·unfold Ztf at h
  rw[e]at h
  cases hs:ZnO E x with
  | none=>rfl
  | some k=>simp[hs]at h
 ·unfold Ztf at h
  rw[e]at h
  have h:((ZdN E o.dst).isNone&&Zve E tk o.dst)=true:=h
  rw[Bool.and_eq_true]at h
  simpa using h.1
 ·unfold Ztf at h
  rw[e]at h
  cases h
def Zn7(rs:List Nat)(o:Oper):List Nat:=match o.op with
 | .alloc _=>dl o.dst
 | .box _ _=>dl o.dst
 | .buildSlice _ _ _=>dl o.dst
 | .makeSlice _ _ _=>dl o.dst
 | .store _ _ _=>rs
 | .call c=>(match c.callee with
  | .value _=>rs
  | .builtin .copy=>rs
  | _=>[])
 | _=>[]
def ZdP(o:Oper):Bool:=match o.op with
 | .buildSlice _ _ _=>true
 | .call c=>(match c.callee with
  | .value _=>true
  | .builtin .append=>true
  | _=>false)
 | _=>false
section
variable {rs:List Nat} {tk:Option Nat} {S1 S2:St} {m M:Mem}
theorem Zwy{E:Env}(w:World)(hE:E.fix=none){f:List Value->Mem->Value->Mem->List (List Value)->Prop}(hs:Less S1 S2)(jf:∀id x,S1.L id=some x->id∈rs)(hL:∀id∈rs,S1.L id=S2.L id)
  (cF:∀k,tk=some k->S1.tok k=S2.tok k) (hm:m.le M) {o:Oper} (iL:Ztf E rs tk o=true):
  LC (λK:St×Mem->Prop=>opW (E.fixed f) S1 m o λS' m'=>K (S',m')) (λK:St×Mem->Prop=>opW E S2 M o λS' m'=>K (S',m')) (Out (Zn7 rs o) tk (ZdP o) m M o.dst S1 S2):=by
 have fL:∀(rs:List Nat)(g:Bool)(o:Oper),LC (λK:St×Mem->Prop=>Zcg (E.fixed f) S1 o λsv=>K (S1.put o.dst (some sv),m)) (λK:St×Mem->Prop=>Zcg E S2 o λsv=>K (S2.put o.dst (some sv),M)) (Out rs tk g m M o.dst S1 S2):=λrs g o=>by
  refine LC.map (f:=λsv=>(S1.put o.dst (some sv),m)) (g:=λsv=>(S2.put o.dst (some sv),M)) (ρ:=Eq) (T1:=λK=>Zcg (E.fixed f) S1 o K) (T2:=λK=>Zcg E S2 o K) ?_ ?_ ?_
  ·exact(ZtN w hs:LE (Zcg E S1 o) (Zcg E S2 o))
  ·rintro a b rfl
   exact Out.put0 hm _ (λsv h=>h)
  ·exact λh=>ZiL h
 obtain⟨dst,op,type,pos,after,guard⟩:=o
 have iM:∀(rs:List Nat)(g:Bool)(x:Operand),LC (λK:St×Mem->Prop=>K (S1.put dst (S1.ev x),m)) (λK:St×Mem->Prop=>K (S2.put dst (S2.ev x),M)) (Out rs tk g m M dst S1 S2):=λrs g x=>LC.ret (Out.put0 hm _ (λsv h=>hs.ev h))
 have dI:∀{g:Bool} {d:Nat} {x:Box} {sv:SV},Out [d] tk g m M (some d) S1 S2 ((S1.newL d x).put (some d) (some sv),m) ((S2.newL d x).put (some d) (some sv),M):=λ{g d x sv}=>(OutB.newL hm (λ_=>⟨rfl,rfl⟩) (by simp) x).put (some d) (λsv h=>h)
 cases op with
 | move x=>exact iM _ _ x
 | assign x=>exact iM _ _ x
 | pick c x y=>exact Zcy hs λv=>LC.chk λ_=>LC.br (iM _ _ x) (iM _ _ y)
 | load T x=>
  have hq:ZrC (E.fixed f) dst=ZrC E dst:=rfl
  simp only[opW,hq]
  cases mh:ZrC E dst with
  | some y=>
   refine LC.map (f:=λv=>(S1.put dst (some (.v v)),m)) (g:=λv=>(S2.put dst (some (.v v)),M)) (ρ:=Eq) (T1:=λK=>Zel (E.fixed f) S1 m T x λv=>ldW y v K) (T2:=λK=>Zel E S2 M T x λv=>ldW y v K) ?_ ?_ ?_
   ·intro h
    have h1:=(ZqR hs hm:LE (Zel E S1 m T x) (Zel E S2 M T x)) (Zdp (λ_ _=>trivial) h)
    refine Zdp (λv ⟨v1,g1,g2⟩=>?_) h1
    subst g2
    exact ZrD (g1 _ h) ⟨v1,λK hK=>ZqE (g1 _ hK),rfl⟩
   ·rintro a b rfl
    exact Out.put0 hm _ (λsv h=>h)
   ·exact λh=>Zdp λv=>ZqF h
  | none=>
  refine LC.map (f:=λv=>(S1.put dst (some (.v v)),m)) (g:=λv=>(S2.put dst (some (.v v)),M)) (ρ:=Eq) (T1:=λK=>Zel (E.fixed f) S1 m T x K) (T2:=λK=>Zel E S2 M T x K) ?_ ?_ ?_
  ·exact(ZqR hs hm:LE (Zel E S1 m T x) (Zel E S2 M T x))
  ·rintro a b rfl
   exact Out.put0 hm _ (λsv h=>h)
  ·exact λh=>Zdp h
 | store T x y=>
  refine Zcy hs λv=>?_
  show LC (λK=>match ZnO E x with
   | none=>_
   | some key=>bif (E.fixed f).fix.isSome then False else _) (λK=>match ZnO E x with
   | none=>_
   | some key=>_) _
  cases ZnO E x with
  | some key=>exact LC.false
  | none=>
  refine LC.map (f:=λy:St×Mem=>(y.1.put dst none,m)) (g:=λy:St×Mem=>(y.1.put dst none,M)) (ρ:=λy1 y2=>OutB rs tk false m M S1 S2 y1 y2/\y1.2=m/\y2.2=M) ?_ ?_ ?_ (T1:=λK=>ZgY (E.fixed f) S1 T x v λS'=>K (S',m)) (T2:=λK=>ZgY E S2 T x v λS'=>K (S',M))
  ·exact λh=>Zgh (λS' _ ⟨y1,g1,g2⟩=>⟨(y1.1,m),λK hK=>g1 (λy=>K (y.1,m)) hK,⟨g2.env1,g2.env2,g2.L,g2.tok,hm,λ_=>⟨rfl,rfl⟩,g2.gh2⟩,rfl,rfl⟩) (ZrZ (tk:=tk) (rs:=rs) (g:=false) hs jf hm h)
  ·rintro a b ⟨h1,h2,h3⟩
   have:=h1.put dst (x1:=none) (x2:=none) (λsv h=>h)
   rw[h2,h3]at this;exact this
  ·exact λh=>Zgh (λS' _=>h _)
 | alloc T=>
  simp only[opW,ZrF,Ztf]at *
  cases dst with
  | none=>exact LC.false
  | some d=>
   simp only
   show LC (λK=>match E.tt T with
    | none=>False
    | some i=>_) _ _
   cases E.tt T with
   | none=>exact LC.false
   | some i=>
    simp only at iL ⊢
    rw[hL d (Zfk.1 iL)]
    cases hx:S2.L d with
    | some x=>exact LC.false
    | none=>exact λ_ b=>⟨_,λK hK=>hK b,dI⟩
 | box T x=>
  refine Zcy hs λv=>?_
  show LC (λK=>bif Zf9 E dst then(bif (E.fixed f).fix.isSome then False else _)else _) (λK=>bif Zf9 E dst then _ else _) _
  cases jY:Zf9 E dst with
  | true=>exact LC.false
  | false=>
  simp only[cond_false]
  simp only[Zxw,Ztf]at *
  cases dst with
  | none=>exact LC.false
  | some d=>
   simp only
   show LC (λK=>match E.tt T with
    | none=>False
    | some i=>_) _ _
   cases E.tt T with
   | none=>exact LC.false
   | some i=>
    simp only at iL ⊢
    rw[hL d (Zfk.1 iL)]
    cases hx:S2.L d with
    | some x=>exact LC.false
    | none=>exact LC.chk λ_ _ b=>⟨_,λK hK=>hK b,dI⟩
 | buildSlice T len parts=>
  simp only[opW]
  have hq:ZcQ (E.fixed f) dst=ZcQ E dst:=rfl
  simp only[hq]
  cases gY:ZcQ E dst with
  | some ke=>exact LC.false
  | none=>
  simp only[Zdk,Ztf]at *
  cases dst with
  | none=>exact LC.false
  | some d=>
   simp only
   show LC (λK=>match E.tt T with
    | none=>False
    | some t=>match t.d with
     | .slice e=>match E.tt e with
      | none=>False
      | some i=>_
     | _=>False) _ _
   cases E.tt T with
   | none=>exact LC.false
   | some t=>
    simp only
    cases t.d <;> simp only <;> try exact LC.false
    rename_i e
    cases E.tt e with
    | none=>exact LC.false
    | some i=>
     simp only at iL ⊢
     rw[hL d (Zfk.1 iL)]
     cases hx:S2.L d with
     | some x=>exact LC.false
     | none=>
      refine LC.chk λ_=>ZmH hs λvs=>LC.chk λ_ _ b hb=>⟨_,λK hK=>hK b ?_,?_⟩
      ·intro o
       cases he:m b o with
       | none=>rfl
       | some v=>have:=hm _ _ _ he;rw[hb o]at this;cases this
      ·exact(OutB.newL (Mem.add_le hm b (ZbO vs)) (λh=>by cases h) (by simp[Zn7,dl]) _).put (some d) (λsv h=>h)
 | lookup T x y ok=>
  simp only[opW,ZuH]
  refine Zcy hs λvm=>Zcy hs λvk=>?_
  have hq:Zpu (E.fixed f) T=Zpu E T:=rfl
  rw[hq]
  cases Zpu E T with
  | none=>exact LC.false
  | some q=>
   obtain⟨k,ei⟩:=q
   rintro⟨b,es,v,r,rfl,h2,h3,h4,_⟩
   refine⟨b,es,v,r,rfl,hm.k b es h2,h3,h4,_,λK hK=>?_,Out.put0 hm dst (λsv h=>h)⟩
   obtain⟨b',es',v',r',e',h2',h3',h4',hK⟩:=hK
   cases e'
   rw[h2]at h2';cases h2'
   obtain⟨rfl,rfl⟩:=LookIs.unique w h4 h4'
   exact hK
 | mapUpdate T x y z=>exact LC.false
 | makeMap T r=>exact LC.false
 | makeSlice T l c=>
  have hq:ZcQ (E.fixed f) dst=ZcQ E dst:=rfl
  simp only[opW,hq]
  have om:Zs9 (E.fixed f) dst=Zs9 E dst:=rfl
  cases gY:ZcQ E dst with
  | some ke=>exact LC.false
  | none=>
  simp only[om]
  cases kG:Zs9 E dst with
  | true=>exact LC.false
  | false=>
  simp only[cond_false]
  simp only[ZuG,Ztf]at *
  cases dst with
  | none=>exact LC.false
  | some d=>
   simp only
   show LC (λK=>match Zaw E T with
    | none=>False
    | some (e,j)=>_) _ _
   cases Zaw E T with
   | none=>exact LC.false
   | some ej=>
    simp only at iL ⊢
    rw[hL d (Zfk.1 iL)]
    cases hx:S2.L d with
    | some x=>exact LC.false
    | none=>exact Zcy hs λv=>Zcy hs λv'=>LC.chk λ_ ⟨h1,_⟩=>⟨h1,λb=>⟨_,λK hK=>hK.2 b,dI⟩⟩
 | convert s d x=>
  simp only[opW]
  show LC (λK=>bif Zgf E s d then _ else _) _ _
  cases Zgf E s d with
  | false=>
   simp only[cond_false]
   show LC (λK=>bif ZcR E s d then _ else _) _ _
   cases ZcR E s d with
   | false=>
    simp only[cond_false]
    show LC (λK=>bif ZcS E s d then _ else _) _ _
    cases ZcS E s d with
    | false=>exact fL _ _ ⟨dst,.convert s d x,type,pos,after,guard⟩
    | true=>
     simp only[cond_true]
     have e2:∀k,Zmt E S2 M x k=ZbS S2 M x k:=λk=>by unfold Zmt;rw[hE];rfl
     have e1:∀k,Zmt (E.fixed f) S1 m x k=Zeo S1 m x k:=λk=>rfl
     simp only[e1,e2]
     refine LC.map (f:=λv=>(S1.put dst (some (.v v)),m)) (g:=λv=>(S2.put dst (some (.v v)),M)) (ρ:=Eq) (T1:=λK=>Zeo S1 m x K) (T2:=λK=>ZbS S2 M x K) ?_ ?_ ?_
     ·exact ZpS hs hm
     ·rintro a b rfl
      exact Out.put0 hm _ (λsv h=>h)
     ·exact λh=>Zfj h
   | true=>exact LC.false
  | true=>
   simp only[cond_true]
   cases he:S1.ev x with
   | none=>exact LC.false
   | some sv=>
    simp only[hs.ev he]
    cases sv <;> first
     | exact LC.false
     | exact LC.ret (Out.put0 hm _ (λsv h=>h))
 | call c=>
  obtain⟨callee,args,argTypes⟩:=c
  cases callee with
  | value g=>
   simp only[opW,ZuD]
   show LC (λK=>match ZdM E dst with
    | []=>_
    | ids=>bif (E.fixed f).fix.isSome then False else _) (λK=>match ZdM E dst with
    | []=>_
    | ids=>_) _
   cases sy:ZdM E dst with
   | cons i l=>exact LC.false
   | nil=>
   simp only[ZuF]
   have iD:ZdN E dst=none:=(ZlT iL).2.1 _ _ _ rfl
   have pR:ZdN (E.fixed f) dst=none:=iD
   cases he:S1.ev g with
   | none=>exact LC.false
   | some sv=>
    simp only[hs.ev he]
    cases sv with
    | loc id off=>exact LC.false
    | sl id n c=>exact LC.false
    | v u=>
     cases u <;> try exact LC.false
     rename_i fv first captured
     cases fv <;> try exact LC.false
     rename_i gg
     have iJ:Zs6 (E.fixed f) dst=Zs6 E dst:=rfl
     have sA:ZqG (E.fixed f) dst=ZqG E dst:=rfl
     simp only[sA]
     cases jb:ZqG E dst with
     | true=>exact LC.false
     | false=>
     simp only[cond_false]
     simp only[iJ,iD,pR]
     cases mj:Zs6 E dst with
     | true=>exact LC.false
     | false=>
     simp only[cond_false]
     have hq:ZcQ (E.fixed f) dst=ZcQ E dst:=rfl
     simp only[hq]
     cases gY:ZcQ E dst with
     | some ke=>
      intro h
      have sB:Zc6 (E.fixed f) dst=Zc6 E dst:=rfl
      simp only[sB]at h ⊢
      have eL:tk=some ke.1:=by
       have ng:((ZdN E dst).isNone&&Zve E tk dst)=true:=iL
       rw[Bool.and_eq_true]at ng
       have h2:=ng.2
       unfold Zve at h2
       rw[gY]at h2
       cases tk with
       | none=>cases h2
       | some k=>rw[Nat.eq_of_beq_eq_true h2]
      cases pS:Zd0 S1 args.toList++Zc6 E dst with
      | cons i l=>
       simp only[pS]at h
      | nil=>
       simp only[pS]at h
       have lI:=Zgo hs h
       rw[<-lI,pS]
       revert h
       show LC (λK:St×Mem->Prop=>wvs S1 args.toList λvs=>Zkq (E.fixed f) S1 m type gg (first.toList++vs++captured.toList) ke.1 ke.2 λv S' m'=>K (S'.put dst (some (SV.v v)),m'))
        (λK:St×Mem->Prop=>wvs S2 args.toList λvs=>Zkq E S2 M type gg (first.toList++vs++captured.toList) ke.1 ke.2 λv S' m'=>K (S'.put dst (some (SV.v v)),m')) _
       refine ZmH hs λvs=>?_
       refine LC.map (f:=λy:Value×(St×Mem)=>(y.2.1.put dst (some (.v y.1)),y.2.2)) (g:=λy:Value×(St×Mem)=>(y.2.1.put dst (some (.v y.1)),y.2.2)) (Zr0 (rs:=rs) (tk:=tk) hE (f:=f) eL hm) ?_ ?_
       ·rintro⟨v1,y1⟩ ⟨v2,y2⟩ ⟨rfl,h2⟩
        exact h2.put dst (λsv h=>h)
       ·exact λh=>ZjR (λv S' m' _ _=>h _)
     | none=>
     intro h
     have lI:=Zgo hs h
     revert h
     rw[<-lI]
     show LC (λK:St×Mem->Prop=>wvs S1 args.toList λvs=>Zno (E.fixed f) S1 m type gg (first.toList++vs++captured.toList) (Zd0 S1 args.toList++Zc6 E dst) λv S' m'=>K (S'.put dst (some (SV.v v)),m'))
      (λK:St×Mem->Prop=>wvs S2 args.toList λvs=>Zno E S2 M type gg (first.toList++vs++captured.toList) (Zd0 S1 args.toList++Zc6 E dst) λv S' m'=>K (S'.put dst (some (SV.v v)),m')) _
     refine ZmH hs λvs=>?_
     refine LC.map (f:=λy:Value×(St×Mem)=>(y.2.1.put dst (some (.v y.1)),y.2.2)) (g:=λy:Value×(St×Mem)=>(y.2.1.put dst (some (.v y.1)),y.2.2)) (ZtP (rs:=rs) (tk:=tk) (γ:=λ_ _=>none) hE (f:=f) hs jf hm) ?_ ?_
     ·rintro⟨v1,y1⟩ ⟨v2,y2⟩ ⟨rfl,h2⟩
      exact h2.put dst (λsv h=>h)
     ·exact λh=>ZlN (λv S' m' _ _=>h _)
  | invoke r mm=>
   simp only[opW]
   exact fL _ _ ⟨dst,_,type,pos,after,guard⟩
  | builtin b=>
   cases b with
   | append=>
    simp only[opW,Ztf]at *
    split
    ·rename_i s x T xT d _ _
     cases eL:tk with
     | none=>simp[eL]at iL
     | some key=>
      simp only[eL]at iL
      obtain rfl:=Nat.eq_of_beq_eq_true iL
      simp only[ZuD]
      show LC (λK=>match ZdM E (some d)with
       | []=>_
       | ids=>bif (E.fixed f).fix.isSome then False else _) (λK=>match ZdM E (some d)with
       | []=>_
       | ids=>_) _
      cases sy:ZdM E (some d)with
      | cons i l=>exact LC.false
      | nil=>
      refine Zcy hs λv=>Zcy hs λv'=>?_
      have z:=ZpT (E:=E) (rs:=[]) (tk:=some (E.tokOf d)) (key:=E.tokOf d) (S1:=S1) (S2:=S2) (f:=f) (T:=T) (xT:=xT) (vs:=v) (vx:=v') hm rfl (λk hk=>cF k (eL.trans hk))
      refine LC.map z (f:=λy:Value×(St×Mem)=>(y.2.1.put (some d) (some (.v y.1)),y.2.2)) (g:=λy:Value×(St×Mem)=>(y.2.1.put (some d) (some (.v y.1)),y.2.2)) ?_ ?_
      ·rintro⟨v1,y1⟩ ⟨v2,y2⟩ ⟨rfl,h2⟩
       exact h2.put (some d) (λsv h=>h)
      ·exact λh=>Ze2 (λv t m' _=>h _)
    ·exact LC.false
   | copy=>
    simp only[opW,Ztf]at *
    split
    ·rename_i d s T xT _ _
     have hq:Ze0 (E.fixed f) d=Ze0 E d:=rfl
     simp only[hq]
     cases Ze0 E d with
     | none=>exact LC.false
     | some id=>
      refine Zcy hs λv=>Zcy hs λv'=>?_
      have z:=ZtO (E:=E) (rs:=rs) (tk:=tk) (g:=false) (S1:=S1) (S2:=S2) (f:=f) (T:=T) (id:=id) (vd:=v) (vs:=v') hs jf hm
      refine LC.map z (f:=λy:Int×(St×Mem)=>(y.2.1.put dst (some (.v (.int .i64 y.1))),m)) (g:=λy:Int×(St×Mem)=>(y.2.1.put dst (some (.v (.int .i64 y.1))),M)) ?_ ?_
      ·rintro⟨n1,y1⟩ ⟨n2,y2⟩ ⟨rfl,h2,h3,h4⟩
       have:=h2.put dst (x1:=some (.v (.int .i64 n1))) (x2:=some (.v (.int .i64 n1))) (λsv h=>h)
       rw[h3,h4]at this;exact this
      ·exact λh=>ZlM (λn S' _=>h _)
    ·exact LC.false
   | _=>
    simp only[opW]
    exact fL _ _ ⟨dst,_,type,pos,after,guard⟩
 | _=>
  simp only[opW]
  exact fL _ _ ⟨dst,_,type,pos,after,guard⟩
theorem Zwz{E:Env}(w:World)(hE:E.fix=none){f:List Value->Mem->Value->Mem->List (List Value)->Prop}(hs:Less S1 S2)(jf:∀id x,S1.L id=some x->id∈rs)(hL:∀id∈rs,S1.L id=S2.L id)
  (cF:∀k,tk=some k->S1.tok k=S2.tok k) (hm:m.le M) {ops:Array Oper} {o:Oper} (iL:Ztf E rs tk o=true):
  LC (λK:St×Mem->Prop=>opG (E.fixed f) ops o S1 m λS' m'=>K (S',m')) (λK:St×Mem->Prop=>opG E ops o S2 M λS' m'=>K (S',m')) (Out (Zn7 rs o) tk (ZdP o) m M o.dst S1 S2):=by
 have h1:=Zwy w hE (f:=f) hs jf hL cF hm iL
 have h0:LC (λK:St×Mem->Prop=>K (S1.put o.dst (some (.v undef)),m)) (λK:St×Mem->Prop=>K (S2.put o.dst (some (.v undef)),M)) (Out (Zn7 rs o) tk (ZdP o) m M o.dst S1 S2):=LC.ret (Out.put0 hm _ (λsv h=>h))
 unfold opG
 cases hg:o.guard with
 | none=>exact h1
 | some jw=>
  obtain⟨j,want⟩:=jw
  simp only
  cases ops.toList[j]? with
  | none=>exact LC.false
  | some oj=>
   simp only
   cases oj.dst with
   | none=>exact LC.false
   | some t=>
    simp only
    cases he:S1.env t with
    | none=>exact LC.false
    | some sv=>
     simp only[hs.env t sv he]
     cases sv with
     | loc id off=>exact LC.false
     | sl id n c=>exact LC.false
     | v u=>
      simp only
      cases ZdO u with
      | true=>exact h0
      | false=>
       refine LC.chk λ_=>?_
       cases want
       ·exact LC.br h0 h1
       ·exact LC.br h1 h0
end
def mem(l:List Nat)(i:Nat):Bool:=l.any (Nat.beq i ·)
theorem ZaQ{l:List Nat}{i:Nat}:mem l i=true↔i∈l:=Zfk
def Zr1(t:Option Nat)(k:Nat):Bool:=match t with
 | some q=>Nat.beq k q
 | none=>false
theorem Zcu{t:Option Nat}{k:Nat}:Zr1 t k=true↔t=some k:=by
 cases t with
 | none=>simp[Zr1]
 | some q=>
  simp only[Zr1,Option.some.injEq]
  exact⟨λh=>(Nat.eq_of_beq_eq_true h).symm,λh=>by subst h;exact Nat.beq_refl _⟩
def ZfN(o:Oper)(t:Nat):Bool:=Zr1 o.dst t
def ZpU(ops:Array Oper)(d:DOp)(o:Oper)(S:St):St:=
 {env:=λt=>bif mem (o.looksAt ops) t then S.env t else none
  L:=λid=>bif mem d.rs id then S.L id else none
  ids:=S.ids
  tok:=λk=>bif Zr1 d.tk k then S.tok k else none
  tkeys:=S.tkeys
  gh:=S.gh
  fo:=S.fo }
def Zn8(d:DOp)(o:Oper)(S S':St):St:=
 {env:=λt=>bif ZfN o t then S'.env t else S.env t
  L:=λid=>bif mem d.ws id then S'.L id else S.L id
  ids:=S.ids
  tok:=λk=>bif Zr1 d.tk k then S'.tok k else S.tok k
  tkeys:=S.tkeys
  gh:=S.gh
  fo:=S.fo }
def upd(μ:Nat->Mem)(i:Nat)(m:Mem):Nat->Mem:=λj=>bif Nat.beq j i then m else μ j
def Zpv(μ:Nat->Mem)(M:Mem):List Nat->Prop->Prop
 | [],p=>p
 | j::l,p=>(μ j).le M->Zpv μ M l p
def ZqS(μ:Nat->Mem)(m0:Mem):List Nat->(Mem->Prop)->Prop
 | [],k=>k m0
 | [j],k=>k (μ j)
 | l,k=>∀V:Mem,m0.le V->Zpv μ V l (k V)
abbrev Fx:=Nat->List Value->Mem->Value->Mem->List (List Value)->Prop
def Zs1(E:Env)(ops:Array Oper)(m0:Mem)(f:Fx)(d:DOp)(S:St)(μ:Nat->Mem)(K:St->Mem->Prop):Prop:=match ops.toList[d.i]? with
 | none=>False
 | some o=>ZqS μ m0 d.vw λV=>opG (E.fixed (f d.i)) ops o (ZpU ops d o S) V K
def ZpV(ops:Array Oper)(d:DOp)(S S':St):St:=match ops.toList[d.i]? with
 | none=>S
 | some o=>Zn8 d o S S'
def ZkI(E:Env)(ops:Array Oper)(m0:Mem)(f:Fx)(d:DOp)(S:St)(μ:Nat->Mem)(K:St->(Nat->Mem)->Prop):Prop:=
 Zs1 E ops m0 f d S μ λS' m'=>K (ZpV ops d S S') (upd μ d.i m')
def Zi0(E:Env)(ops:Array Oper)(m0:Mem)(f:Fx):List DOp->(St->(Nat->Mem)->Prop)->St->(Nat->Mem)->Prop
 | [],K,S,μ=>K S μ
 | d::r,K,S,μ=>ZkI E ops m0 f d S μ (Zi0 E ops m0 f r K)
def Zwj(ops:Array Oper)(d:DOp):Option Nat:=match ops.toList[d.i]? with
 | none=>none
 | some o=>Zep ops o
def Zi1(E:Env)(ops:Array Oper)(m0:Mem)(f:Fx):List DOp->(St->(Nat->Mem)->Prop)->St->(Nat->Mem)->Prop
 | [],K,S,μ=>K S μ
 | d::r,K,S,μ=>match Zwj ops d with
  | none=>ZkI E ops m0 f d S μ (Zi1 E ops m0 f r K)
  | some t=>match S.env t with
   | some (.v v)=>bif ZdO v then ZkI E ops m0 f d S μ (Zi1 E ops m0 f r K)else chk (Zhm v) (br (Zc3 v) (ZkI E ops m0 f d (S.put (some t) (some (.v (.bool true)))) μ (Zi1 E ops m0 f r K)) (ZkI E ops m0 f d (S.put (some t) (some (.v (.bool false)))) μ (Zi1 E ops m0 f r K)))
   | _=>False
def Zwk(m0:Mem)(μ:Nat->Mem):List Nat->(Mem->Prop)->Prop
 | [],k=>k m0
 | l,k=>∀M:Mem,m0.le M->Zpv μ M l (k M)
def Zi2(ops:Array Oper):List DOp->List Nat
 | []=>[]
 | d::r=>match ops.toList[d.i]? with
  | none=>Zi2 ops r
  | some o=>bif ZdP o then d.i::Zi2 ops r else Zi2 ops r
def Zvf:List DOp->List Nat
 | []=>[]
 | d::r=>d.ws++Zvf r
def ZuL:List DOp->List Nat
 | []=>[]
 | d::r=>match d.tk with
  | none=>ZuL r
  | some k=>k::ZuL r
def ZkJ(ds:List DOp)(S:St):St:={ S with ids:=Zvf ds++S.ids,tkeys:=ZuL ds++S.tkeys }
def ZxC(a b:List Nat):Bool:=a.all λi=>!mem b i
def Zxp(a b:List Nat):Bool:=a.all λi=>mem b i
def Zn9(o:Oper)(l:List Nat):Bool:=match o.dst with
 | none=>true
 | some t=>!mem l t
def Zwl(a b:Oper):Bool:=match a.dst with
 | none=>true
 | some t=>!ZfN b t
def ZxV(a b:Option Nat):Bool:=match a with
 | none=>true
 | some k=>!Zr1 b k
def ZqT(ops:Array Oper)(c d:DOp):Bool:=match ops.toList[c.i]?,ops.toList[d.i]? with
 | some oc,some od=>(Zn9 oc (od.looksAt ops)&&Zn9 od (oc.looksAt ops)&&Zwl oc od)&&(ZxC c.ws d.rs&&ZxC d.ws c.rs&&ZxV c.tk d.tk)&&(!mem d.vw c.i&&!mem c.vw d.i&&!Nat.beq c.i d.i)
 | _,_=>false
def Zb9(o:Oper):List Nat:=(o.after.toList.filter (Region.binds .any ·)).map (·.on)
def ZwY:List DOp->Nat->List Nat
 | [],_=>[]
 | d::r,i=>bif Nat.beq d.i i then d.an else ZwY r i
def Zwm(E:Env)(ops:Array Oper)(d:DOp)(before:List DOp):Bool:=match ops.toList[d.i]? with
 | none=>false
 | some o=>(Ztf E d.rs d.tk o&&Zxp (Zn7 d.rs o) d.ws&&Zxp d.ws d.rs)&&(Zxp d.vw d.an&&Zxp (Zb9 o) (before.map (·.i))) &&
   (d.an.all λj=>mem (Zb9 o) j||(Zb9 o).any λp=>mem (ZwY before p) j)&&(before.all λc=>mem d.an c.i||ZqT ops c d)&&(before.all λc=>!Nat.beq c.i d.i)
def Zi8(E:Env)(ops:Array Oper):List DOp->List DOp->Bool
 | [],_=>true
 | d::r,before=>Zwm E ops d before&&Zi8 E ops r (d::before)
def Zvg(E:Env)(ops:Array Oper)(ds:List DOp)(n:Nat):Bool:=(List.range n).all (λi=>ds.any λd=>Nat.beq d.i i)&&Nat.ble ds.length ops.size&&Zi8 E ops ds []&&E.fix.isNone
def Ztg:List Oper->Bool
 | []=>false
 | o::l=>(match o.op with
  | .call c=>(match c.callee with
   | .value _=>true
   | _=>false)
  | _=>false)||Ztg l
def Zya:Fx:=λ_ _ _ _ _ _=>True
def exF(b:Bool)(p:Fx->Prop):Prop:=match b with
 | true=>∃f,p f
 | false=>p Zya
theorem ZtQ{b:Bool}{p:Fx->Prop}(h:exF b p):∃f,p f:=by
 cases b
 ·exact⟨_,h⟩
 ·exact h
theorem ZtR{b:Bool}{p q:Fx->Prop}(h:∀f,p f->q f)(x:exF b p):exF b q:=by
 cases b
 ·exact h _ x
 ·obtain⟨f,x⟩:=x;exact⟨f,h f x⟩
def Zvh(ops:Array Oper)(ds:List DOp)(k:Nat):Bool:=(Nat.ble k ops.size&&(List.range k).all λj=>match ops.toList[ops.size - k+j]? with
 | none=>false
 | some o=>(List.range j).all (λi=>mem (Zb9 o) (ops.size - k+i))&&((Zb9 o).all (λi=>Nat.ble (i+1) (ops.size - k+j))&&(bif Nat.beq j 0 then(List.range (ops.size - k)).all (λi=>mem (Zb9 o) i||(Zb9 o).any λp=>mem (ZwY ds p) i)else true)))&&ds.all λd=>Nat.ble (d.i+1) (ops.size - k)
def Zi3(E:Env)(ops:Array Oper)(K:St->Mem->Prop):List Oper->St->Mem->Prop
 | [],S,m=>K S m
 | o::r,S,m=>Zu1 E ops o S m (Zi3 E ops K r)
def Zr2(E:Env)(ops:Array Oper)(k:Nat)(K:St->Mem->Prop)(S:St)(m:Mem):Prop:=Zi3 E ops K (ops.toList.drop (ops.size - k)) S m
def ZuM(E:Env)(S:St)(ids:List Nat)(T:TypeId)(x:Operand)(k:Value->Prop):Prop:=match E.tt T with
 | none=>False
 | some i=>match S.ev x with
  | some (.loc id off)=>match S.L id with
   | none=>False
   | some bx=>chk (!mem ids id) (ZcG i bx off k)
  | some (.v v)=>match E.m0 with
   | none=>False
   | some m0=>chk (ZiY v&&(Ze0 E x).isNone) (Zc5 i m0 (ZqC v) (ZqD v) k)
  | _=>False
def Zr3{α:Type}:List α->Bool
 | []=>true
 | _=>false
def ZwZ:Operand->Bool
 | .func _=>true
 | _=>false
def ZpW(chg:List Nat):SV->Bool
 | .v _=>true
 | .loc id _=>!mem chg id
 | .sl id _ _=>!mem chg id
def Zr4(S:St)(chg:List Nat)(x:Operand)(k:SV->Prop):Prop:=match S.ev x with
 | some sv=>chk (ZpW chg sv) (k sv)
 | none=>False
def Zth(E:Env)(S:St)(chg:List Nat)(o:Oper)(k:SV->Prop):Prop:=match o.op with
 | .load T x=>chk (ZrC E o.dst).isNone (ZuM E S chg T x λv=>k (.v v))
 | .move x=>Zr4 S chg x k
 | .assign x=>Zr4 S chg x k
 | .nilCheck x=>match S.ev x with
  | some (.loc id off)=>chk (!mem chg id) (k (.loc id off))
  | some (.v v)=>chk (ZiY v) (k (.v v))
  | _=>False
 | .fieldAddr T x f=>match ZeY E T f with
  | none=>False
  | some fo=>match S.ev x with
   | some (.loc id off)=>chk (!mem chg id) (k (.loc id (off+fo)))
   | some (.v v)=>chk (ZiY v) (k (.v (ptr (ZqC v) (ZqD v+fo))))
   | _=>False
 | .indexAddr T x i=>match S.ev i,Zwd E T,S.ev x with
  | some (.v vi),some (.sl esz),some (.v v)=>chk (ZbN vi&&ZbM v) (∃b o,slA v=some ⟨b,o,none⟩/\Zai (intOf vi) (slN v)/\k (.v (ptr b (o+(intOf vi).toNat*esz))))
  | _,_,_=>False
 | _=>False
def Zr5(E:Env)(ops:Array Oper)(chg:List Nat):List Nat->(St->Prop)->St->Prop
 | [],k,S=>k S
 | i::r,k,S=>match ops.toList[i]? with
  | none=>False
  | some o=>Zth E S chg o λsv=>Zr5 E ops chg r k (S.put o.dst (some sv))
def Zd8(ops:Array Oper):List Nat->List Oper
 | []=>[]
 | i::r=>match ops.toList[i]? with
  | none=>[]
  | some o=>o::Zd8 ops r
def ZxD(ops:Array Oper)(l:List Nat):List Nat:=(List.range ops.size).reverse.foldl (λacc i=>bif mem acc i then(match ops.toList[i]? with
 | some o=>Zb9 o++acc
 | none=>acc)else acc) l
def Zpw(o:Oper):Bool:=match o.op with
 | .select _ _=>false
 | .defer _=>false
 | _=>true
def Zds(ops:Array Oper)(i:Nat):List Nat:=match ops.toList[i]? with
 | none=>[]
 | some o=>Zb9 o
def ZxE(E:Env)(ops:Array Oper)(i:Nat):Bool:=match ops.toList[i]? with
 | none=>false
 | some o=>match o.op with
  | .buildSlice _ _ _=>(ZcQ E o.dst).isNone
  | .call q=>(match q.callee with
   | .builtin .len=>true
   | .builtin .append=>Zr3 (ZdM E o.dst)
   | _=>false)
  | _=>false
def ZlU(E:Env)(ops:Array Oper)(i:Nat):Bool:=match ops.toList[i]? with
 | none=>false
 | some o=>match o.op with
  | .call q=>(match q.callee with
   | .value f=>ZwZ f&&((ZdN E o.dst).isSome&&(Zr3 (ZdM E o.dst)&&!ZqG E o.dst))
   | _=>false)
  | _=>false
def Zvi(E:Env)(ops:Array Oper)(H:List Nat):List Nat->Bool
 | p::t::r=>mem (Zds ops t) p&&((ZxE E ops t||H.all (mem (ZxD ops (Zds ops t))))&&Zvi E ops H (t::r))
 | _=>true
def ZjW(ops:Array Oper):List Nat->List Nat->Bool
 | _,[]=>true
 | prev,i::r=>(match ops.toList[i]? with
  | none=>false
  | some o=>o.dst.isSome&&(o.looksAt ops).all λt=>!mem (ZaC ops.toList) t||prev.any λj=>mem (Zb9 o) j&&(match ops.toList[j]? with
   | some oj=>ZfN oj t
   | none=>false))&&ZjW ops (i::prev) r
def Zw0(E:Env)(ops:Array Oper)(H T:List Nat):Bool:=
 (Zbj (H++T)&&((List.range ops.size).all (mem (H++T))&&((H++T).all (Nat.blt · ops.size))))&&(Zbj (ZaC ops.toList)&&ops.toList.all λo=>o.guard.isNone&&Zpw o) &&
  ((List.range ops.size).all λi=>(Zds ops i).all (Nat.blt · i))&&(ZjW ops [] H&&(T.all λi=>match ops.toList[i]? with
   | none=>false
   | some o=>H.all λj=>match ops.toList[j]? with
    | none=>false
    | some oj=>Zn9 oj (o.looksAt ops)||mem (Zb9 o) j))&&(Zvi E ops H T&&(match T with
   | []=>false
   | c::_=>ZlU E ops c))
def Zw1(E:Env)(ops:Array Oper)(T:List Nat):List Nat:=(match Zd8 ops T with
 | []=>[]
 | o::_=>Zc6 E o.dst)++ZaC (Zd8 ops T)
def Zw2(E:Env)(id:Nat)(H T:List Nat)(ops:Array Oper)(K:St->Mem->Prop)(S:St)(m:Mem):Prop:=
 chk (E.last id&&(E.thaw&&Zw0 E ops H T)) (Zr5 E ops (Zw1 E ops T) H (λS1=>match Zd8 ops T with
  | []=>False
  | o::r=>match o.op with
   | .call q=>chk (Zr3 (Zd0 S1 q.args.toList)) (Zu1 E ops o S1 m (Zi3 E ops K r))
   | _=>False) S)
def ZkK(E:Env)(id:Nat)(ops:Array Oper)(K:St->Mem->Prop)(S:St)(m:Mem):Prop:=
 match E.mix id with
 | some (H,T)=>Zw2 E id H T ops K S m
 | none=>chk (Zvg E ops (E.dr id) (bif E.last id then ops.size - E.lastK id else ops.size)&&(bif E.last id then Zvh ops (E.dr id) (E.lastK id)else true)) (exF (Ztg ops.toList) λf=>bif E.gb then Zi1 E ops m f (E.dr id) (λS' μ=>Zwk m μ (Zi2 ops (E.dr id)) λM=>bif E.last id then Zr2 E ops (E.lastK id) K S' M else K S' M) (ZkJ (E.dr id) S) (λ_=>m)else Zi0 E ops m f (E.dr id) (λS' μ=>Zwk m μ (Zi2 ops (E.dr id)) λM=>bif E.last id then Zr2 E ops (E.lastK id) K S' M else K S' M) (ZkJ (E.dr id) S) (λ_=>m))
def Zxq(S:St)(y:Option SV):Option SV:=match y with
 | some (.loc i off)=>(match S.L i with
  | some x=>some (.v (.pointer (some ⟨x.b,off,none⟩)))
  | none=>none)
 | y=>y
def ptrS(S:St)(ts:List Nat):St:={ S with env:=λt=>bif mem ts t then Zxq S (S.env t)else S.env t }
def Zi9(S S':St):List Nat->Prop->Prop
 | [],p=>p
 | t::l,p=>match S.env t with
  | some (.loc i _)=>S'.L i=S.L i/\Zi9 S S' l p
  | some (.v _)=>Zi9 S S' l p
  | _=>False
def Zvj(S S':St)(ts:List Nat):St:={ S' with env:=λt=>bif mem ts t then S.env t else S'.env t }
def Zw3(ts ds:List Nat)(f:(St->Mem->Prop)->St->Mem->Prop)(K:St->Mem->Prop)(S:St)(m:Mem):Prop:=match ts with
 | []=>f K S m
 | _::_=>chk (ZxC ts ds) (f (λS' m'=>Zi9 S S' ts (K (Zvj S S' ts) m')) (ptrS S ts) m)
def Zbh(E:Env)(id:Nat)(ops:Array Oper)(K:St->Mem->Prop)(S:St)(m:Mem):Prop:=ZuD E (some (1000000+id)) S m λS m=>Zu2 E (bif E.last id then E.acq id else none) (Zw3 (E.ptrAt id) (ZaC ops.toList) (ZkK E id ops)) K S m
theorem ZiN{μ:Nat->Mem}{M:Mem}{p q:Prop}(h:p->q):∀{l:List Nat},Zpv μ M l p->Zpv μ M l q
 | [],x=>h x
 | j::l,x=>λy=>ZiN h (x y)
theorem ZiO{μ:Nat->Mem}{M:Mem}{p:Prop}:∀{l:List Nat},Zpv μ M l p->(∀j∈l,(μ j).le M)->p
 | [],x,_=>x
 | j::l,x,h=>ZiO (x (h j (by simp))) (λi hi=>h i (by simp[hi]))
theorem ZpX{μ:Nat->Mem}{m0:Mem}{k k':Mem->Prop}(h:∀V,k V->k' V):∀{l:List Nat},ZqS μ m0 l k->ZqS μ m0 l k'
 | [],x=>h _ x
 | [j],x=>h _ x
 | i::j::l,x=>λV hV=>ZiN (h V) (x V hV)
theorem ZpY{μ:Nat->Mem}{m0 A:Mem}{l:List Nat}(h0:m0.le A)(hl:∀j∈l,(μ j).le A):∃V:Mem,V.le A/\∀k:Mem->Prop,ZqS μ m0 l k->k V:=by
 match l with
 | []=>exact⟨m0,h0,λk x=>x⟩
 | [j]=>exact⟨μ j,hl j (by simp),λk x=>x⟩
 | i::j::l=>exact⟨A,Mem.le_refl A,λk x=>ZiO (x A h0) hl⟩
theorem Zr6{μ:Nat->Mem}{m0:Mem}{i:Nat}{m:Mem}{l:List Nat}(h:i ∉ l)(k:Mem->Prop):ZqS (upd μ i m) m0 l k=ZqS μ m0 l k:=by
 have one:∀{j},j∈l->upd μ i m j=μ j:=λ{j} hj=>by
  have:j≠i:=λe=>h (e ▸ hj)
  simp[upd,Zam this]
 have all:∀{l':List Nat},(∀j∈l',j∈l)->∀(M:Mem)(p:Prop),Zpv (upd μ i m) M l' p=Zpv μ M l' p:=by
  intro l'
  induction l' with
  | nil=>intro _ M p;rfl
  | cons j l' ih=>
   intro hs M p
   simp only[Zpv]
   rw[one (hs j (by simp)),ih (λx hx=>hs x (by simp[hx]))]
 match l with
 | []=>rfl
 | [j]=>simp only[ZqS];rw[one (by simp)]
 | a::b::l=>
  simp only[ZqS]
  exact propext ⟨λx V hV=>by have:=x V hV;rwa [all (λj hj=>hj)]at this,λx V hV=>by rw[all (λj hj=>hj)];exact x V hV⟩
theorem Zr7{m0:Mem}{μ:Nat->Mem}{l:List Nat}{k:Mem->Prop}{A:Mem}(h:Zwk m0 μ l k)(h0:m0.le A)(he:l=[]->A=m0)(hl:∀j∈l,(μ j).le A):k A:=by
 match l with
 | []=>rw[he rfl];exact h
 | i::l=>exact ZiO (h A h0) hl
theorem Zoa{m0:Mem}{μ:Nat->Mem}{l:List Nat}{k k':Mem->Prop}(h:∀M:Mem,m0.le M->k M->k' M)(x:Zwk m0 μ l k):Zwk m0 μ l k':=by
 match l with
 | []=>exact h _ (Mem.le_refl _) x
 | i::l=>exact λM hM=>ZiN (h M hM) (x M hM)
theorem Zeu{E:Env}{ops:Array Oper}{m0:Mem}{f:Fx}{d:DOp}{S:St}{μ:Nat->Mem}{K K':St->Mem->Prop}(h:∀S' m',K S' m'->K' S' m')(hx:Zs1 E ops m0 f d S μ K):Zs1 E ops m0 f d S μ K':=by
 unfold Zs1 at *
 split at hx
 ·exact hx.elim
 ·exact ZpX (λV y=>ZdB (th:=true) (.inl rfl) (λS' m' _ _=>h S' m') y) hx
theorem ZlV{E:Env}{ops:Array Oper}{m0:Mem}{f:Fx}:∀{r:List DOp} {K K':St->(Nat->Mem)->Prop} {S:St} {μ:Nat->Mem},(∀S' μ',SameOut (ZaC ops.toList) S S'->K S' μ'->K' S' μ')->Zi0 E ops m0 f r K S μ->Zi0 E ops m0 f r K' S μ
 | [],K,K',S,μ,h,hx=>h _ _ (SameOut.refl _ S) hx
 | d::r,K,K',S,μ,h,hx=>by
  refine Zeu (λS' m' y=>ZlV (λS'' μ'' hs y=>h _ _ (SameOut.trans ?_ hs) y) y) hx
  intro t ht
  unfold ZpV
  cases ho:ops.toList[d.i]? with
  | none=>rfl
  | some o=>
   have:ZfN o t=false:=by
    cases hd:ZfN o t with
    | false=>rfl
    | true=>exact absurd (ZaP ho (Zcu.1 hd)) ht
   simp[Zn8,this]
theorem Zr8{ops:Array Oper}{d:DOp}{S S':St}:SameOut (ZaC ops.toList) S (ZpV ops d S S'):=by
 intro t ht
 unfold ZpV
 cases ho:ops.toList[d.i]? with
 | none=>rfl
 | some o=>
  have:ZfN o t=false:=by
   cases hd:ZfN o t with
   | false=>rfl
   | true=>exact absurd (ZaP ho (Zcu.1 hd)) ht
  simp[Zn8,this]
theorem Zr9{ops:Array Oper}{d:DOp}{t:Nat}(h:Zwj ops d=some t):t∈ZaC ops.toList:=by
 unfold Zwj Zep at h
 split at h
 ·cases h
 ·split at h
  ·cases h
  ·split at h
   ·cases h
   ·rename_i oj hj
    exact ZaP hj h
theorem ZlW{E:Env}{ops:Array Oper}{m0:Mem}{f:Fx}:∀{r:List DOp} {K K':St->(Nat->Mem)->Prop} {S:St} {μ:Nat->Mem},(∀S' μ',SameOut (ZaC ops.toList) S S'->K S' μ'->K' S' μ')->Zi1 E ops m0 f r K S μ->Zi1 E ops m0 f r K' S μ
 | [],K,K',S,μ,h,hx=>h _ _ (SameOut.refl _ S) hx
 | d::r,K,K',S,μ,h,hx=>by
  have step:∀{S1:St},SameOut (ZaC ops.toList) S S1->ZkI E ops m0 f d S1 μ (Zi1 E ops m0 f r K)->ZkI E ops m0 f d S1 μ (Zi1 E ops m0 f r K'):=λhs y=>
   Zeu (λS' m' y=>ZlW (λS'' μ'' jj y=>h _ _ (SameOut.trans (SameOut.trans hs Zr8) jj) y) y) y
  unfold Zi1 at hx ⊢
  split at hx
  ·exact step (SameOut.refl _ S) hx
  ·rename_i t ht
   have iM:∀x,SameOut (ZaC ops.toList) S (S.put (some t) x):=λx=>(SameOut.refl _ S).put (λt' e=>by cases e;exact Zr9 ht) x
   split at hx
   ·rename_i v hv
    cases hu:ZdO v with
    | true=>simp only[hu,cond_true]at hx ⊢;exact step (SameOut.refl _ S) hx
    | false=>
     simp only[hu,cond_false]at hx ⊢
     refine Zah (λy=>?_) hx
     cases hb:Zc3 v with
     | true=>rw[hb]at y;exact step (iM _) y
     | false=>rw[hb]at y;exact step (iM _) y
   ·exact hx.elim
theorem ZqU{S:St}{t:Nat}{x:SV}(h:S.env t=some x):S.put (some t) (some x)=S:=by
 cases S with
 | mk env L ids tok tkeys gh=>
  simp only[St.put]
  congr 1
  funext i
  by_cases e:i=t
  ·subst e;simp at h ⊢;exact h.symm
  ·simp[Zam e]
theorem ZjX{E:Env}{ops:Array Oper}{m0:Mem}{f:Fx}:∀{r:List DOp} {K:St->(Nat->Mem)->Prop} {S:St} {μ:Nat->Mem},Zi1 E ops m0 f r K S μ->Zi0 E ops m0 f r K S μ
 | [],K,S,μ,hx=>hx
 | d::r,K,S,μ,hx=>by
  have step:∀{S1:St},ZkI E ops m0 f d S1 μ (Zi1 E ops m0 f r K)->ZkI E ops m0 f d S1 μ (Zi0 E ops m0 f r K):=λy=>Zeu (λS' m' y=>ZjX y) y
  unfold Zi1 at hx
  show ZkI E ops m0 f d S μ (Zi0 E ops m0 f r K)
  split at hx
  ·exact step hx
  ·split at hx
   ·rename_i v hv
    cases hu:ZdO v with
    | true=>simp only[hu,cond_true]at hx;exact step hx
    | false=>
     simp only[hu,cond_false]at hx
     obtain⟨h1,h2⟩:=Zaf hx
     have he:=ZbZ h1
     cases hb:Zc3 v with
     | true=>
      rw[hb]at he h2
      subst he
      have h3:ZkI E ops m0 f d (S.put (some _) (some (.v (.bool true)))) μ (Zi1 E ops m0 f r K):=h2
      rw[ZqU hv]at h3;exact step h3
     | false=>
      rw[hb]at he h2
      subst he
      have h3:ZkI E ops m0 f d (S.put (some _) (some (.v (.bool false)))) μ (Zi1 E ops m0 f r K):=h2
      rw[ZqU hv]at h3;exact step h3
   ·exact hx.elim
theorem ZlX{E:Env}{id:Nat}{ops:Array Oper}{K K':St->Mem->Prop}{S:St}{m:Mem}(h:∀S' m',SameOut (ZaC ops.toList) S S'->leD E id m m'->K S' m'->K' S' m'){S':St}{M:Mem}(hs:SameOut (ZaC ops.toList) S S')(hM:m.le M)(y:bif E.last id then Zr2 E ops (E.lastK id) K S' M else K S' M):bif E.last id then Zr2 E ops (E.lastK id) K' S' M else K' S' M:=by
 cases hl:E.last id with
 | false=>
  rw[hl]at y
  exact h _ _ hs (by unfold leD;rw[hl];exact hM) y
 | true=>
  rw[hl]at y
  simp only[cond_true]at y ⊢
  unfold Zr2 at y ⊢
  have key:∀(r:List Oper),(∀o∈r,o∈ops.toList)->∀(S':St)(M:Mem),SameOut (ZaC ops.toList) S S'->leT E.thaw m M->Zi3 E ops K r S' M->Zi3 E ops K' r S' M:=by
   intro r
   induction r with
   | nil=>exact λ_ S' M hs hM y=>h _ _ hs (by unfold leD;rw[hl];exact hM) y
   | cons o r ih=>
    intro hr S' M hs hM y
    simp only[Zi3]at y ⊢
    obtain⟨i,ho⟩:=List.getElem?_of_mem (hr o (by simp))
    exact ZhC (λt ht=>ZaP ho ht) (λS2 m2 jj bG y=>ih (λo ho=>hr o (by simp[ho])) _ _ (hs.trans jj) (leT.trans hM bG) y) y
  exact key _ (λo ho=>List.mem_of_mem_drop ho) _ _ hs (.of hM) y
theorem ZlY{E:Env}{ops:Array Oper}{K K':St->Mem->Prop}{S:St}{m:Mem}(h:∀S' m',SameOut (ZaC ops.toList) S S'->leT E.thaw m m'->K S' m'->K' S' m'):∀(r:List Oper),(∀o∈r,o∈ops.toList)->∀(S':St)(M:Mem),SameOut (ZaC ops.toList) S S'->leT E.thaw m M->Zi3 E ops K r S' M->Zi3 E ops K' r S' M
 | [],_,S',M,hs,hM,y=>h _ _ hs hM y
 | o::r,hr,S',M,hs,hM,y=>by
  simp only[Zi3]at y ⊢
  obtain⟨i,ho⟩:=List.getElem?_of_mem (hr o (by simp))
  exact ZhC (λt ht=>ZaP ho ht) (λS2 m2 jj bG y=>ZlY h r (λo ho=>hr o (by simp[ho])) _ _ (hs.trans jj) (leT.trans hM bG) y) y
theorem ZpZ{E:Env}{S:St}{ids:List Nat}{T:TypeId}{x:Operand}{k k':Value->Prop}(h:∀v,k v->k' v)(hx:ZuM E S ids T x k):ZuM E S ids T x k':=by
 unfold ZuM at *
 split at hx
 ·exact hx
 ·split at hx
  ·split at hx
   ·exact hx
   ·exact Zah (ZdE h) hx
  ·split at hx
   ·exact hx
   ·exact Zah (ZhB h) hx
  ·exact hx
theorem ZlZ{S:St}{chg:List Nat}{x:Operand}{k k':SV->Prop}(h:∀v,k v->k' v)(hx:Zr4 S chg x k):Zr4 S chg x k':=by
 unfold Zr4 at *
 split at hx
 ·exact Zah (h _) hx
 ·exact hx
theorem Zp0{E:Env}{S:St}{chg:List Nat}{o:Oper}{k k':SV->Prop}(h:∀v,k v->k' v)(hx:Zth E S chg o k):Zth E S chg o k':=by
 unfold Zth at *
 split at hx
 ·exact Zah (ZpZ λv=>h _) hx
 ·exact ZlZ h hx
 ·exact ZlZ h hx
 ·split at hx
  ·exact Zah (h _) hx
  ·exact Zah (h _) hx
  ·exact hx
 ·split at hx
  ·exact hx
  ·split at hx
   ·exact Zah (h _) hx
   ·exact Zah (h _) hx
   ·exact hx
 ·split at hx
  ·exact Zah (λ⟨b,o,h1,h2,h3⟩=>⟨b,o,h1,h2,h _ h3⟩) hx
  ·exact hx
 ·exact hx
theorem Zl0{E:Env}{ops:Array Oper}{chg:List Nat}:∀{l:List Nat} {S:St} {k k':St->Prop},(∀S',SameOut (ZaC ops.toList) S S'->k S'->k' S')->Zr5 E ops chg l k S->Zr5 E ops chg l k' S
 | [],S,k,k',h,hx=>h _ (SameOut.refl _ S) hx
 | i::l,S,k,k',h,hx=>by
  unfold Zr5 at *
  split at hx
  ·exact hx
  ·rename_i o ho
   exact Zp0 (λsv y=>Zl0 (λS' hs y=>h _ (SameOut.trans ((SameOut.refl _ S).put (λt e=>ZaP ho e) _) hs) y) y) hx
theorem Zob{ops:Array Oper}:∀{l:List Nat} {o:Oper},o∈Zd8 ops l->o∈ops.toList
 | [],o,h=>by simp[Zd8]at h
 | i::l,o,h=>by
  unfold Zd8 at h
  split at h
  ·simp at h
  ·rename_i o' ho
   rcases List.mem_cons.1 h with rfl|h
   ·exact List.mem_of_getElem? ho
   ·exact Zob h
theorem Zvk{E:Env}{id:Nat}{H T:List Nat}{ops:Array Oper}{K K':St->Mem->Prop}{S:St}{m:Mem}(h:∀S' m',SameOut (ZaC ops.toList) S S'->leD E id m m'->K S' m'->K' S' m')(hx:Zw2 E id H T ops K S m):Zw2 E id H T ops K' S m:=by
 unfold Zw2 at *
 obtain⟨h1,h2⟩:=Zaf hx
 refine Zab h1 ?_
 simp only[Bool.and_eq_true]at h1
 have gB:=h1.2.1
 refine Zl0 (λS1 hs y=>?_) h2
 have hm:∀o∈Zd8 ops T,o∈ops.toList:=λo ho=>Zob ho
 split at y
 ·exact y
 ·rename_i o r iO
  rw[iO]at hm
  split at y
  ·refine Zah (λy=>?_) y
   obtain⟨i,ho⟩:=List.getElem?_of_mem (hm o (by simp))
   exact ZhC (λt ht=>ZaP ho ht) (λS2 m2 jj bG y=>ZlY (S:=S) (m:=m) (λS3 m3 sC _ y=>h _ _ sC (by unfold leD;rw[h1.1,gB];trivial) y) r (λo' ho'=>hm o' (by simp[ho'])) _ _ (hs.trans jj) (by rw[gB];trivial) y) y
  ·exact y
theorem ZkL(E:Env):Ze3 E (ZkK E):=by
 intro id ops K K' S m h hx
 unfold ZkK at *
 cases hh:E.mix id with
 | some q=>obtain⟨H,T⟩:=q;simp only[hh]at hx ⊢;exact Zvk h hx
 | none=>
 simp only[hh]at hx ⊢
 refine Zah (λy=>?_) hx
 refine ZtR (λf y=>?_) y
 cases nh:E.gb with
 | false=>
  simp only[nh,cond_false]at y ⊢
  exact ZlV (λS' μ hs y=>Zoa (λM hM y=>ZlX h hs hM y) y) y
 | true=>
  simp only[nh,cond_true]at y ⊢
  exact ZlW (λS' μ hs y=>Zoa (λM hM y=>ZlX h hs hM y) y) y
theorem Zgp{S S':St}{p q:Prop}(h:p->q):∀{l:List Nat},Zi9 S S' l p->Zi9 S S' l q
 | [],x=>h x
 | t::l,x=>by
  unfold Zi9 at *
  split at x
  ·exact⟨x.1,Zgp h x.2⟩
  ·exact Zgp h x
  ·exact x
theorem Zgq{S S':St}{p:Prop}:∀{l:List Nat},Zi9 S S' l p->p/\∀t∈l,(∃i off,S.env t=some (.loc i off)/\S'.L i=S.L i)\/∃v,S.env t=some (.v v)
 | [],x=>⟨x,by simp⟩
 | t::l,x=>by
  unfold Zi9 at x
  split at x
  ·rename_i i off he
   obtain⟨h1,h2⟩:=Zgq x.2
   refine⟨h1,λt' ht=>?_⟩
   rcases List.mem_cons.1 ht with rfl|ht
   ·exact .inl ⟨i,off,he,x.1⟩
   ·exact h2 t' ht
  ·rename_i v he
   obtain⟨h1,h2⟩:=Zgq x
   refine⟨h1,λt' ht=>?_⟩
   rcases List.mem_cons.1 ht with rfl|ht
   ·exact .inr ⟨v,he⟩
   ·exact h2 t' ht
  ·exact x.elim
theorem Zsa{S S':St}{ts ds:List Nat}(h:SameOut ds (ptrS S ts) S'):SameOut ds S (Zvj S S' ts):=by
 intro t ht
 show(bif mem ts t then S.env t else S'.env t)=_
 cases hm:mem ts t with
 | true=>rfl
 | false=>
  rw[cond_false,h t ht]
  show(bif mem ts t then _ else S.env t)=_
  rw[hm];rfl
theorem ZqV{E:Env}{id:Nat}{ops:Array Oper}{ts:List Nat}{K K':St->Mem->Prop}{S:St}{m:Mem}(h:∀S' m',SameOut (ZaC ops.toList) S S'->leD E id m m'->K S' m'->K' S' m')
  (y:Zw3 ts (ZaC ops.toList) (ZkK E id ops) K S m):Zw3 ts (ZaC ops.toList) (ZkK E id ops) K' S m:=by
 unfold Zw3 at *
 split at y
 ·exact ZkL E id ops K K' S m h y
 ·exact Zah (λy=>ZkL E id ops _ _ _ m (λS' m' hs hl y=>Zgp (λy=>h _ m' (Zsa hs) hl y) y) y) y
theorem Zny(E:Env):Ze3 E (Zbh E):=by
 intro id ops K K' S m h hx
 refine Zkp (λS1 m1 he hm y=>?_) hx
 have up:∀{m'},leD E id m1 m'->leD E id m m':=λhl=>by
  unfold leD at hl ⊢
  cases hl':E.last id with
  | true=>rw[hl']at hl;exact leT.trans (.of hm) hl
  | false=>rw[hl']at hl;exact mLt hm hl
 cases hl:E.last id with
 | false=>
  simp only[hl,cond_false,Zu2]at y ⊢
  exact ZqV (λS' m' hs hl y=>h S' m' ((Zdo he).trans hs) (up hl) y) y
 | true=>
  simp only[hl,cond_true]at y ⊢
  unfold Zu2 at *
  split at y
  ·exact ZqV (λS' m' hs hl y=>h S' m' ((Zdo he).trans hs) (up hl) y) y
  ·obtain⟨y1,y2⟩:=Zaf y
   refine Zab y1 ?_
   simp only[Bool.and_eq_true]at y1
   split at y2
   ·exact y2
   ·obtain⟨z0,a,n,c,z1,z2,z3⟩:=y2
    refine⟨z0,a,n,c,z1,z2,ZqV (λS' m' hs _ z=>?_) z3⟩
    split at z
    ·exact z
    ·exact Zah (λz zs hz=>h _ _ ((Zdo he).trans (λt ht=>hs t ht)) (by unfold leD;rw[hl,y1.1];trivial) (z zs hz)) z
theorem St.ext'{a b:St}(h1:a.env=b.env)(h2:a.L=b.L)(h3:a.ids=b.ids)(h4:a.tok=b.tok)(h5:a.tkeys=b.tkeys)(h6:a.gh=b.gh)(h7:a.fo=b.fo):a=b:=by
 cases a;cases b;simp at *;exact⟨h1,h2,h3,h4,h5,h6,h7⟩
structure Ind (ops:Array Oper)(c d:DOp)(oc od:Oper):Prop where
 hc:ops.toList[c.i]?=some oc
 hd:ops.toList[d.i]?=some od
 cd:∀t,ZfN oc t=true->mem (od.looksAt ops) t=false
 dc:∀t,ZfN od t=true->mem (oc.looksAt ops) t=false
 ne:∀t,ZfN oc t=true->ZfN od t=false
 lcd:∀id,mem c.ws id=true->mem d.rs id=false
 ldc:∀id,mem d.ws id=true->mem c.rs id=false
 tk:∀k,Zr1 c.tk k=true->Zr1 d.tk k=false
 vcd:c.i ∉ d.vw
 vdc:d.i ∉ c.vw
 i:c.i≠d.i
theorem Zoc{a b:List Nat}(h:ZxC a b=true):∀i,mem a i=true->mem b i=false:=λi hi=>by
 have:=List.all_eq_true.1 h i (ZaQ.1 hi)
 simpa using this
theorem ZhG{a b:List Nat}(h:Zxp a b=true):∀i,i∈a->i∈b:=λi hi=>ZaQ.1 (List.all_eq_true.1 h i hi)
theorem ZjY{o:Oper}{l:List Nat}(h:Zn9 o l=true):∀t,ZfN o t=true->mem l t=false:=λt ht=>by
 have:=Zcu.1 ht
 simpa[Zn9,this]using h
theorem Zp1{a b:Oper}(h:Zwl a b=true):∀t,ZfN a t=true->ZfN b t=false:=λt ht=>by
 have:=Zcu.1 ht
 simpa[Zwl,this]using h
theorem Zsb{a b:Option Nat}(h:ZxV a b=true):∀t,Zr1 a t=true->Zr1 b t=false:=λt ht=>by
 have:=Zcu.1 ht
 simpa[ZxV,this]using h
theorem Zl1{ops:Array Oper}{c d:DOp}(h:ZqT ops c d=true):∃oc od,Ind ops c d oc od:=by
 unfold ZqT at h
 split at h
 ·rename_i oc od hc hd
  simp only[Bool.and_eq_true,Bool.not_eq_true']at h
  obtain⟨⟨⟨⟨h1,h2⟩,h3⟩,⟨h4,h5⟩,h6⟩,⟨h7,h8⟩,h9⟩:=h
  refine⟨oc,od,hc,hd,ZjY h1,ZjY h2,Zp1 h3,Zoc h4,Zoc h5,Zsb h6,?_,?_,?_⟩
  ·intro hm;rw[ZaQ.2 hm]at h7;cases h7
  ·intro hm;rw[ZaQ.2 hm]at h8;cases h8
  ·intro e;rw[e,ZeW]at h9;cases h9
 ·cases h
theorem Ind.symm'{ops:Array Oper}{c d:DOp}{oc od:Oper}(h:Ind ops c d oc od):Ind ops d c od oc:=by
 refine⟨h.hd,h.hc,h.dc,h.cd,?_,h.ldc,h.lcd,?_,h.vdc,h.vcd,h.i.symm⟩
 ·intro t ht
  cases hh:ZfN oc t with
  | false=>rfl
  | true=>rw[h.ne t hh]at ht;cases ht
 ·intro k hk
  cases hh:Zr1 c.tk k with
  | false=>rfl
  | true=>rw[h.tk k hh]at hk;cases hk
section
variable {E:Env} {ops:Array Oper} {m0:Mem} {f:Fx} {c d:DOp} {oc od:Oper}
theorem ZtS(h:Ind ops c d oc od)(S S':St):ZpU ops d od (Zn8 c oc S S')=ZpU ops d od S:=by
 refine St.ext' (funext λt=>?_) (funext λid=>?_) rfl (funext λk=>?_) rfl rfl rfl
 ·simp only[ZpU,Zn8]
  cases ht:ZfN oc t with
  | true=>simp[h.cd t ht]
  | false=>simp
 ·simp only[ZpU,Zn8]
  cases ht:mem c.ws id with
  | true=>simp[h.lcd id ht]
  | false=>simp
 ·simp only[ZpU,Zn8]
  cases ht:Zr1 c.tk k with
  | true=>simp[h.tk k ht]
  | false=>simp
theorem ZtT(h:Ind ops c d oc od)(hw:∀id,id∈d.ws->id∈d.rs)(S Sc Sd:St):Zn8 c oc (Zn8 d od S Sd) Sc=Zn8 d od (Zn8 c oc S Sc) Sd:=by
 refine St.ext' (funext λt=>?_) (funext λid=>?_) rfl (funext λk=>?_) rfl rfl rfl
 ·simp only[Zn8]
  cases ht:ZfN oc t with
  | true=>simp[h.ne t ht]
  | false=>simp
 ·simp only[Zn8]
  cases ht:mem c.ws id with
  | true=>
   have:mem d.ws id=false:=by
    cases hh:mem d.ws id with
    | false=>rfl
    | true=>
     have h1:=h.lcd id ht
     rw[ZaQ.2 (hw id (ZaQ.1 hh))]at h1;cases h1
   simp[this]
  | false=>simp
 ·simp only[Zn8]
  cases ht:Zr1 c.tk k with
  | true=>simp[h.tk k ht]
  | false=>simp
theorem ZtU{μ:Nat->Mem}{i j:Nat}(h:i≠j)(a b:Mem):upd (upd μ i a) j b=upd (upd μ j b) i a:=by
 funext k
 simp only[upd]
 by_cases hk:k=j
 ·subst hk;simp[Zam (Ne.symm h)]
 ·simp[Zam hk]
theorem ZiP(h:Ind ops c d oc od)(S S':St)(μ:Nat->Mem)(m':Mem)(K:St->Mem->Prop):Zs1 E ops m0 f d (ZpV ops c S S') (upd μ c.i m') K=Zs1 E ops m0 f d S μ K:=by
 unfold Zs1 ZpV
 simp only[h.hd,h.hc,ZtS h,Zr6 h.vcd]
theorem Zod(S:St)(μ:Nat->Mem)(K:St->(Nat->Mem)->Prop):ZkI E ops m0 f d S μ K=Zs1 E ops m0 f d S μ λS' m'=>K (ZpV ops d S S') (upd μ d.i m'):=rfl
def Zx2(E:Env)(ops:Array Oper)(m0:Mem)(f:Fx)(d:DOp)(S:St)(μ:Nat->Mem)(S':St)(m':Mem):Prop:=∀K:St->Mem->Prop,Zs1 E ops m0 f d S μ K->K S' m'
theorem ZqW{K:St->(Nat->Mem)->Prop}{S':St}{m':Mem}(hw:∀id,id∈d.ws->id∈d.rs):∀{r1 r2:List DOp} {S:St} {μ:Nat->Mem},(∀c∈r1,ZqT ops c d=true)->Zi0 E ops m0 f (r1++d::r2) K S μ->Zx2 E ops m0 f d S μ S' m'->
  Zi0 E ops m0 f (r1++r2) K (ZpV ops d S S') (upd μ d.i m')
 | [],r2,S,μ,_,h,ho=>ho _ h
 | c::r1,r2,S,μ,hi,h,ho=>by
  obtain⟨oc,od,gv⟩:=Zl1 (hi c (by simp))
  simp only[List.cons_append,Zi0,Zod]at h ⊢
  rw[ZiP gv.symm']
  refine Zeu (λSc mc y=>?_) h
  have ih:=ZqW (S':=S') (m':=m') hw (r1:=r1) (r2:=r2) (λc hc=>hi c (by simp[hc])) y (λK hK=>by rw[ZiP gv]at hK;exact ho K hK)
  rw[ZtU gv.i]at ih
  have e:ZpV ops c (ZpV ops d S S') Sc=ZpV ops d (ZpV ops c S Sc) S':=by
   simp only[ZpV,gv.hc,gv.hd]
   exact ZtT gv hw S Sc S'
  rw[e];exact ih
end
theorem Zp2{F:Fence}(hF:FOk F){n:Nat}{P:Program}{o:Oper}{a:Act}{w:World}{p:Prop}(h:o.wpIn F n P a w (λ_ _=>p) (λ_ _ _=>p)):p:=by
 have cS:∀k,F.room k:=λk d hd=>by rw[hF.depth]at hd;cases hd
 have h:=h.2
 generalize (o.semAt F.round a.eval).run P w=r at h
 cases r with
 | ok x w'=>
  cases x <;> simp only[Oper.uponIn]at h
  all_goals first
   | exact h
   | exact h.elim
   | (obtain⟨e,w'',fr,h,_⟩:=h.2.2 [] (cS _)
      cases e <;> first
       | exact h
       | (obtain⟨_,_,h⟩:=h;exact h))
   | (obtain⟨v,w'',h,_⟩:=h.2 default [] (cS _)
      exact h)
   | (obtain⟨e,w'',h,_⟩:=h.2.2 default [] (cS _)
      cases e <;> first
       | exact h
       | (obtain⟨_,_,h⟩:=h;exact h))
 | halt x w'=>
  cases x <;> simp only[Oper.uponIn]at h
  all_goals first
   | exact h
   | exact h.elim
theorem Zsc{a b:St}(h:∀id,a.L id=b.L id)(sv:SV):a.den sv=b.den sv:=by
 cases sv <;> simp only[St.den,h]
section
variable {C:Ctx} {E:Env} {ops:Array Oper} {m0:Mem} {f:Fx} {d:DOp} {o:Oper} {S:St} {μ:Nat->Mem} {A:Mem} {a:Act} {w:World}
theorem Zvl(lJ:∀i,i∈Zn7 d.rs o->i∈d.ws)(oi:∀i,i∈d.ws->i∈d.rs)(dT:∀i,i∈d.ws->i∈S.ids)(eL:∀k,d.tk=some k->k∈S.tkeys)(hr:Rel C S A a w)
  {S2:St} {A2:Mem} {a':Act} {w':World} {y:St×Mem} {g:Bool} {m M:Mem} (h:Rel C S2 A2 a' w') (ho:Out (Zn7 d.rs o) d.tk g m M o.dst (ZpU ops d o S) S y (S2,A2)):Rel C (Zn8 d o S y.1) A2 a' w':=by
 have hL:∀id,(Zn8 d o S y.1).L id=S2.L id:=by
  intro id
  simp only[Zn8]
  cases hm:mem d.ws id with
  | true=>
   simp only[cond_true]
   rcases ho.L id with⟨_,e⟩|⟨e1,e2⟩
   ·exact e
   ·rw[e1,e2]
    simp[ZpU,ZaQ.2 (oi id (ZaQ.1 hm))]
  | false=>
   simp only[cond_false]
   rcases ho.L id with⟨hc,_⟩|⟨e1,e2⟩
   ·rw[ZaQ.2 (lJ id hc)]at hm;cases hm
   ·exact e2.symm
 have hT:∀k,(Zn8 d o S y.1).tok k=S2.tok k:=by
  intro k
  simp only[Zn8]
  cases hm:Zr1 d.tk k with
  | true=>
   simp only[cond_true]
   rcases ho.tok k with⟨_,e⟩|⟨e1,e2⟩
   ·exact e
   ·rw[e1,e2]
    simp[ZpU,hm]
  | false=>
   simp only[cond_false]
   rcases ho.tok k with⟨hc,_⟩|⟨e1,e2⟩
   ·rw[Zcu.2 hc]at hm;cases hm
   ·exact e2.symm
 refine h.restrict (congrArg Prod.fst ho.gh2).symm (congrArg Prod.snd ho.gh2).symm (λid x hx=>by rw[<-hL];exact hx) (λk t ht=>.inl (by rw[<-hT];exact ht)) ?_ ?_ ?_
 ·intro i sv he
  have he':S2.env i=some sv:=by
   simp only[Zn8]at he
   cases hd:ZfN o i with
   | true=>
    simp only[hd,cond_true]at he
    exact ho.env1 i sv (Zcu.1 hd) he
   | false=>
    simp only[hd,cond_false]at he
    have:o.dst≠some i:=λe=>by rw[show ZfN o i=true from Zcu.2 e]at hd;cases hd
    exact(ho.env2 i this).trans he
  obtain⟨v,h1,h2⟩:=h.env i sv he'
  exact⟨v,by rw[Zsc hL];exact h1,h2⟩
 ·intro id x hx
  show id∈S.ids
  cases hm:mem d.ws id with
  | true=>exact dT id (ZaQ.1 hm)
  | false=>simp only[Zn8,hm,cond_false]at hx;exact hr.ids id x hx
 ·intro k t ht
  show k∈S.tkeys
  cases hm:Zr1 d.tk k with
  | true=>exact eL k (Zcu.1 hm)
  | false=>simp only[Zn8,hm,cond_false]at ht;exact hr.tkeys k t ht
structure DOk (E:Env)(ops:Array Oper)(d:DOp)(o:Oper):Prop where
 at_:ops.toList[d.i]?=some o
 fp:Ztf E d.rs d.tk o=true
 chg:∀i,i∈Zn7 d.rs o->i∈d.ws
 ws:∀i,i∈d.ws->i∈d.rs
theorem ZqX(hE:E.ok){F:Fence}(hF:FOk F)(hY:YOk E C)(bF:ZlJ C.n ops.toList=true)(gH:E.fix=none)(hd:DOk E ops d o)(dT:∀i,i∈d.ws->i∈S.ids)(eL:∀k,d.tk=some k->k∈S.tkeys)
  (hr:Rel C S A a w) (h0:m0.le A) (hv:∀j,j∈d.vw->(μ j).le A) (h:Zs1 E ops m0 f d S μ (λ_ _=>True)) {n:Nat} {Q:Exit->Act->World->Prop} {next:Act->World->Prop}
  (hK:∀S' m' A' a' w',Zx2 E ops m0 f d S μ S' m'->Rel C (ZpV ops d S S') A' a' w'->A.le A'->m'.le A'->(ZdP o=false->A'=A)->next a' w'):wpOpIn F n E.P ops Q d.i next a w:=by
 unfold Zs1 at h
 simp only[hd.at_]at h
 obtain⟨V,sD,hV⟩:=ZpY (l:=d.vw) h0 hv
 have ni:Less (ZpU ops d o S) S:=⟨λt sv ht=>by
  simp only[ZpU]at ht
  cases hm:mem (o.looksAt ops) t <;> simp[hm]at ht;exact ht,λid x hx=>by
  simp only[ZpU]at hx
  cases hm:mem d.rs id <;> simp[hm]at hx;exact hx⟩
 have h2:opG E ops o S A (λS2 A2=>∃y1:St×Mem,(∀K:St×Mem->Prop,opG (E.fixed (f d.i)) ops o (ZpU ops d o S) V (λS' m'=>K (S',m'))->K y1)/\Out (Zn7 d.rs o) d.tk (ZdP o) V A o.dst (ZpU ops d o S) S y1 (S2,A2)):=
  Zwz (rs:=d.rs) (tk:=d.tk) w gH ni (λid x hx=>by
   simp only[ZpU]at hx
   cases hm:mem d.rs id with
   | true=>exact ZaQ.1 hm
   | false=>simp[hm]at hx) (λid cR=>by simp[ZpU,ZaQ.2 cR]) (λk hk=>by simp[ZpU,Zcu.2 hk]) sD hd.fp (hV _ h)
 have h3:=ZdB (th:=false) (.inr (ZlT hd.fp)) (K':=λS2 A2=>A.le A2/\∃y1:St×Mem,(∀K:St×Mem->Prop,opG (E.fixed (f d.i)) ops o (ZpU ops d o S) V (λS' m'=>K (S',m'))->K y1)/\Out (Zn7 d.rs o) d.tk (ZdP o) V A o.dst (ZpU ops d o S) S y1 (S2,A2)) (λS' m' _ hm y=>⟨hm,y⟩) h2
 have ho':ops[d.i]?=some o:=by simpa using hd.at_
 have:=Zer hE hF hY (Zdn bF d.i o hd.at_) hr h3 (n:=n) (Q:=Q) (next:=next) (λS2 A2 a' w' ⟨hA,y1,g1,g2⟩ bH=>by
  refine hK y1.1 y1.2 A2 a' w' ?_ ?_ hA g2.le (λhg=>(g2.same hg).2)
  ·intro K pT
   unfold Zs1 at pT
   simp only[hd.at_]at pT
   exact g1 (λy=>K y.1 y.2) (hV _ pT)
  ·simp only[ZpV,hd.at_]
   exact Zvl hd.chg hd.ws dT eL hr bH g2)
 unfold wpOpIn
 simp only[ho']
 exact this
end
theorem ZkM(ops:Array Oper)(d:DOp)(S S':St):(ZpV ops d S S').ids=S.ids/\(ZpV ops d S S').tkeys=S.tkeys:=by
 unfold ZpV
 cases ops.toList[d.i]? <;> exact⟨rfl,rfl⟩
theorem ZqY(μ:Nat->Mem)(i:Nat)(m:Mem):upd μ i m i=m:=by simp[upd]
theorem Zvm{μ:Nat->Mem}{i j:Nat}(h:j≠i)(m:Mem):upd μ i m j=μ j:=by simp[upd,Zam h]
def Zwn:(Nat->Prop)->List DOp->Prop
 | _,[]=>True
 | D,c::r=>(∀j,j∈c.vw->D j)/\Zwn (λj=>D j\/j=c.i) r
theorem extract{C:Ctx}{E:Env}(hE:E.ok){F:Fence}(hF:FOk F)(hY:YOk E C){ops:Array Oper}(bF:ZlJ C.n ops.toList=true)(gH:E.fix=none){m0:Mem}{f:Fx}{d:DOp}{r2:List DOp}{K:St->(Nat->Mem)->Prop}:
  ∀{r1:List DOp} {D:Nat->Prop} {S:St} {μ:Nat->Mem} {A:Mem} {a:Act} {w:World},Rel C S A a w->m0.le A->(∀j,D j->(μ j).le A)->Zwn D r1->(∀c∈r1,(∃o,DOk E ops c o)/\(∀i,i∈c.ws->i∈S.ids)/\(∀k,c.tk=some k->k∈S.tkeys))->(∀c∈r1,ZqT ops c d=true)->
   Zi0 E ops m0 f (r1++d::r2) K S μ->Zs1 E ops m0 f d S μ (λ_ _=>True)
 | [],D,S,μ,A,a,w,hr,h0,hD,ht,hc,hi,h=>Zeu (λ_ _ _=>trivial) h
 | c::r1,D,S,μ,A,a,w,hr,h0,hD,ht,hc,hi,h=>by
  obtain⟨oc,od,gv⟩:=Zl1 (hi c (by simp))
  obtain⟨⟨o,cN⟩,dT,eL⟩:=hc c (by simp)
  simp only[List.cons_append,Zi0,Zod]at h
  have key:=ZqX (n:=0) (next:=λ_ _=>Zs1 E ops m0 f d S μ (λ_ _=>True)) (Q:=λ_ _ _=>Zs1 E ops m0 f d S μ (λ_ _=>True)) hE hF hY bF gH cN dT eL hr h0 (λj hj=>hD j (ht.1 j hj)) (Zeu (λ_ _ _=>trivial) h) (λS' m' A' a' w' fH bH hA hm _=>by
   have:=extract hE hF hY bF gH (r1:=r1) (D:=λj=>D j\/j=c.i) bH (mLt h0 hA) (λj hj=>by
    by_cases e:j=c.i
    ·subst e;rw[ZqY];exact hm
    ·rw[Zvm e];exact mLt (hD j (hj.resolve_right e)) hA) ht.2 (λc' hc'=>by
     obtain⟨h1,h2,h3⟩:=hc c' (by simp[hc'])
     exact⟨h1,λi hi=>by rw[(ZkM ops c S S').1];exact h2 i hi,λk hk=>by rw[(ZkM ops c S S').2];exact h3 k hk⟩) (λc' hc'=>hi c' (by simp[hc'])) (fH _ h)
   rwa [ZiP gv]at this)
  unfold wpOpIn at key
  have ho':ops[c.i]?=some o:=by simpa using cN.at_
  simp only[ho']at key
  split at key
  ·exact Zp2 hF key
  ·exact key.2
theorem Zgr{l:Array Bool}{i:Nat}(h:i < l.size):(l.setIfInBounds i true).getD i false=true:=by simp[Array.getD,h]
theorem Zl2:∀{n:Nat} {k k':List (List Value)->Prop},(∀v,v.length=n->k v->k' v)->allL n k->allL n k'
 | 0,k,k',h,hx=>h _ rfl hx
 | n+1,k,k',h,hx=>λcs=>Zl2 (λl hl hx=>h _ (by simp[hl]) hx) (hx cs)
theorem Zp3{E:Env}{S:St}{m:Mem}{rt:TypeId}{g:FuncId}{args:List Value}{ids:List Nat}{ks:List (Nat×Nat)}{K:Value->St->Mem->Prop}
  (h:Zi6 E S m rt g args ids ks K):Zi6 E S m rt g args ids ks λv S' m'=>K v S' m'/\∀id,id ∉ ids->S'.L id=S.L id:=by
 unfold Zi6 at *
 cases hb:ZbR S ids with
 | none=>simp[hb]at h
 | some bxs=>
  simp only[hb]at h ⊢
  cases hm:E.m0 with
  | none=>simp[hm]at h
  | some m0=>
   simp only[hm]at h ⊢
   obtain⟨h1,Y,R,h2,h3,h4,h5,h6⟩:=Zaf h
   refine Zab h1 ⟨Y,R,h2,h3,h4,h5,?_⟩
   simp only[Bool.and_eq_true]at h1
   have dR:=Zaz h1.2.2.1
   have bL:=(Zch hb).1
   refine Shape.all_mono _ (λv z m' hm' hn=>?_) h6
   refine Zl2 (λcss hc z=>ZiJ (λtvs z hR=>⟨z hR,λid cR=>?_⟩) z) (z m' hm' hn)
   rcases Zen (S:=S) dR bL hc id with⟨_,q⟩|⟨i,x,cs,q,_⟩
   ·exact q
   ·exact absurd (List.mem_of_getElem? q) cR
theorem ZtV{l:List Value}{n:Nat}{k:Value->Prop}(h:ZsZ l n k):∃v,k v/\ZsZ l n (·=v):=by
 obtain⟨v,h1,h2⟩:=Zhn h
 exact⟨v,h2,ZaK h1 rfl⟩
theorem Zoe{i:TI}{x:Box}{off:Nat}{k:Value->Prop}(h:ZcG i x off k):∃v,k v/\ZcG i x off (·=v):=by
 unfold ZcG at *
 cases ha:i.agg with
 | true=>
  simp only[ha,cond_true]at *
  cases hf:(x.full&&(Nat.beq x.cap i.size&&Nat.beq off 0))with
  | true=>
   simp only[hf,cond_true]at *
   exact⟨_,h,rfl⟩
  | false=>
   simp only[hf,cond_false]at *
   obtain⟨h1,h2⟩:=Zaf h
   exact⟨_,h2,Zab h1 rfl⟩
 | false=>
  simp only[ha,cond_false]at *
  exact ZtV h
theorem Zof{i:TI}{m:Mem}{b o:Nat}{k:Value->Prop}(h:Zc5 i m b o k):∃v,k v/\∀m':Mem,m.le m'->Zc5 i m' b o (·=v):=by
 unfold Zc5 at *
 cases ha:i.agg with
 | false=>
  simp only[ha,cond_false]at *
  obtain⟨v,h1,h2⟩:=h
  exact⟨v,h2,λm' hm=>⟨v,hm _ _ _ h1,rfl⟩⟩
 | true=>
  simp only[ha,cond_true]at *
  cases hb:Nat.ble i.size 16 with
  | true=>
   simp only[hb,cond_true]at *
   obtain⟨vs,h1,h2,h3⟩:=ZiG h
   exact⟨_,h3,λm' hm=>Zkl vs h1 ⟨λj v hv=>hm _ _ _ (h2 j v hv),rfl⟩⟩
  | false=>
   simp only[hb,cond_false]at *
   obtain⟨vs,h1,h2,h3⟩:=h
   exact⟨_,h3,λm' hm=>⟨vs,h1,λj v hv=>hm _ _ _ (h2 j v hv),rfl⟩⟩
theorem ZiQ{α:Type}{l:List α}(h:Zr3 l=true):l=[]:=by
 cases l with
 | nil=>rfl
 | cons x l=>cases h
theorem ZjZ{p q:Nat->Bool}{i:Nat}(hp:p i=true)(hq:∀j,q j=(p j&&!Nat.beq j i)):∀{l:List Nat},l.Nodup->i∈l->l.countP q+1=l.countP p
 | [],_,h=>by cases h
 | x::l,hn,hi=>by
  rw[List.nodup_cons]at hn
  rw[List.countP_cons,List.countP_cons]
  by_cases e:x=i
  ·subst e
   have:l.countP q=l.countP p:=List.countP_congr λj hj=>by
    have:j≠x:=λe=>hn.1 (e ▸ hj)
    rw[hq,Zam this];simp
   rw[this,hq,ZeW,hp];simp
  ·have ih:=ZjZ hp hq hn.2 ((List.mem_cons.1 hi).resolve_left λh=>e h.symm)
   rw[hq x,Zam e]
   simp only[Bool.not_false,Bool.and_true]
   omega
section
variable {C:Ctx} {m:Mem} {a:Act} {w:World}
def Stab(E:Env)(C:Ctx)(ops:Array Oper)(chg:List Nat)(S:St)(o:Oper)(v:Value):Prop:=
 ∀(S':St)(m':Mem)(a':Act)(w':World),Rel C S' m' a' w'->(∀t,t∈o.looksAt ops->S'.env t=S.env t)->(∀id,id ∉ chg->S'.L id=S.L id)->(execOp a'.eval o).run E.P w'=.ok (.value v) w'
theorem Stab.next{E:Env}{ops:Array Oper}{chg:List Nat}{S S2:St}{o:Oper}{v:Value}(h:Stab E C ops chg S o v)(he:∀t,t∈o.looksAt ops->S2.env t=S.env t)(hL:∀id,id ∉ chg->S2.L id=S.L id):Stab E C ops chg S2 o v:=
 λS' m' a' w' hr h1 h2=>h S' m' a' w' hr (λt ht=>(h1 t ht).trans (he t ht)) (λid cR=>(h2 id cR).trans (hL id cR))
theorem Zog{ops:Array Oper}{S S':St}{o:Oper}{x:Operand}(hx:x∈o.op.operands)(h:∀t,t∈o.looksAt ops->S'.env t=S.env t):S'.ev x=S.ev x:=by
 cases x with
 | tmp t=>exact h t (List.mem_append_left _ (List.mem_filterMap.2 ⟨.tmp t,by simpa using hx,rfl⟩))
 | _=>rfl
theorem ZqZ{S S':St}{chg:List Nat}{sv:SV}(hf:ZpW chg sv=true)(hL:∀id,id ∉ chg->S'.L id=S.L id):S'.den sv=S.den sv:=by
 have key:∀id,mem chg id=false->id ∉ chg:=λid h hm=>by rw[ZaQ.2 hm]at h;cases h
 cases sv with
 | v x=>rfl
 | loc id off=>
  simp only[ZpW,Bool.not_eq_true']at hf
  simp only[St.den,hL id (key id hf)]
 | sl id n c=>
  simp only[ZpW,Bool.not_eq_true']at hf
  simp only[St.den,hL id (key id hf)]
theorem Zl3{S:St}{chg:List Nat}{x:Operand}{k:SV->Prop}(hr:Rel C S m a w)(h:Zr4 S chg x k):∃sv v,k sv/\S.ev x=some sv/\S.den sv=some v/\
  ∀(S':St)(m':Mem)(a':Act)(w':World),Rel C S' m' a' w'->S'.ev x=S.ev x->(∀id,id ∉ chg->S'.L id=S.L id)->a'.eval x=v:=by
 unfold Zr4 at h
 split at h
 ·rename_i sv he
  obtain⟨h1,h2⟩:=Zaf h
  obtain⟨v,g1,_,_⟩:=hr.ev_val he
  refine⟨sv,v,h2,he,g1,λS' m' a' w' hr' e1 e2=>?_⟩
  obtain⟨v',g3,_,g5⟩:=hr'.ev_val (e1.trans he)
  rw[ZqZ h1 e2,g1]at g3;cases g3;exact g5
 ·exact h.elim
theorem Zp4{E:Env}(hE:E.ok)(hY:YOk E C){ops:Array Oper}{S:St}{chg:List Nat}{o:Oper}{k:SV->Prop}(hr:Rel C S m a w)(h:Zth E S chg o k):∃sv v,k sv/\S.den sv=some v/\Stab E C ops chg S o v:=by
 have key:∀id,(!mem chg id)=true->id ∉ chg:=λid h hm=>by rw[ZaQ.2 hm]at h;cases h
 have pure1:∀(sv:SV),k sv->ZpW chg sv=true->(∀S':St,(∀x∈o.op.operands,S'.ev x=S.ev x)->(∀id,id ∉ chg->S'.L id=S.L id)->Zcg E S' o (·=sv))->∃sv v,k sv/\S.den sv=some v/\Stab E C ops chg S o v:=λsv hk hf hp=>by
  obtain⟨_,v,rfl,g2,_⟩:=Zf6 hE hr (hp S (λ_ _=>rfl) (λ_ _=>rfl))
  refine⟨_,v,hk,g2,λS' m' a' w' hr' e1 e2=>?_⟩
  obtain⟨_,v',rfl,g5,g6⟩:=Zf6 hE hr' (hp S' (λx hx=>Zog hx e1) e2)
  rw[ZqZ hf e2,g2]at g5;cases g5;exact g6
 obtain⟨dst,op,type,pos,after,guard⟩:=o
 cases op <;> simp only[Zth]at h <;> try exact h.elim
 case load T x=>
  obtain⟨h1,h2⟩:=Zaf h
  unfold ZuM at h2
  cases ht:E.tt T with
  | none=>simp[ht]at h2
  | some i=>
   simp only[ht]at h2
   have fin:∀v,k (.v v)->(∀(S':St)(m':Mem),S'.ev x=S.ev x->(∀id,id ∉ chg->S'.L id=S.L id)->C.m0.le m'->Zel E S' m' T x (·=v))->∃sv v,k sv/\S.den sv=some v/\Stab E C ops chg S ⟨dst,.load T x,type,pos,after,guard⟩ v:=λv hk hl=>
    ⟨.v v,v,hk,rfl,λS' m' a' w' hr' e1 e2=>by
     obtain⟨_,rfl,bK⟩:=Zem hE hr' (hl S' m' (Zog (o:=⟨dst,.load T x,type,pos,after,guard⟩) (by simp[Op.operands]) e1) e2 hr'.le0)
     simp[execOp,bK]⟩
   split at h2
   ·rename_i id off he
    cases hL:S.L id with
    | none=>simp[hL]at h2
    | some bx=>
     simp only[hL]at h2
     obtain⟨h3,h4⟩:=Zaf h2
     obtain⟨v,h5,h6⟩:=Zoe h4
     refine fin v h5 λS' m' q1 q2 q3=>?_
     unfold Zel
     simp only[ht,q1,he,q2 id (key id h3),hL]
     exact h6
   ·rename_i v0 he
    cases hm:E.m0 with
    | none=>simp[hm]at h2
    | some m0=>
     simp only[hm]at h2
     obtain⟨h3,h4⟩:=Zaf h2
     simp only[Bool.and_eq_true,Option.isNone_iff_eq_none]at h3
     obtain⟨v,h5,h6⟩:=Zof h4
     refine fin v h5 λS' m' q1 q2 q3=>?_
     unfold Zel
     simp only[ht,q1,he,h3.2]
     exact Zab h3.1 (h6 m' (by rw[<-(hY.m0 m0 hm).1];exact q3))
   ·exact h2.elim
 case move x=>
  obtain⟨sv,v,h1,h2,h3,h4⟩:=Zl3 hr h
  exact⟨sv,v,h1,h3,λS' m' a' w' hr' e1 e2=>by simp[execOp,h4 S' m' a' w' hr' (Zog (o:=⟨dst,.move x,type,pos,after,guard⟩) (by simp[Op.operands]) e1) e2]⟩
 case assign x=>
  obtain⟨sv,v,h1,h2,h3,h4⟩:=Zl3 hr h
  exact⟨sv,v,h1,h3,λS' m' a' w' hr' e1 e2=>by simp[execOp,h4 S' m' a' w' hr' (Zog (o:=⟨dst,.assign x,type,pos,after,guard⟩) (by simp[Op.operands]) e1) e2]⟩
 case nilCheck x=>
  split at h
  ·rename_i id off he
   obtain⟨h1,h2⟩:=Zaf h
   exact pure1 _ h2 h1 λS' e1 e2=>by simp only[Zcg,e1 x (by simp[Op.operands]),he]
  ·rename_i v he
   obtain⟨h1,h2⟩:=Zaf h
   exact pure1 _ h2 rfl λS' e1 e2=>by simp only[Zcg,e1 x (by simp[Op.operands]),he];exact Zab h1 trivial
  ·exact h.elim
 case fieldAddr T x f=>
  cases hf:ZeY E T f with
  | none=>simp[hf]at h
  | some fo=>
   simp only[hf]at h
   split at h
   ·rename_i id off he
    obtain⟨h1,h2⟩:=Zaf h
    exact pure1 _ h2 h1 λS' e1 e2=>by simp only[Zcg,hf,e1 x (by simp[Op.operands]),he]
   ·rename_i v he
    obtain⟨h1,h2⟩:=Zaf h
    exact pure1 _ h2 rfl λS' e1 e2=>by simp only[Zcg,hf,e1 x (by simp[Op.operands]),he];exact Zab h1 trivial
   ·exact h.elim
 case indexAddr T x i=>
  split at h
  ·rename_i vi esz v hi hx he
   obtain⟨h1,b,o,h2,h3,h4⟩:=Zaf h
   simp only[Bool.and_eq_true]at h1
   refine pure1 _ h4 rfl λS' e1 e2=>?_
   have iy:S'.val i=some vi:=by
    unfold St.val
    rw[e1 i (by simp[Op.operands]),hi];rfl
   simp only[Zcg,wv,iy,hx,e1 x (by simp[Op.operands]),he]
   exact Zab h1.1 (Zab h1.2 ⟨b,o,h2,h3,rfl⟩)
  ·exact h.elim
end
structure HV where
 i:Nat
 d:Nat
 v:Value
def fill(L:Array Bool):List HV->Act->Act
 | [],a=>a
 | q::vs,a=>fill L vs (bif L.getD q.i false then a else a.put (some q.d) q.v)
theorem ZiR{L:Array Bool}{i:Nat}:∀{vs:List HV} {a:Act},i ∉ vs.map (·.i)->fill (L.setIfInBounds i true) vs a=fill L vs a
 | [],a,_=>rfl
 | q::vs,a,h=>by
  simp only[List.map_cons,List.mem_cons,not_or]at h
  simp only[fill,getD_set_ne false h.1]
  exact ZiR h.2
theorem ZkN{L:Array Bool}{q:HV}(hq:L.getD q.i false=false)(hs:q.i < L.size):∀{vs:List HV} {a:Act},q∈vs->(vs.map (·.i)).Nodup->(vs.map (·.d)).Nodup->fill (L.setIfInBounds q.i true) vs (a.put (some q.d) q.v)=fill L vs a
 | [],a,h,_,_=>by cases h
 | r::vs,a,h,h1,h2=>by
  simp only[List.map_cons,List.nodup_cons]at h1 h2
  simp only[fill]
  by_cases e:r=q
  ·subst e
   rw[Zgr hs,hq,cond_true,cond_false]
   exact ZiR h1.1
  ·have hm:=(List.mem_cons.1 h).resolve_left (λh=>e h.symm)
   have hi:q.i≠r.i:=λh=>h1.1 (h ▸ List.mem_map.2 ⟨q,hm,rfl⟩)
   have hd:q.d≠r.d:=λh=>h2.1 (h ▸ List.mem_map.2 ⟨q,hm,rfl⟩)
   rw[getD_set_ne false hi]
   cases L.getD r.i false with
   | true=>exact ZkN hq hs hm h1.2 h2.2
   | false=>
    simp only[cond_false]
    rw[Act.put_comm a (x:=some q.d) (y:=some r.d) q.v r.v (λd hd' e=>hd (by cases hd';exact(Option.some.inj e).symm))]
    exact ZkN hq hs hm h1.2 h2.2
theorem Zq0{L:Array Bool}:∀{vs:List HV} {a:Act},(∀q∈vs,L.getD q.i false=true)->fill L vs a=a
 | [],a,_=>rfl
 | q::vs,a,h=>by
  simp only[fill,h q (by simp),cond_true]
  exact Zq0 λr hr=>h r (by simp[hr])
theorem ZhH{o:Oper}(h:Zpw o=true):∀cs b,o.op≠.select cs b:=λcs b e=>by unfold Zpw at h;rw[e]at h;cases h
theorem Zgs{o:Oper}(h:Zpw o=true):∀c,o.op≠.defer c:=λc e=>by unfold Zpw at h;rw[e]at h;cases h
theorem Zoh{ops:Array Oper}{L:Array Bool}{o:Oper}(hs:Zpw o=true):∀{vs:List HV} {a:Act},(∀q∈vs,L.getD q.i false=false->q.d ∉ o.looksAt ops)->execOp (fill L vs a).eval o=execOp a.eval o
 | [],a,_=>rfl
 | q::vs,a,h=>by
  simp only[fill]
  rw[Zoh hs (λr hr=>h r (by simp[hr]))]
  cases hl:L.getD q.i false with
  | true=>rfl
  | false=>exact execOp_put (ops:=ops) o (ZhH hs) a (some q.d) q.v (λd hd=>by cases hd;exact h q (by simp) hl)
theorem Zsd{F:Fence}{n:Nat}{P:Program}{ops:Array Oper}{Q:Exit->Act->World->Prop}(hQ:∀c a w,¬Q (.panic c) a w){o:Oper}(hs:Zpw o=true){d:Nat}{v:Value}(h1:d ∉ o.looksAt ops)(h2:o.dst≠some d){a:Act}{w:World}{next:Act->World->Prop}
  (h:o.wpIn F n P (a.put (some d) v) w next Q):o.wpIn F n P a w (λa2 w2=>next (a2.put (some d) v) w2) Q:=by
 have hl:∀e,some d=some e->e ∉ o.looksAt ops:=λe he=>by cases he;exact h1
 have hc:∀u,(a.put (some d) v).put o.dst u=(a.put o.dst u).put (some d) v:=λu=>Act.put_comm a v u (λe he=>by cases he;exact h2)
 unfold Oper.wpIn at *
 rw[about_put (ops:=ops) o w a (some d) v hl]at h
 refine⟨h.1,?_⟩
 have h:=h.2
 rw[Oper.semAt_eq _ _ _ (Zgs hs),execOp_put (ops:=ops) o (ZhH hs) a (some d) v hl]at h
 rw[Oper.semAt_eq _ _ _ (Zgs hs)]
 generalize (execOp a.eval o).run P w=r at *
 cases r with
 | ok x w'=>
  cases x <;> simp only[Oper.uponIn]at h ⊢
  case value u=>rw[<-hc u];exact h
  case skip=>rw[<-hc undef];exact h
  case defer dd=>
   have e:({ a with defers:=dd::a.defers }.put o.dst undef).put (some d) v=({ a.put (some d) v with defers:=dd::(a.put (some d) v).defers }:Act).put o.dst undef:=by
    rw[Act.put_defers a (some d) v dd,Act.put_comm { a with defers:=dd::a.defers } v undef (λe he=>by cases he;exact h2)]
   rw[e];exact h
  case enter f args=>
   refine⟨h.1,CallsIn.mono h.2 λe w'' he=>?_⟩
   cases e with
   | returned u=>show next _ _;rw[<-hc u];exact he
   | panicked c=>exact(hQ _ _ _ he).elim
   | outgrown=>exact he
  case row row args=>exact⟨h.1,RowsIn.mono h.2 λu w'' he=>by rw[<-hc u];exact he⟩
  case round l f tmps assign body=>
   refine⟨h.1,RoundIn.mono h.2 λe w'' he=>?_⟩
   cases e with
   | returned u=>show next _ _;rw[<-hc u];exact he
   | panicked c=>exact(hQ _ _ _ he).elim
   | outgrown=>exact he
 | halt x w'=>
  cases x <;> simp only[Oper.uponIn]at h ⊢
  case panic u=>exact(hQ _ _ _ h).elim
theorem Zoi{F:Fence}{n:Nat}{P:Program}{ops:Array Oper}{Q:Exit->Act->World->Prop}(hQ:∀c a w,¬Q (.panic c) a w){o:Oper}(hs:Zpw o=true){L:Array Bool}{w:World}:∀{vs:List HV} {a:Act} {next:Act->World->Prop},
  (∀q∈vs,L.getD q.i false=false->q.d ∉ o.looksAt ops/\o.dst≠some q.d)->o.wpIn F n P (fill L vs a) w next Q->o.wpIn F n P a w (λa2 w2=>next (fill L vs a2) w2) Q
 | [],a,next,_,h=>h
 | q::vs,a,next,hv,h=>by
  simp only[fill]at h ⊢
  have h1:=Zoi hQ hs (λr hr=>hv r (by simp[hr])) h
  cases hl:L.getD q.i false with
  | true=>simp only[hl,cond_true]at h1 ⊢;exact h1
  | false=>
   simp only[hl,cond_false]at h1 ⊢
   obtain⟨g1,g2⟩:=hv q (by simp) hl
   exact Zsd (ops:=ops) hQ hs g1 g2 h1
theorem ZcY:∀{l:List Oper},(ZaC l).Nodup->∀{i j:Nat} {o o':Oper} {t:Nat},l[i]?=some o->l[j]?=some o'->o.dst=some t->o'.dst=some t->i=j
 | [],_,i,j,o,o',t,h,_,_,_=>by simp at h
 | x::l,hn,0,0,_,_,_,_,_,_,_=>rfl
 | x::l,hn,0,j+1,o,o',t,h1,h2,h3,h4=>by
  simp at h1 h2;subst h1
  simp only[ZaC,h3,List.nodup_cons]at hn
  exact absurd (ZaP h2 h4) hn.1
 | x::l,hn,i+1,0,o,o',t,h1,h2,h3,h4=>by
  simp at h1 h2;subst h2
  simp only[ZaC,h4,List.nodup_cons]at hn
  exact absurd (ZaP h1 h3) hn.1
 | x::l,hn,i+1,j+1,o,o',t,h1,h2,h3,h4=>by
  simp at h1 h2
  have:(ZaC l).Nodup:=by
   unfold ZaC at hn
   split at hn
   ·exact hn
   ·exact(List.nodup_cons.1 hn).2
  rw[ZcY this h1 h2 h3 h4]
theorem Ze7{ops:Array Oper}:∀{l prev:List Nat},ZjW ops prev l=true->∀(i:Nat) o,i∈l->ops.toList[i]?=some o->∀t∈o.looksAt ops,t∈ZaC ops.toList->∃j∈Zb9 o,∃oj,ops.toList[j]?=some oj/\oj.dst=some t/\(j∈prev\/j∈l)
 | [],prev,_,i,o,h,_,_,_,_=>by cases h
 | k::l,prev,h,i,o,hi,ho,t,ht,ja=>by
  simp only[ZjW,Bool.and_eq_true]at h
  rcases List.mem_cons.1 hi with rfl|hi
  ·have h1:=h.1
   rw[ho]at h1
   simp only[Bool.and_eq_true,List.all_eq_true,Bool.or_eq_true,List.any_eq_true]at h1
   rcases h1.2 t ht with h2|⟨j,hj,h2,h3⟩
   ·rw[ZaQ.2 ja]at h2;cases h2
   ·cases iV:ops.toList[j]? with
    | none=>simp[iV]at h3
    | some oj=>
     simp only[iV]at h3
     exact⟨j,ZaQ.1 h2,oj,iV,Zcu.1 h3,.inl hj⟩
  ·obtain⟨j,h1,oj,h2,h3,h4⟩:=Ze7 h.2 i o hi ho t ht ja
   refine⟨j,h1,oj,h2,h3,?_⟩
   rcases h4 with h4|h4
   ·rcases List.mem_cons.1 h4 with rfl|h4
    ·exact .inr (by simp)
    ·exact .inl h4
   ·exact .inr (by simp[h4])
theorem Zoj{ops:Array Oper}{p:Nat->Prop}(hc:∀i,p i->∀j∈Zds ops i,p j){l:List Nat}(hl:∀j∈l,p j):∀j∈ZxD ops l,p j:=by
 unfold ZxD
 have:∀(r acc:List Nat),(∀j∈acc,p j)->∀j∈r.foldl (λacc i=>bif mem acc i then(match ops.toList[i]? with
  | some o=>Zb9 o++acc
  | none=>acc)else acc) acc,p j:=by
  intro r
  induction r with
  | nil=>intro acc h;exact h
  | cons i r ih=>
   intro acc h
   simp only[List.foldl_cons]
   refine ih _ λj hj=>?_
   cases hm:mem acc i with
   | false=>rw[hm]at hj;exact h j hj
   | true=>
    rw[hm]at hj
    cases ho:ops.toList[i]? with
    | none=>simp only[ho,cond_true]at hj;exact h j hj
    | some o=>
     simp only[ho,cond_true]at hj
     rcases List.mem_append.1 hj with hj|hj
     ·exact hc i (h i (ZaQ.1 hm)) j (by unfold Zds;rw[ho];exact hj)
     ·exact h j hj
 exact this _ _ hl
theorem Znz{E:Env}{ops:Array Oper}{H:List Nat}:∀{T:List Nat},Zvi E ops H T=true->∀(k p t:Nat),T[k]?=some p->T[k+1]?=some t->p∈Zds ops t/\(ZxE E ops t=true\/∀j∈H,j∈ZxD ops (Zds ops t))
 | [],_,k,p,t,h,_=>by simp at h
 | [x],_,k,p,t,_,h=>by simp at h
 | x::y::r,h,k,p,t,h1,h2=>by
  simp only[Zvi,Bool.and_eq_true,Bool.or_eq_true,List.all_eq_true]at h
  cases k with
  | zero=>
   simp at h1 h2;subst h1 h2
   exact⟨ZaQ.1 h.1,h.2.1.imp id λh j hj=>ZaQ.1 (h j hj)⟩
  | succ k=>exact Znz h.2.2 k p t (by simpa using h1) (by simpa using h2)
theorem ZxF{p:Nat->Prop}(h:∃i,p i):∃i,p i/\∀j,j < i->¬p j:=by
 classical
 obtain⟨i,hi⟩:=h
 induction i using Nat.strongRecOn with
 | _ i ih=>
  by_cases hh:∃j,j < i/\p j
  ·obtain⟨j,h1,h2⟩:=hh;exact ih j h1 h2
  ·exact⟨i,hi,λj hj hp=>hh ⟨j,hj,hp⟩⟩
theorem ZiS{ops:Array Oper}{T:List Nat}{p i:Nat}{o:Oper}(hi:T[p]?=some i)(ho:ops.toList[i]?=some o):Zd8 ops (T.drop p)=o::Zd8 ops (T.drop (p+1)):=by
 have:T.drop p=i::T.drop (p+1):=by
  have bF:=(List.getElem?_eq_some_iff.1 hi).1
  rw[List.drop_eq_getElem_cons bF]
  congr 1
  simpa[List.getElem?_eq_getElem bF]using hi
 rw[this,Zd8,ho]
section
variable {C:Ctx} {m:Mem} {a:Act} {w:World}
theorem Zl4{E:Env}(hE:E.ok)(hY:YOk E C){ops:Array Oper}{chg:List Nat}(bF:ZlJ C.n ops.toList=true)(dR:(ZaC ops.toList).Nodup){L0:Array Bool}(rb:∀j,L0.getD j false=false){k:St->Prop}:∀{l prev:List Nat} {S:St} {a:Act},Rel C S m a w->Zr5 E ops chg l k S->ZjW ops prev l=true->l.Nodup->(∀j∈prev,j ∉ l)->
  ∃X vs,k X/\vs.map HV.i=l/\(vs.map HV.d).Nodup/\Rel C X m (fill L0 vs a) w/\X.L=S.L/\(∀t,t ∉ vs.map HV.d->X.env t=S.env t)/\∀q∈vs,∃o,ops.toList[q.i]?=some o/\o.dst=some q.d/\Stab E C ops chg X o q.v
 | [],prev,S,a,hr,h,_,_,_=>⟨S,[],h,rfl,by simp,hr,rfl,λ_ _=>rfl,by simp⟩
 | i::l,prev,S,a,hr,h,cN,hn,hp=>by
  unfold Zr5 at h
  cases ho:ops.toList[i]? with
  | none=>simp[ho]at h
  | some o=>
   simp only[ho]at h
   have sE:=cN
   simp only[ZjW,ho,Bool.and_eq_true,List.all_eq_true,Bool.or_eq_true,List.any_eq_true]at cN
   obtain⟨d,hd⟩:=Option.isSome_iff_exists.1 cN.1.1
   obtain⟨sv,v,h1,h2,h3⟩:=Zp4 hE hY (ops:=ops) hr h
   rw[hd]at h1
   have dU:=hr.put (some d) (λt e=>by cases e;exact Zdn bF i o ho d hd) h2
   obtain⟨gx,gn⟩:=List.nodup_cons.1 hn
   obtain⟨X,vs,g1,g2,g3,g4,g5,g6,g7⟩:=Zl4 hE hY bF dR rb dU h1 cN.2 gn (λj hj=>by
    rcases List.mem_cons.1 hj with rfl|hj
    ·exact gx
    ·exact λhm=>hp j hj (List.mem_cons_of_mem _ hm))
   have dOf:∀t,t∈vs.map HV.d->∃j oj,j∈l/\ops.toList[j]?=some oj/\oj.dst=some t:=λt ht=>by
    obtain⟨q,hq,rfl⟩:=List.mem_map.1 ht
    obtain⟨oq,q1,q2,_⟩:=g7 q hq
    exact⟨q.i,oq,by rw[<-g2];exact List.mem_map.2 ⟨q,hq,rfl⟩,q1,q2⟩
   have sF:d ∉ vs.map HV.d:=λhm=>by
    obtain⟨j,oj,hj,iV,kR⟩:=dOf d hm
    have:=ZcY dR ho iV hd kR
    exact gx (this ▸ hj)
   refine⟨X,⟨i,d,v⟩::vs,g1,by simp[g2],by simp only[List.map_cons,List.nodup_cons];exact⟨sF,g3⟩,?_,g5.trans (Zte _ _ _),λt ht=>?_,λq hq=>?_⟩
   ·simp only[fill,rb,cond_false];exact g4
   ·simp only[List.map_cons,List.mem_cons,not_or]at ht
    rw[g6 t ht.2];simp[St.put,Zam ht.1]
   ·rcases List.mem_cons.1 hq with rfl|hq
    ·refine⟨o,ho,hd,h3.next (λt ht=>?_) (λid _=>by rw[g5,Zte])⟩
     have ot:t≠d/\t ∉ vs.map HV.d:=by
      by_cases ja:t∈ZaC ops.toList
      ·rcases cN.1.2 t ht with h4|⟨j,hj,h5,h6⟩
       ·rw[ZaQ.2 ja]at h4;cases h4
       ·cases iV:ops.toList[j]? with
        | none=>simp[iV]at h6
        | some oj=>
         simp only[iV]at h6
         have kR:=Zcu.1 h6
         refine⟨λe=>?_,λhm=>?_⟩
         ·subst e
          have:=ZcY dR ho iV hd kR
          exact hp j hj (by simp[this])
         ·obtain⟨j',oj',hj',lK,lL⟩:=dOf t hm
          have:=ZcY dR iV lK kR lL
          exact hp j hj (by simp[this,hj'])
      ·refine⟨λe=>ja (e ▸ ZaP ho hd),λhm=>?_⟩
       obtain⟨j',oj',hj',lK,lL⟩:=dOf t hm
       exact ja (ZaP lK lL)
     rw[g6 t ot.2];simp[St.put,Zam ot.1]
    ·exact g7 q hq
theorem ZtW{E:Env}{ops:Array Oper}{i:Nat}{o:Oper}(ho:ops.toList[i]?=some o)(ht:ZxE E ops i=true)(hg:o.guard=none){S:St}{m:Mem}{K:St->Mem->Prop}(h:opG E ops o S m K):
  opG E ops o S m λS' m'=>K S' m'/\∀id,o.dst≠some id->S'.L id=S.L id:=by
 unfold ZxE at ht
 rw[ho]at ht
 simp only at ht
 unfold opG at *
 simp only[hg]at h ⊢
 obtain⟨dst,op,type,pos,after,guard⟩:=o
 cases op <;> simp only at ht <;> try cases ht
 case buildSlice T len parts=>
  have eL:=Option.isNone_iff_eq_none.1 ht
  simp only[opW,eL,Zdk]at h ⊢
  cases dst with
  | none=>exact h
  | some d=>
   simp only at h ⊢
   split at h
   ·exact h
   ·split at h
    ·split at h
     ·exact h
     ·split at h
      ·exact h
      ·refine Zah (λy=>Zb0 (λvs y=>Zah (λy b hb=>⟨y b hb,λid cR=>?_⟩) y) y) h
       have:id≠d:=λe=>cR (by rw[e])
       simp[St.newL,St.put,Zam this]
    ·exact h
 case call q=>
  cases hq:q.callee with
  | value f=>simp[hq]at ht
  | invoke r n=>simp[hq]at ht
  | builtin b=>
   cases b <;> simp only[hq]at ht <;> try cases ht
   case builtin.len.intro=>
    simp only[opW,hq]at h ⊢
    exact ZiL (λsv y=>⟨y,λid _=>by rw[Zte]⟩) h
   case builtin.append=>
    simp only[opW,hq]at h ⊢
    split at h
    ·rename_i s x T xT d e1 e2
     unfold ZuD at *
     simp only[ZiQ ht]at h ⊢
     exact Zap (λv y=>Zap (λv' y=>Ze2 (λv tk m' _ z=>⟨z,λid _=>by rw[Zte]⟩) y) y) h
    ·exact h
theorem Zse{E:Env}{ops:Array Oper}{i:Nat}{o:Oper}(ho:ops.toList[i]?=some o)(hc:ZlU E ops i=true)(hg:o.guard=none){S:St}{m:Mem}{K:St->Mem->Prop}
  (hl:∀q,o.op=.call q->Zd0 S q.args.toList=[]) (h:opG E ops o S m K):opG E ops o S m λS' m'=>K S' m'/\∀id,id ∉ Zc6 E o.dst->S'.L id=S.L id:=by
 unfold ZlU at hc
 rw[ho]at hc
 simp only at hc
 unfold opG at *
 simp only[hg]at h ⊢
 cases iO:o.op with
 | call q=>
  simp only[iO]at hc
  have hl:=hl q iO
  cases hq:q.callee with
  | invoke r n=>simp[hq]at hc
  | builtin b=>simp[hq]at hc
  | value f=>
   simp only[hq,Bool.and_eq_true]at hc
   obtain⟨hf,iD,iY,jb⟩:=hc
   have jb:ZqG E o.dst=false:=by simpa using jb
   obtain⟨ks,jy⟩:=Option.isSome_iff_exists.1 iD
   have iY:=ZiQ iY
   obtain⟨g0,rfl⟩:∃g0,f=.func g0:=by
    cases f <;> simp[ZwZ]at hf
    exact⟨_,rfl⟩
   unfold opW at *
   simp only[iO,hq]at h ⊢
   unfold ZuD at *
   simp only[iY]at h ⊢
   unfold ZuF at *
   simp only[St.ev,jy,jb,cond_false]at h ⊢
   cases cL:E.fix with
   | some f=>simp[cL]at h
   | none=>
    simp only[cL,Option.isSome_none,cond_false]at h ⊢
    refine Zb0 (λvs y=>?_) h
    rw[hl]at y ⊢
    refine ZjS (λv S' m' _ z=>⟨z.1,λid cR=>?_⟩) (Zp3 y)
    rw[Zte]
    exact z.2 id (by simpa using cR)
 | _=>simp[iO]at hc
theorem Zvn{E:Env}(hE:E.ok){F:Fence}(hF:FOk F)(hY:YOk E C){ops:Array Oper}(bF:ZlJ C.n ops.toList=true){id n:Nat}{Q:Exit->Act->World->Prop}(hQ:∀c a w,¬Q (.panic c) a w){K:St->Mem->Prop}
  (over:∀(fuel:Nat)(listed:Array Bool)(S':St)(m':Mem)(a':Act)(w':World),listed.size=ops.size->(∀j,j < ops.size->listed.getD j false=true)->K S' m'->Rel C S' m' a' w'->wpAnyIn F n E.P .any ops Q fuel listed a' w')
  {H T:List Nat} {S:St} (hr:Rel C S m a w) (h:Zw2 E id H T ops K S m):wpAnyIn F n E.P .any ops Q ops.size (Array.replicate ops.size false) a w:=by
 unfold Zw2 at h
 obtain⟨h1,h2⟩:=Zaf h
 simp only[Bool.and_eq_true]at h1
 have cN:=h1.2.2
 simp only[Zw0,Bool.and_eq_true,List.all_eq_true]at cN
 obtain⟨⟨⟨⟨⟨pU,ik,nj⟩,dR,sG⟩,nk⟩,dP,sH⟩,nn,gL⟩:=cN
 have pU:=Zaz pU
 have dR:=Zaz dR
 obtain⟨rd,sI,np⟩:=List.nodup_append.1 pU
 have ik:∀i,i < ops.size->i∈H\/i∈T:=λi hi=>List.mem_append.1 (ZaQ.1 (ik i (List.mem_range.2 hi)))
 have none0:∀j,(Array.replicate ops.size false).getD j false=false:=λj=>by simp[Array.getD]
 obtain⟨X0,vs,h3,iy,mJ,oE,ua,_,eF⟩:=Zl4 hE hY bF dR none0 hr h2 dP rd (by simp)
 have pV:(vs.map HV.i).Nodup:=by rw[iy];exact rd
 have pW:∀(i:Nat) o,ops[i]?=some o->ops.toList[i]?=some o:=λi o h=>by simpa using h
 have sJ:∀(i:Nat) o,ops.toList[i]?=some o->o.guard=none/\Zpw o=true:=λi o ho=>by
  have:=sG o (List.mem_of_getElem? ho)
  exact⟨Option.isNone_iff_eq_none.1 this.1,this.2⟩
 have iE:∀(i:Nat),i < ops.size->∀j∈Zds ops i,j < i:=λi hi j hj=>ZlP (nk i (List.mem_range.2 hi) j hj)
 have pat:∀{i:Nat} {o:Oper},ops.toList[i]?=some o->Zds ops i=Zb9 o:=λho=>by unfold Zds;rw[ho]
 have noUn:∀{listed:Array Bool} {i:Nat} {o:Oper},ops.toList[i]?=some o->(∀j∈Zb9 o,listed.getD j false=true)->∀q∈vs,listed.getD q.i false=false->q.d ∉ o.looksAt ops:=λ{listed i o} ho hp q hq g9 hm=>by
  obtain⟨oq,q1,q2,_⟩:=eF q hq
  have nq:q.i∈H:=by rw[<-iy];exact List.mem_map.2 ⟨q,hq,rfl⟩
  have hi:i < ops.size:=by
   have:=(List.getElem?_eq_some_iff.1 ho).1
   simpa using this
  rcases ik i hi with kg|nr
  ·obtain⟨j,hj,oj,iV,kR,_⟩:=Ze7 dP i o kg ho q.d hm (ZaP q1 q2)
   have:=ZcY dR q1 iV q2 kR
   rw[this,hp j hj]at g9;cases g9
  ·have h4:=sH i nr
   rw[ho]at h4
   simp only[List.all_eq_true]at h4
   have h5:=h4 q.i nq
   rw[q1]at h5
   simp only[Bool.or_eq_true]at h5
   rcases h5 with h5|h5
   ·simp only[Zn9,q2,Bool.not_eq_true']at h5
    rw[ZaQ.2 hm]at h5;cases h5
   ·rw[hp q.i (ZaQ.1 h5)]at g9;cases g9
 have dstH:∀{i:Nat} {o:Oper},i ∉ H->ops.toList[i]?=some o->∀q∈vs,o.dst≠some q.d:=λ{i o} hi ho q hq e=>by
  obtain⟨oq,q1,q2,_⟩:=eF q hq
  have:=ZcY dR q1 ho q2 e
  exact hi (by rw[<-this,<-iy];exact List.mem_map.2 ⟨q,hq,rfl⟩)
 have prd:∀{o:Oper} {listed:Array Bool},(∀e∈o.after,Region.binds .any e=true->listed.getD e.on false=true)->∀j∈Zb9 o,listed.getD j false=true:=λ{o listed} gm j hj=>by
  simp only[Zb9,List.mem_map,List.mem_filter]at hj
  obtain⟨e,⟨he,hb⟩,rfl⟩:=hj
  exact gm e (by simpa using he) hb
 have prd':∀{o:Oper} {listed:Array Bool},(∀j∈Zb9 o,listed.getD j false=true)->∀e∈o.after,Region.binds .any e=true->listed.getD e.on false=true:=λ{o listed} gm e he hb=>gm e.on (by
  simp only[Zb9,List.mem_map,List.mem_filter]
  exact⟨e,⟨by simpa using he,hb⟩,rfl⟩)
 have re:∃c oc q,T[0]?=some c/\ops.toList[c]?=some oc/\oc.op=.call q/\ZlU E ops c=true:=by
  cases T with
  | nil=>simp at gL
  | cons c T=>
   simp only at gL
   have h5:=gL
   unfold ZlU at h5
   cases j7:ops.toList[c]? with
   | none=>simp[j7]at h5
   | some oc=>
    simp only[j7]at h5
    cases iO:oc.op <;> simp only[iO]at h5 <;> try cases h5
    exact⟨c,oc,_,rfl,j7,iO,gL⟩
 obtain⟨c,oc,qc,oF,j7,rh,iD⟩:=re
 have nt:Zd8 ops T=oc::Zd8 ops (T.drop 1):=ZiS (p:=0) oF j7
 rw[nt]at h3
 simp only[rh]at h3
 obtain⟨h4,h5⟩:=Zaf h3
 have h4:=ZiQ h4
 have lJ:∀(k i:Nat) o d,T[k]?=some i->ops.toList[i]?=some o->o.dst=some d->d∈Zw1 E ops T:=λk i o d hk ho hd=>by
  unfold Zw1
  refine List.mem_append_right _ ?_
  have:Zd8 ops (T.drop k)=o::Zd8 ops (T.drop (k+1)):=ZiS hk ho
  have sub:∀(l:List Nat)(k:Nat),∀o∈Zd8 ops (l.drop k),(∀i∈l,∃o,ops.toList[i]?=some o)->o∈Zd8 ops l:=by
   intro l
   induction l with
   | nil=>intro k o h _;simp[Zd8]at h
   | cons x l ih=>
    intro k o h cB
    cases k with
    | zero=>exact h
    | succ k=>
     obtain⟨ox,j3⟩:=cB x (by simp)
     simp only[List.drop_succ_cons]at h
     simp only[Zd8,j3]
     exact List.mem_cons_of_mem _ (ih k o h (λi hi=>cB i (by simp[hi])))
  have cE:o∈Zd8 ops T:=sub T k o (by rw[this];simp) (λi hi=>by
   have:=ZlP (nj i (List.mem_append_right _ hi))
   exact⟨ops[i],by simp[this]⟩)
  obtain⟨i',hi'⟩:=List.getElem?_of_mem cE
  exact ZaP hi' hd
 have main:∀(fuel:Nat)(listed:Array Bool)(p:Nat)(X:St)(m':Mem)(a':Act)(w':World),listed.size=ops.size->(∀i,listed.getD i false=true->∀j∈Zds ops i,listed.getD j false=true)->
   (∀(k i:Nat),k < p->T[k]?=some i->listed.getD i false=true)->(∀(k i:Nat),p<=k->T[k]?=some i->listed.getD i false=false)->
   ((List.range ops.size).countP λj=>!listed.getD j false)<=fuel->(∀q∈vs,listed.getD q.i false=false->∀o,ops.toList[q.i]?=some o->Stab E C ops (Zw1 E ops T) X o q.v)->
   ((p=0/\X=X0/\m'=m)\/(0 < p/\Zi3 E ops K (Zd8 ops (T.drop p)) X m'))->Rel C X m' (fill listed vs a') w'->wpAnyIn F n E.P .any ops Q fuel listed a' w':=by
  intro fuel
  have fin:∀(fuel:Nat)(listed:Array Bool)(p:Nat)(X:St)(m':Mem)(a':Act)(w':World),(∀j,j < ops.size->listed.getD j false=true)->listed.size=ops.size->(∀(k i:Nat),p<=k->T[k]?=some i->listed.getD i false=false)->
    ((p=0/\X=X0/\m'=m)\/(0 < p/\Zi3 E ops K (Zd8 ops (T.drop p)) X m'))->Rel C X m' (fill listed vs a') w'->wpAnyIn F n E.P .any ops Q fuel listed a' w':=by
   intro fuel listed p X m' a' w' cB cD jl hk bH
   have kS:∀k i,T[k]?=some i->listed.getD i false=true:=λk i hk=>cB i (ZlP (nj i (List.mem_append_right _ (List.mem_of_getElem? hk))))
   have hp:T.length<=p:=Nat.le_of_not_lt λbF=>by
    have:=jl p T[p] (Nat.le_refl _) (List.getElem?_eq_getElem bF)
    rw[kS p T[p] (List.getElem?_eq_getElem bF)]at this;cases this
   have sK:fill listed vs a'=a':=Zq0 λq hq=>by
    obtain⟨oq,q1,_⟩:=eF q hq
    have:=(List.getElem?_eq_some_iff.1 q1).1
    exact cB q.i (by simpa using this)
   rw[sK]at bH
   rcases hk with⟨rfl,_⟩|⟨_,hk⟩
   ·have:=jl 0 c (Nat.le_refl _) oF
    rw[kS 0 c oF]at this;cases this
   ·rw[List.drop_eq_nil_of_le hp]at hk
    exact over fuel listed X m' a' w' cD cB hk bH
  induction fuel with
  | zero=>
   intro listed p X m' a' w' cD fR oG jl kT kh hk bH
   refine fin 0 listed p X m' a' w' (λj hj=>?_) cD jl hk bH
   have:=List.countP_eq_zero.1 (Nat.le_zero.1 kT) j (List.mem_range.2 hj)
   simpa using this
  | succ fuel ih=>
   intro listed p X m' a' w' cD fR oG jl kT kh hk bH
   by_cases cB:∀j,j < ops.size->listed.getD j false=true
   ·exact fin _ listed p X m' a' w' cB cD jl hk bH
   have dec:∀{i:Nat},i < ops.size->listed.getD i false=false->((List.range ops.size).countP λj=>!(listed.setIfInBounds i true).getD j false)<=fuel:=λ{i} hi g9=>by
    have:=ZjZ (p:=λj=>!listed.getD j false) (q:=λj=>!(listed.setIfInBounds i true).getD j false) (i:=i) (by simp[g9]) (λj=>by
     by_cases e:j=i
     ·subst e;rw[Zgr (by omega),ZeW];simp
     ·rw[getD_set_ne false (Ne.symm e),Zam e];simp) List.nodup_range (List.mem_range.2 hi)
    omega
   refine⟨λfA=>?_,λi hi=>?_⟩
   ·exfalso
    obtain⟨i,hi,ig⟩:=ZxF (p:=λi=>i < ops.size/\listed.getD i false=false) (by
     have:∃j,¬(j < ops.size->listed.getD j false=true):=Classical.not_forall.1 cB
     obtain⟨j,hj⟩:=this
     obtain⟨h6,h7⟩:=Classical.not_imp.1 hj
     exact⟨j,h6,by simpa using h7⟩)
    have hl:i < listed.size:=by omega
    have:i∈Region.ready .any ops listed:=mem_ready.2 ⟨by have:=hi.2;simp[Array.getD,hl]at this ⊢;exact this,ops[i],by simp[hi.1],prd' λj hj=>by
     have sL:=iE i hi.1 j (by rw[pat (o:=ops[i]) (by simp[hi.1])];exact hj)
     have:=ig j sL
     cases hb:listed.getD j false with
     | true=>rfl
     | false=>exact absurd ⟨by omega,hb⟩ this⟩
    rw[fA]at this;simp at this
   obtain⟨g9,o,ho',gm⟩:=mem_ready.1 hi
   have hi':i < ops.size:=(Array.getElem?_eq_some_iff.1 ho').1
   have hl:i < listed.size:=by omega
   have il:listed.getD i false=false:=by simp[Array.getD,hl]at g9 ⊢;exact g9
   have gm:=prd gm
   have ho:=pW i o ho'
   obtain⟨hg,pX⟩:=sJ i o ho
   have nu:∀k,(listed.setIfInBounds i true).getD k false=true->∀j∈Zds ops k,(listed.setIfInBounds i true).getD j false=true:=λk hk j hj=>by
    by_cases e:k=i
    ·subst e
     rw[pat ho]at hj
     exact getD_set_true (gm j hj)
    ·rw[getD_set_ne false (Ne.symm e)]at hk
     exact getD_set_true (fR k hk j hj)
   unfold wpOpIn
   simp only[ho']
   have hw:Region.wanted o (yielded ops a'.tmps)=true:=by unfold Region.wanted;rw[hg]
   rw[if_pos hw]
   have ri:=noUn ho gm
   by_cases kg:i∈H
   ·
    obtain⟨q,hq,rfl⟩:∃q∈vs,q.i=i:=by
     rw[<-iy]at kg
     obtain⟨q,h6,h7⟩:=List.mem_map.1 kg
     exact⟨q,h6,h7⟩
    obtain⟨oq,q1,q2,_⟩:=eF q hq
    rw[ho]at q1;cases q1
    have bK:=kh q hq il o ho X m' _ w' bH (λ_ _=>rfl) (λ_ _=>rfl)
    rw[Zoh (ops:=ops) pX ri]at bK
    refine⟨λf _=>hF.fn f,?_⟩
    rw[Oper.semAt_eq _ _ _ (Zgs pX),bK]
    show wpAnyIn F n E.P .any ops Q fuel (listed.setIfInBounds q.i true) (a'.put o.dst q.v) w'
    rw[q2]
    have nr:∀(k j:Nat),T[k]?=some j->q.i≠j:=λk j hk e=>np q.i kg j (List.mem_of_getElem? hk) e
    refine ih _ p X m' _ w' (by simpa using cD) nu (λk j h6 h7=>getD_set_true (oG k j h6 h7)) (λk j h6 h7=>by rw[getD_set_ne false (nr k j h7)];exact jl k j h6 h7) (dec hi' il) (λr hr rj oo pY=>kh r hr (by
     by_cases e:r.i=q.i
     ·rw[e];exact il
     ·rw[getD_set_ne false (Ne.symm e)]at rj;exact rj) oo pY) hk ?_
    rw[ZkN il hl hq pV mJ];exact bH
   ·
    have nr:=(ik i hi').resolve_left kg
    obtain⟨k,jm⟩:=List.getElem?_of_mem nr
    have oH:p<=k:=Nat.le_of_not_lt λbF=>by
     have:=oG k i bF jm
     rw[il]at this;cases this
    have sM:k=p:=by
     rcases Nat.lt_or_ge p k with bF|dC
     ·exfalso
      obtain⟨k,rfl⟩:∃k',k=k'+1:=⟨k - 1,by omega⟩
      have pZ:=(List.getElem?_eq_some_iff.1 jm).1
      have gE:T[k]?=some T[k]:=List.getElem?_eq_getElem (by omega)
      have:=(Znz nn k T[k] i gE jm).1
      rw[pat ho]at this
      have h6:=gm _ this
      rw[jl k T[k] (by omega) gE]at h6;cases h6
     ·omega
    subst sM
    have nv:=ZiS jm ho
    have iO:opG E ops o X m' λS2 m2=>Zi3 E ops K (Zd8 ops (T.drop (k+1))) S2 m2/\SameOut (dl o.dst) X S2/\((∀id,id ∉ Zw1 E ops T->S2.L id=X.L id)\/∀q∈vs,listed.getD q.i false=true):=by
     have so:∀{K:St->Mem->Prop},opG E ops o X m' K->opG E ops o X m' λS2 m2=>K S2 m2/\SameOut (dl o.dst) X S2:=λ{K} y=>ZdB (th:=true) (.inl rfl) (λS' m' hs _ z=>⟨z,hs⟩) y
     have gb:∀{K:St->Mem->Prop},Zu1 E ops o X m' K->opG E ops o X m' K:=λ{K} y=>by
      unfold Zu1 Zep at y
      simp only[hg]at y;exact y
     rcases hk with⟨rfl,rfl,rfl⟩|⟨pH,hk⟩
     ·rw[oF]at jm;cases jm
      rw[j7]at ho;cases ho
      refine ZdB (th:=true) (.inl rfl) (λS2 m2 _ _ z=>⟨z.1.1,z.1.2,.inl λid cR=>z.2 id λhm=>cR (by unfold Zw1;rw[nt];exact List.mem_append_left _ hm)⟩) (Zse j7 iD hg (λq hq=>by rw[rh]at hq;cases hq;exact h4) (so (gb h5)))
     ·rw[nv]at hk
      simp only[Zi3]at hk
      have h6:=so (gb hk)
      obtain⟨k,rfl⟩:∃k',k=k'+1:=⟨k - 1,by omega⟩
      have pZ:=(List.getElem?_eq_some_iff.1 jm).1
      rcases(Znz nn k T[k] i (List.getElem?_eq_getElem (by omega)) jm).2 with h7|h7
      ·refine ZdB (th:=true) (.inl rfl) (λS2 m2 _ _ z=>⟨z.1.1,z.1.2,.inl λid cR=>z.2 id λhm=>cR (lJ _ i o id jm ho hm)⟩) (ZtW ho h7 hg h6)
      ·refine ZdB (th:=true) (.inl rfl) (λS2 m2 _ _ z=>⟨z.1,z.2,.inr λq hq=>?_⟩) h6
       have nq:q.i∈H:=by rw[<-iy];exact List.mem_map.2 ⟨q,hq,rfl⟩
       exact Zoj (p:=λj=>listed.getD j false=true) fR (by rw[pat ho];exact gm) q.i (h7 q.i nq)
    have jI:=Zer hE hF hY (Zdn bF _ o ho) bH iO (n:=n) (Q:=Q) (next:=λaF w2=>∀a2,fill listed vs a2=aF->wpAnyIn F n E.P .any ops Q fuel (listed.setIfInBounds i true) a2 w2) (λS2 m2 aF w2 ⟨z1,z2,z3⟩ jJ a2 sN=>by
     subst sN
     have nw:i ∉ vs.map HV.i:=by rw[iy];exact kg
     refine ih _ (k+1) S2 m2 a2 w2 (by simpa using cD) nu (λk' j h6 h7=>?_) (λk' j h6 h7=>?_) (dec hi' il) (λq hq mq oq rk=>?_) (.inr ⟨by omega,z1⟩) (by rw[ZiR nw];exact jJ)
     ·by_cases e:k'=k
      ·subst e
       rw[jm]at h7;cases h7
       exact Zgr hl
      ·exact getD_set_true (oG k' j (by omega) h7)
     ·have dG:i≠j:=λe=>by
       subst e
       have:=(List.getElem?_inj (i:=k) (j:=k') (List.getElem?_eq_some_iff.1 jm).1 sI).1 (by rw[jm,h7])
       omega
      rw[getD_set_ne false dG];exact jl k' j (by omega) h7
     ·have sO:q.i≠i:=λe=>nw (e ▸ List.mem_map.2 ⟨q,hq,rfl⟩)
      rw[getD_set_ne false (Ne.symm sO)]at mq
      rcases z3 with z3|z3
      ·refine(kh q hq mq oq rk).next (λt ht=>z2 t λhm=>?_) z3
       have ja:o.dst=some t:=by
        cases hd:o.dst with
        | none=>simp[hd,dl]at hm
        | some d=>simp[hd,dl]at hm;rw[hm]
       have nq:q.i∈H:=by rw[<-iy];exact List.mem_map.2 ⟨q,hq,rfl⟩
       obtain⟨j,_,oj,iV,kR,hj⟩:=Ze7 dP q.i oq nq rk t ht (ZaP ho ja)
       have:=ZcY dR ho iV ja kR
       rcases hj with hj|hj
       ·cases hj
       ·exact kg (this ▸ hj)
      ·rw[z3 q hq]at mq;cases mq)
    have sP:Region.wanted o (yielded ops (fill listed vs a').tmps)=true:=by unfold Region.wanted;rw[hg]
    rw[if_pos sP]at jI
    have:=Zoi (ops:=ops) hQ pX (λq hq mq=>⟨ri q hq mq,dstH kg ho q hq⟩) jI
    exact Oper.wpIn_mono (λa2 w2 z=>z a2 rfl) this
 refine main ops.size _ 0 X0 m a w (by simp) (λi hi=>by rw[none0]at hi;cases hi) (λk i hk=>by omega) (λk i _ _=>none0 i) ?_ (λq hq _ o ho=>by
  obtain⟨oq,q1,_,q3⟩:=eF q hq
  rw[ho]at q1;cases q1;exact q3) (.inl ⟨rfl,rfl,rfl⟩) oE
 have:=List.countP_le_length (p:=λj=>!(Array.replicate ops.size false).getD j false) (l:=List.range ops.size)
 simpa using this
end
theorem ZkO:∀{l:List DOp} {p j:Nat},j∈ZwY l p->∃c∈l,c.i=p/\j∈c.an
 | [],p,j,h=>by simp[ZwY]at h
 | d::l,p,j,h=>by
  simp only[ZwY]at h
  cases hb:Nat.beq d.i p with
  | true=>simp only[hb,cond_true]at h;exact⟨d,by simp,Nat.eq_of_beq_eq_true hb,h⟩
  | false=>
   simp only[hb,cond_false]at h
   obtain⟨c,hc,h1⟩:=ZkO h
   exact⟨c,by simp[hc],h1⟩
theorem Zok{E:Env}{ops:Array Oper}:∀{r before l1:List DOp} {d:DOp} {l2:List DOp},Zi8 E ops r before=true->r=l1++d::l2->Zwm E ops d (l1.reverse++before)=true
 | [],before,l1,d,l2,h,e=>by simp at e
 | x::r,before,[],d,l2,h,e=>by
  simp only[Zi8,Bool.and_eq_true]at h
  simp at e
  rw[<-e.1];exact h.1
 | x::r,before,y::l1,d,l2,h,e=>by
  simp only[Zi8,Bool.and_eq_true]at h
  simp at e
  obtain⟨rfl,e⟩:=e
  have:=Zok h.2 e
  simpa using this
structure Fact (E:Env)(ops:Array Oper)(ds:List DOp)(d:DOp)(o:Oper):Prop where
 ok:DOk E ops d o
 vw:∀j,j∈d.vw->j∈d.an
 an:∀j,j∈d.an->j∈Zb9 o\/∃p∈Zb9 o,∃c∈ds,c.i=p/\j∈c.an
theorem ZkP{E:Env}{ops:Array Oper}{ds:List DOp}(h:Zi8 E ops ds []=true){l1 l2:List DOp}{d:DOp}(e:ds=l1++d::l2):
  ∃o,Fact E ops ds d o/\(∀p∈Zb9 o,∃c∈l1,c.i=p)/\(∀c∈l1,(c.i∈d.an\/ZqT ops c d=true)/\c.i≠d.i):=by
 have h1:=Zok h e
 simp only[List.append_nil]at h1
 unfold Zwm at h1
 split at h1
 ·cases h1
 ·rename_i o ho
  simp only[Bool.and_eq_true,List.all_eq_true,Bool.or_eq_true,List.any_eq_true]at h1
  obtain⟨⟨⟨⟨⟨⟨g1,g2⟩,g3⟩,g4,g5⟩,g6⟩,g7⟩,g8⟩:=h1
  have gw:∀c∈l1.reverse,c∈ds:=λc hc=>by rw[e];simp at hc ⊢;exact .inl hc
  refine⟨o,⟨⟨ho,g1,ZhG g2,ZhG g3⟩,ZhG g4,λj hj=>?_⟩,λp hp=>?_,λc hc=>⟨?_,?_⟩⟩
  ·rcases g6 j hj with h2|⟨p,hp,h2⟩
   ·exact .inl (ZaQ.1 h2)
   ·obtain⟨c,hc,h3,h4⟩:=ZkO (ZaQ.1 h2)
    exact .inr ⟨p,hp,c,gw c hc,h3,h4⟩
  ·have:=ZhG g5 p hp
   obtain⟨c,hc,h2⟩:=List.mem_map.1 this
   exact⟨c,by simpa using hc,h2⟩
  ·exact(g7 c (by simpa using hc)).imp ZaQ.1 id
  ·have:=g8 c (by simpa using hc)
   intro e;rw[e,ZeW]at this;simp at this
theorem Zgt{α:Type}{R:α->α->Prop}:∀{l:List α},(∀l1 d l2,l=l1++d::l2->∀c∈l1,R c d)->l.Pairwise R
 | [],_=>List.Pairwise.nil
 | x::l,h=>by
  refine List.Pairwise.cons (λy hy=>?_) (Zgt λl1 d l2 e c hc=>h (x::l1) d l2 (by simp[e]) c (by simp[hc]))
  obtain⟨s,t,rfl⟩:=List.append_of_mem hy
  exact h (x::s) y t (by simp) x (by simp)
structure Inv (ds:List DOp)(dn:Nat->Bool)(rem:List DOp):Prop where
 rem:rem=ds.filter λc=>!dn c.i
 closed:∀d∈ds,dn d.i=true->∀j,j∈d.an->dn j=true
section
variable {E:Env} {ops:Array Oper} {ds:List DOp} {dn:Nat->Bool}
theorem Inv.an_of{rem:List DOp}(h:Inv ds dn rem){d:DOp}{o:Oper}(hd:Fact E ops ds d o)(hp:∀p,p∈Zb9 o->dn p=true):∀j,j∈d.an->dn j=true:=λj hj=>by
 rcases hd.an j hj with h1|⟨p,h1,c,h2,h3,h4⟩
 ·exact hp j h1
 ·exact h.closed c h2 (h3 ▸ hp p h1) j h4
theorem Inv.step{r1 r2:List DOp}{d:DOp}(hp:ds.Pairwise λc d=>c.i≠d.i)(h:Inv ds dn (r1++d::r2))(hd:∀j,j∈d.an->dn j=true):Inv ds (λj=>dn j||Nat.beq j d.i) (r1++r2):=by
 have gm:(r1++d::r2).Pairwise λc d=>c.i≠d.i:=by rw[h.rem];exact hp.sublist List.filter_sublist
 refine⟨?_,λc hc rl j hj=>?_⟩
 ·have e:(ds.filter λc=>!(dn c.i||Nat.beq c.i d.i))=(r1++d::r2).filter λc=>!Nat.beq c.i d.i:=by
   rw[h.rem,List.filter_filter]
   congr 1;funext c
   cases dn c.i <;> simp
  rw[e,List.filter_append,List.filter_cons]
  simp only[ZeW,Bool.not_true,Bool.false_eq_true,if_false]
  rw[List.pairwise_append]at gm
  obtain⟨_,h2,h3⟩:=gm
  rw[List.pairwise_cons]at h2
  rw[List.filter_eq_self.2,List.filter_eq_self.2]
  ·intro c hc
   have:=h2.1 c hc
   simp[Zam (Ne.symm this)]
  ·intro c hc
   have:=h3 c hc d (by simp)
   simp[Zam this]
 ·simp only[Bool.or_eq_true]at rl ⊢
  rcases rl with h1|h1
  ·exact .inl (h.closed c hc h1 j hj)
  ·have:c=d:=by
    have kU:d∈ds:=by
     have:d∈ds.filter λc=>!dn c.i:=by rw[<-h.rem];simp
     exact(List.mem_filter.1 this).1
    have hi:=Nat.eq_of_beq_eq_true h1
    by_cases e:c=d
    ·exact e
    ·exfalso
     obtain⟨s,t,rfl⟩:=List.append_of_mem hc
     rw[List.pairwise_append,List.pairwise_cons]at hp
     simp only[List.mem_append,List.mem_cons]at kU
     rcases kU with kU|kU|kU
     ·exact hp.2.2 d kU c (by simp) hi.symm
     ·exact e kU.symm
     ·exact hp.2.1.1 d kU hi
   subst this
   exact .inl (hd j hj)
theorem Inv.head{d:DOp}{r:List DOp}(cN:Zi8 E ops ds []=true)(h:Inv ds dn (d::r)):∃o,Fact E ops ds d o/\∀p,p∈Zb9 o->dn p=true:=by
 obtain⟨l1,l2,h1,h2,h3,_⟩:=List.filter_eq_cons_iff.1 h.rem.symm
 obtain⟨o,hf,hp,_⟩:=ZkP cN h1
 refine⟨o,hf,λp mI=>?_⟩
 obtain⟨c,hc,rfl⟩:=hp p mI
 have:=h2 c hc
 simpa using this
theorem Inv.topo(cN:Zi8 E ops ds []=true)(hp:ds.Pairwise λc d=>c.i≠d.i):∀{r1 r2:List DOp} {dn:Nat->Bool},Inv ds dn (r1++r2)->Zwn (λj=>dn j=true) r1
 | [],r2,dn,h=>trivial
 | c::r1,r2,dn,h=>by
  obtain⟨o,hf,gm⟩:=h.head cN
  have mr:=h.an_of hf gm
  refine⟨λj hj=>mr j (hf.vw j hj),?_⟩
  have:=Inv.topo cN hp (r1:=r1) (r2:=r2) (Inv.step (r1:=[]) hp h mr)
  have e:(λj=>(dn j||Nat.beq j c.i)=true)=(λj=>dn j=true\/j=c.i):=by
   funext j
   rw[Bool.or_eq_true]
   exact propext ⟨λh=>h.imp id Nat.eq_of_beq_eq_true,λh=>h.imp id λe=>by rw[e];exact ZeW _⟩
  rw[e]at this
  exact this
end
theorem ZhI{ops:Array Oper}:∀{ds:List DOp} {j:Nat},j∈Zi2 ops ds->∃d∈ds,d.i=j
 | [],j,h=>by simp[Zi2]at h
 | d::r,j,h=>by
  simp only[Zi2]at h
  split at h
  ·obtain⟨c,hc,e⟩:=ZhI h;exact⟨c,by simp[hc],e⟩
  ·rename_i o _
   cases hg:ZdP o with
   | true=>
    simp only[hg,cond_true,List.mem_cons]at h
    rcases h with h|h
    ·exact⟨d,by simp,h.symm⟩
    ·obtain⟨c,hc,e⟩:=ZhI h;exact⟨c,by simp[hc],e⟩
   | false=>
    simp only[hg,cond_false]at h
    obtain⟨c,hc,e⟩:=ZhI h;exact⟨c,by simp[hc],e⟩
theorem ZkQ{ops:Array Oper}:∀{ds:List DOp},Zi2 ops ds=[]->∀d∈ds,∀o,ops.toList[d.i]?=some o->ZdP o=false
 | [],_,d,hd=>by simp at hd
 | c::r,h,d,hd=>λo ho=>by
  simp only[Zi2]at h
  rcases List.mem_cons.1 hd with rfl|hd
  ·simp only[ho]at h
   cases hg:ZdP o with
   | false=>rfl
   | true=>simp[hg]at h
  ·split at h
   ·exact ZkQ h d hd o ho
   ·rename_i oc _
    cases hg:ZdP oc with
    | true=>simp[hg]at h
    | false=>simp only[hg,cond_false]at h;exact ZkQ h d hd o ho
theorem Zol{C:Ctx}{E:Env}(hE:E.ok){F:Fence}(hF:FOk F)(hY:YOk E C){ops:Array Oper}(bF:ZlJ C.n ops.toList=true)(gH:E.fix=none){m0:Mem}{f:Fx}{ds:List DOp}(cN:Zi8 E ops ds []=true)
  {n e:Nat} {Q:Exit->Act->World->Prop} {K:St->Mem->Prop}
  (ik:∀(listed:Array Bool)(rem:List DOp) i,Inv ds (λj=>listed.getD j false) rem->(∀j,listed.getD j false=true->∃d∈ds,d.i=j)->listed.size=ops.size->i∈Region.ready .any ops listed->(∃d∈ds,d.i=i)\/∀d∈ds,listed.getD d.i false=true)
  (ij:∀(fuel:Nat)(listed:Array Bool)(S':St)(m':Mem)(a':Act)(w':World),e<=fuel->listed.size=ops.size->(∀d∈ds,listed.getD d.i false=true)->(∀j,listed.getD j false=true->∃d∈ds,d.i=j)->K S' m'->Rel C S' m' a' w'->wpAnyIn F n E.P .any ops Q fuel listed a' w'):
  ∀(fuel:Nat){listed:Array Bool}{rem:List DOp}{S:St}{μ:Nat->Mem}{A:Mem}{a:Act}{w:World},listed.size=ops.size->Inv ds (λj=>listed.getD j false) rem->rem.length+e<=fuel->Rel C S A a w->m0.le A->
   (∀j,listed.getD j false=true->(μ j).le A)->(∀j,listed.getD j false=true->∃d∈ds,d.i=j)->(Zi2 ops ds=[]->A=m0)->(∀d∈ds,(∀i,i∈d.ws->i∈S.ids)/\∀k,d.tk=some k->k∈S.tkeys)->
   Zi0 E ops m0 f rem (λS' μ=>Zwk m0 μ (Zi2 ops ds) λM=>K S' M) S μ->wpAnyIn F n E.P .any ops Q fuel listed a w:=by
 have jh:ds.Pairwise λc d=>(c.i∈d.an\/ZqT ops c d=true)/\c.i≠d.i:=Zgt λl1 d l2 e c hc=>by
  obtain⟨o,_,_,h⟩:=ZkP cN e
  exact h c hc
 have kP:ds.Pairwise λc d=>c.i≠d.i:=jh.imp λh=>h.2
 have factOf:∀d∈ds,∃o,Fact E ops ds d o:=λd hd=>by
  obtain⟨s,t,e⟩:=List.append_of_mem hd
  obtain⟨o,h,_⟩:=ZkP cN e
  exact⟨o,h⟩
 have allOf:∀{listed:Array Bool} {rem:List DOp},Inv ds (λj=>listed.getD j false) rem->rem=[]->∀d∈ds,listed.getD d.i false=true:=λeA he d hd=>by
  subst he
  have:=List.filter_eq_nil_iff.1 eA.rem.symm d hd
  simpa using this
 have fin:∀{fuel:Nat} {listed:Array Bool} {rem:List DOp} {S:St} {μ:Nat->Mem} {A:Mem} {a:Act} {w:World},listed.size=ops.size->Inv ds (λj=>listed.getD j false) rem->Rel C S A a w->m0.le A->(∀j,listed.getD j false=true->(μ j).le A)->(∀j,listed.getD j false=true->∃d∈ds,d.i=j)->(Zi2 ops ds=[]->A=m0)->
   Zi0 E ops m0 f rem (λS' μ=>Zwk m0 μ (Zi2 ops ds) λM=>K S' M) S μ->rem=[]->e<=fuel->wpAnyIn F n E.P .any ops Q fuel listed a w:=by
  intro fuel listed rem S μ A a w cD eA hr h0 hμ hl hg hn he kT
  have cB:=allOf eA he
  subst he
  refine ij fuel listed S A a w kT cD cB hl (Zr7 hn h0 hg λj hj=>?_) hr
  obtain⟨d,hd,rfl⟩:=ZhI hj
  exact hμ _ (cB d hd)
 have stuck:∀{listed:Array Bool} {rem:List DOp},listed.size=ops.size->Inv ds (λj=>listed.getD j false) rem->Region.ready .any ops listed=[]->rem=[]:=by
  intro listed rem cD eA fA
  cases rem with
  | nil=>rfl
  | cons d r=>
   exfalso
   obtain⟨o,hf,hp⟩:=eA.head cN
   have cE:d∈ds.filter λc=>!listed.getD c.i false:=by rw[<-eA.rem];simp
   have h1:=(List.mem_filter.1 cE).2
   have ho':ops[d.i]?=some o:=by simpa using hf.ok.at_
   have bQ:d.i < ops.size:=(Array.getElem?_eq_some_iff.1 ho').1
   have:d.i∈Region.ready .any ops listed:=mem_ready.2 ⟨by
    have hl:d.i < listed.size:=by omega
    simpa[Array.getD,hl]using h1,o,ho',λe he hb=>hp e.on (by
     simp only[Zb9,List.mem_map,List.mem_filter]
     exact⟨e,⟨by simpa using he,hb⟩,rfl⟩)⟩
   rw[fA]at this;simp at this
 intro fuel
 induction fuel with
 | zero=>
  intro listed rem S μ A a w cD eA bL hr h0 hμ kj hg dT hn
  have he:rem=[]:=List.eq_nil_of_length_eq_zero (by omega)
  exact fin cD eA hr h0 hμ kj hg hn he (by omega)
 | succ fuel ih=>
  intro listed rem S μ A a w cD eA bL hr h0 hμ kj hg dT hn
  by_cases lM:rem=[]
  ·exact fin cD eA hr h0 hμ kj hg hn lM (by omega)
  refine⟨λfA=>absurd (stuck cD eA fA) lM,λi hi=>?_⟩
  rcases ik listed rem i eA kj cD hi with⟨d,hd,rfl⟩|nA
  rotate_left
  ·exfalso
   apply lM
   rw[eA.rem,List.filter_eq_nil_iff]
   intro d hd
   simp[nA d hd]
  obtain⟨g9,o,ho,cB⟩:=mem_ready.1 hi
  have bQ:d.i < ops.size:=(Array.getElem?_eq_some_iff.1 ho).1
  have hl:d.i < listed.size:=by omega
  have il:listed.getD d.i false=false:=by simp[Array.getD,hl]at g9 ⊢;exact g9
  obtain⟨o',hf⟩:=factOf d hd
  have:o'=o:=by
   have h1:=hf.ok.at_
   have h2:ops.toList[d.i]?=some o:=by simpa using ho
   rw[h1]at h2;exact Option.some.inj h2
  subst this
  have gm:∀p,p∈Zb9 o'->listed.getD p false=true:=λp hp=>by
   simp only[Zb9,List.mem_map,List.mem_filter]at hp
   obtain⟨e,⟨he,hb⟩,rfl⟩:=hp
   exact cB e (by simpa using he) hb
  have mr:=eA.an_of hf gm
  have sQ:d∈rem:=by rw[eA.rem];exact List.mem_filter.2 ⟨hd,by simp[il]⟩
  obtain⟨r1,r2,rfl⟩:=List.append_of_mem sQ
  have dD:(r1++d::r2).Sublist ds:=by rw[eA.rem];exact List.filter_sublist
  have nB:=jh.sublist dD
  have gv:∀c∈r1,ZqT ops c d=true:=λc hc=>by
   rw[List.pairwise_append]at nB
   rcases(nB.2.2 c hc d (by simp)).1 with h1|h1
   ·have h2:=mr _ h1
    have oI:c∈ds.filter λc=>!listed.getD c.i false:=by rw[<-eA.rem];simp[hc]
    have h3:=(List.mem_filter.1 oI).2
    rw[h2]at h3;cases h3
   ·exact h1
  have gw:∀c∈r1++d::r2,c∈ds:=λc hc=>dD.subset hc
  have hT:=extract hE hF hY bF gH (r1:=r1) (D:=λj=>listed.getD j false=true) hr h0 hμ (eA.topo cN kP) (λc hc=>by
   obtain⟨oc,kB⟩:=factOf c (gw c (by simp[hc]))
   exact⟨⟨oc,kB.ok⟩,dT c (gw c (by simp[hc]))⟩) gv hn
  refine ZqX hE hF hY bF gH hf.ok (dT d hd).1 (dT d hd).2 hr h0 (λj hj=>hμ j (mr j (hf.vw j hj))) hT ?_
  intro S' m' A' a' w' fH bH hA hm sR
  have nC:(λj=>(listed.setIfInBounds d.i true).getD j false)=λj=>listed.getD j false||Nat.beq j d.i:=by
   funext j
   by_cases hj:j=d.i
   ·subst hj;simp[Array.getD,hl]
   ·have:Nat.beq j d.i=false:=Zam hj
    rw[getD_set_ne false (Ne.symm hj),this,Bool.or_false]
  refine ih (rem:=r1++r2) (S:=ZpV ops d S S') (μ:=upd μ d.i m') (A:=A') (by simpa using cD) ?_ (by simp at bL ⊢;omega) bH (mLt h0 hA) ?_ ?_ ?_ ?_ (ZqW hf.ok.ws gv hn fH)
  ·rw[nC];exact eA.step kP mr
  ·intro j hj
   have hj':(listed.getD j false||Nat.beq j d.i)=true:=by rw[<-hj];exact(congrFun nC j).symm
   by_cases e:j=d.i
   ·subst e;rw[ZqY];exact hm
   ·rw[Zvm e]
    rw[Zam e,Bool.or_false]at hj'
    exact mLt (hμ j hj') hA
  ·intro j hj
   have hj':(listed.getD j false||Nat.beq j d.i)=true:=by rw[<-hj];exact(congrFun nC j).symm
   rw[Bool.or_eq_true]at hj'
   rcases hj' with h|h
   ·exact kj j h
   ·exact⟨d,hd,(Nat.eq_of_beq_eq_true h).symm⟩
  ·intro rm
   rw[sR (ZkQ rm d hd o' hf.ok.at_)]
   exact hg rm
  ·intro c hc
   rw[(ZkM ops d S S').1,(ZkM ops d S S').2]
   exact dT c hc
theorem Zom:∀{ds:List DOp} {d:DOp} {i:Nat},d∈ds->i∈d.ws->i∈Zvf ds
 | [],d,i,hd,_=>by simp at hd
 | c::r,d,i,hd,hi=>by
  simp only[Zvf,List.mem_append]
  rcases List.mem_cons.1 hd with rfl|hd
  ·exact .inl hi
  ·exact .inr (Zom hd hi)
theorem Zon:∀{ds:List DOp} {d:DOp} {k:Nat},d∈ds->d.tk=some k->k∈ZuL ds
 | [],d,k,hd,_=>by simp at hd
 | c::r,d,k,hd,hk=>by
  simp only[ZuL]
  rcases List.mem_cons.1 hd with rfl|hd
  ·simp[hk]
  ·have:=Zon hd hk
   cases c.tk <;> simp[this]
theorem Zoo{C:Ctx}{S:St}{m:Mem}{a:Act}{w:World}(h:Rel C S m a w)(ds:List DOp):Rel C (ZkJ ds S) m a w:=
 h.restrict rfl rfl (λ_ _ hx=>hx) (λ_ _ ht=>.inl ht) (λi sv he=>by
  obtain⟨v,h1,h2⟩:=h.env i sv he
  exact⟨v,by cases sv <;> exact h1,h2⟩) (λid x hx=>by simp only[ZkJ];exact List.mem_append_right _ (h.ids id x hx)) (λk t ht=>by simp only[ZkJ];exact List.mem_append_right _ (h.tkeys k t ht))
theorem Zl5{E:Env}(hE:E.ok)(eM:E.P.follows .mixedOrders=true):Zet E (ZkK E):=by
 intro C F hF hY n id ops K S m a w Q bF hr h hK
 have over0:∀{Q:Exit->Act->World->Prop},(∀S' m' a' w',K S' m'->Rel C S' m' a' w'->Q .normal a' w')->∀(fuel:Nat)(listed:Array Bool)(S':St)(m':Mem)(a':Act)(w':World),listed.size=ops.size->(∀j,j < ops.size->listed.getD j false=true)->K S' m'->Rel C S' m' a' w'->wpAnyIn F n E.P .any ops Q fuel listed a' w':=by
  intro Q hK fuel listed S' m' a' w' cD cB hk bH
  have fC:Region.ready .any ops listed=[]:=by
   cases fA:Region.ready .any ops listed with
   | nil=>rfl
   | cons i l=>
    exfalso
    have hi:i∈Region.ready .any ops listed:=by rw[fA];simp
    obtain⟨g9,o,ho,_⟩:=mem_ready.1 hi
    have bQ:i < ops.size:=(Array.getElem?_eq_some_iff.1 ho).1
    have h1:=cB i bQ
    have hl:i < listed.size:=by omega
    simp[Array.getD,hl]at g9 h1
    rw[g9]at h1;cases h1
  cases fuel with
  | zero=>exact⟨fC,hK _ _ _ _ hk bH⟩
  | succ fuel=>exact⟨λ_=>hK _ _ _ _ hk bH,λi hi=>by rw[fC]at hi;simp at hi⟩
 have over:=over0 hK
 unfold ZkK at h
 cases hh:E.mix id with
 | some q=>
  obtain⟨H,T⟩:=q
  simp only[hh]at h
  have:=wpIn_region_any (F:=F) (n:=n) (id:=id) (Q:=λe a w=>e=.normal/\Q .normal a w) eM (Zvn hE hF hY bF (λc a w h=>nomatch h.1) (over0 λS' m' a' w' h1 h2=>⟨rfl,hK S' m' a' w' h1 h2⟩) hr.drew h)
  exact wpIn_mono this λe a w h=>by
   obtain⟨rfl,h⟩:=h;exact h
 | none=>
 simp only[hh]at h
 obtain⟨h1,h2⟩:=Zaf h
 obtain⟨f,h2⟩:=ZtQ h2
 have h2:Zi0 E ops m f (E.dr id) (λS' μ=>Zwk m μ (Zi2 ops (E.dr id)) λM=>bif E.last id then Zr2 E ops (E.lastK id) K S' M else K S' M) (ZkJ (E.dr id) S) (λ_=>m):=by
  cases nh:E.gb with
  | false=>simp only[nh,cond_false]at h2;exact h2
  | true=>simp only[nh,cond_true]at h2;exact ZjX h2
 simp only[Zvg,Bool.and_eq_true,List.all_eq_true,List.any_eq_true]at h1
 obtain⟨⟨⟨⟨ik,bL⟩,cN⟩,gH⟩,fI⟩:=h1
 refine wpIn_region_any eM ?_
 have gN:∀i,i < (bif E.last id then ops.size - E.lastK id else ops.size)->∃d∈E.dr id,d.i=i:=λi hi=>by
  obtain⟨d,hd,e⟩:=ik i (List.mem_range.2 hi)
  exact⟨d,hd,Nat.eq_of_beq_eq_true e⟩
 have bL:(E.dr id).length<=ops.size:=Nat.le_of_ble_eq_true bL
 have inv0:Inv (E.dr id) (λj=>(Array.replicate ops.size false).getD j false) (E.dr id):=by
  refine⟨(List.filter_eq_self.2 λc hc=>?_).symm,λd hd nC=>?_⟩
  ·simp[Array.getD]
  ·simp[Array.getD]at nC
 have none0:∀j,(Array.replicate ops.size false).getD j false=true->False:=λj hj=>by simp[Array.getD]at hj
 have ids0:∀d∈E.dr id,(∀i,i∈d.ws->i∈(ZkJ (E.dr id) S).ids)/\∀k,d.tk=some k->k∈(ZkJ (E.dr id) S).tkeys:=λd hd=>
  ⟨λi hi=>List.mem_append_left _ (Zom hd hi),λk hk=>List.mem_append_left _ (Zon hd hk)⟩
 cases hl:E.last id with
 | false=>
  simp only[hl,cond_false]at h2 gN
  refine Zol hE hF hY bF (by simpa using gH) cN (e:=0) (λlisted _ i _ _ _ hi=>.inl ?_) (λfuel listed S' m' a' w' _ cD cB _ hk bH=>over fuel listed S' m' a' w' cD (λj hj=>by obtain⟨d,hd,rfl⟩:=gN j hj;exact cB d hd) hk bH) ops.size (rem:=E.dr id) (A:=m) (by simp) inv0 (by omega) ((Zoo hr.drew (E.dr id))) (Mem.le_refl m) (λj hj=>(none0 j hj).elim) (λj hj=>(none0 j hj).elim) (λ_=>rfl) ids0 h2
  obtain⟨_,o,ho,_⟩:=mem_ready.1 hi
  exact gN i (Array.getElem?_eq_some_iff.1 ho).1
 | true=>
  simp only[hl,cond_true]at h2 gN fI
  generalize E.lastK id=k at *
  unfold Zvh at fI
  simp only[Bool.and_eq_true,List.all_eq_true]at fI
  obtain⟨⟨jy,nD⟩,sS⟩:=fI
  have jy:=Nat.le_of_ble_eq_true jy
  have iP:∀i,ops.size - k<=i->i < ops.size->∃o,ops[i]?=some o/\(∀j,ops.size - k<=j->j < i->j∈Zb9 o)/\(∀j∈Zb9 o,j < i)/\(i=ops.size - k->∀j,j < ops.size - k->j∈Zb9 o\/∃p∈Zb9 o,∃c∈E.dr id,c.i=p/\j∈c.an):=by
   intro i h1 h2
   have:=nD (i - (ops.size - k)) (List.mem_range.2 (by omega))
   rw[show ops.size - k+(i - (ops.size - k))=i by omega]at this
   split at this
   ·cases this
   ·rename_i o ho
    simp only[Bool.and_eq_true,List.all_eq_true]at this
    refine⟨o,by simpa using ho,λj oJ hj=>?_,λj hj=>Nat.le_of_ble_eq_true (this.2.1 j hj),λhi j hj=>?_⟩
    ·have h3:=ZaQ.1 (this.1 (j - (ops.size - k)) (List.mem_range.2 (by omega)))
     rw[show ops.size - k+(j - (ops.size - k))=j by omega]at h3
     exact h3
    ·have h3:=this.2.2
     rw[hi,Nat.sub_self]at h3
     simp only[show Nat.beq 0 0=true from rfl,cond_true,List.all_eq_true,Bool.or_eq_true,List.any_eq_true]at h3
     rcases h3 j (List.mem_range.2 hj)with h4|⟨p,hp,h4⟩
     ·exact .inl (ZaQ.1 h4)
     ·obtain⟨c,hc,h5,h6⟩:=ZkO (ZaQ.1 h4)
      exact .inr ⟨p,hp,c,hc,h5,h6⟩
  have km:∀d∈E.dr id,d.i < ops.size - k:=λd hd=>Nat.le_of_ble_eq_true (sS d hd)
  have ub:(E.dr id).length+k<=ops.size:=by
   have kP:(E.dr id).Pairwise λc d=>c.i≠d.i:=Zgt λl1 d l2 e c hc=>by
    obtain⟨o,_,_,h⟩:=ZkP cN e
    exact(h c hc).2
   have dR:((E.dr id).map (·.i)).Nodup:=by
    unfold List.Nodup
    rw[List.pairwise_map]
    exact kP
   have:=List.Nodup.length_le_of_subset dR (l₂:=List.range (ops.size - k)) (λj hj=>by
    obtain⟨d,hd,rfl⟩:=List.mem_map.1 hj
    exact List.mem_range.2 (km d hd))
   simp at this
   omega
  have tail:∀(r:List Oper)(i:Nat),ops.toList.drop i=r->ops.size - k<=i->i<=ops.size->∀(fuel:Nat)(listed:Array Bool)(S':St)(m':Mem)(a':Act)(w':World),r.length<=fuel->listed.size=ops.size->(∀j,j < i->listed.getD j false=true)->(∀j,i<=j->listed.getD j false=false)->Zi3 E ops K r S' m'->Rel C S' m' a' w'->wpAnyIn F n E.P .any ops Q fuel listed a' w':=by
   intro r
   induction r with
   | nil=>
    intro i hi h1 h2 fuel listed S' m' a' w' _ cD cB _ hk bH
    have:ops.size<=i:=by
     have:=congrArg List.length hi
     simp at this
     omega
    exact over fuel listed S' m' a' w' cD (λj hj=>cB j (by omega)) hk bH
   | cons o r ih=>
    intro i hi h1 h2 fuel listed S' m' a' w' kT cD cB eK hk bH
    have eB:i < ops.size:=by
     have:=congrArg List.length hi
     simp at this
     omega
    obtain⟨o',ho',rn,gl,_⟩:=iP i h1 eB
    have ro:ops.toList[i]?=some o:=by
     have:=congrArg (λl=>l[0]?) hi
     simpa using this
    have pY:o'=o:=by
     have:ops.toList[i]?=some o':=by simpa using ho'
     rw[ro]at this;cases this;rfl
    subst pY
    have sT:ops.toList.drop (i+1)=r:=by
     have:=congrArg (List.drop 1) hi
     simpa[List.drop_drop,Nat.add_comm]using this
    obtain⟨fuel,rfl⟩:∃k,fuel=k+1:=⟨fuel - 1,by simp at kT;omega⟩
    have g9:listed.getD i false=false:=eK i (Nat.le_refl _)
    have fV:i < listed.size:=by omega
    refine⟨λfA=>?_,λq hq=>?_⟩
    ·exfalso
     have:i∈Region.ready .any ops listed:=mem_ready.2 ⟨by simpa[Array.getD,fV]using g9,o',ho',λe he hb=>?_⟩
     ·rw[fA]at this;simp at this
     ·have hm:e.on∈Zb9 o':=by
       simp only[Zb9,List.mem_map,List.mem_filter]
       exact⟨e,⟨by simpa using he,hb⟩,rfl⟩
      exact cB _ (gl _ hm)
    ·obtain⟨rp,o2,gW,gm⟩:=mem_ready.1 hq
     have hq':q < ops.size:=(Array.getElem?_eq_some_iff.1 gW).1
     have:q=i:=by
      by_cases h3:q < i
      ·have h4:=cB q h3
       have hl:q < listed.size:=by omega
       simp[Array.getD,hl]at rp h4
       rw[rp]at h4;cases h4
      ·by_cases h4:q=i
       ·exact h4
       ·exfalso
        obtain⟨o3,p6,p7,_⟩:=iP q (by omega) hq'
        rw[p6]at gW;cases gW
        have:=p7 i h1 (by omega)
        simp only[Zb9,List.mem_map,List.mem_filter]at this
        obtain⟨e,⟨he,hb⟩,h5⟩:=this
        have:=gm e (by simpa using he) hb
        rw[h5,g9]at this;cases this
     subst this
     simp only[Zi3]at hk
     have:=ZlK hE hF hY (Zdn bF _ o' ro) bH hk (n:=n) (Q:=Q) (next:=wpAnyIn F n E.P .any ops Q fuel (listed.setIfInBounds q true)) (λS2 m2 a2 w2 fE jJ=>ih (q+1) sT (by omega) (by omega) fuel _ S2 m2 a2 w2 (by simp at kT;omega) (by simpa using cD) (λj hj=>by
      by_cases e:j=q
      ·subst e;simp[Array.getD,fV]
      ·rw[getD_set_ne false (Ne.symm e)]
       exact cB j (by omega)) (λj hj=>by
      rw[getD_set_ne false (by omega)]
      exact eK j (by omega)) fE jJ)
     unfold wpOpIn
     simp only[ho']
     exact this
  refine Zol hE hF hY bF (by simpa using gH) cN (e:=k) (λlisted rem i eA kj cD hi=>?_) (λfuel listed S' m' a' w' kT cD cB kj hk bH=>?_) ops.size (rem:=E.dr id) (A:=m) (by simp) inv0 (by omega) ((Zoo hr.drew (E.dr id))) (Mem.le_refl _) (λj hj=>(none0 j hj).elim) (λj hj=>(none0 j hj).elim) (λ_=>rfl) ids0 h2
  ·obtain⟨_,o2,gW,cB⟩:=mem_ready.1 hi
   have hi':i < ops.size:=(Array.getElem?_eq_some_iff.1 gW).1
   by_cases ie:i < ops.size - k
   ·exact .inl (gN i ie)
   ·right
    obtain⟨o3,p6,p7,_,sU⟩:=iP i (by omega) hi'
    have sV:o2=o3:=by rw[p6]at gW;cases gW;rfl
    subst sV
    have iE:∀j∈Zb9 o2,listed.getD j false=true:=λj hj=>by
     simp only[Zb9,List.mem_map,List.mem_filter]at hj
     obtain⟨e,⟨he,hb⟩,h3⟩:=hj
     have:=cB e (by simpa using he) hb
     rw[h3]at this
     exact this
    intro d hd
    by_cases sW:i=ops.size - k
    ·rcases sU sW d.i (km d hd)with h3|⟨p,hp,c,hc,h3,h4⟩
     ·exact iE _ h3
     ·exact eA.closed c hc (h3 ▸ iE p hp) d.i h4
    ·exfalso
     have h3:=iE _ (p7 (ops.size - k) (Nat.le_refl _) (by omega))
     obtain⟨d',hd',h4⟩:=kj _ h3
     have:=km d' hd'
     omega
  ·unfold Zr2 at hk
   refine tail _ (ops.size - k) rfl (Nat.le_refl _) (Nat.sub_le _ _) fuel listed S' m' a' w' (by simp;omega) cD (λj hj=>?_) (λj hj=>?_) hk bH
   ·obtain⟨d,hd,rfl⟩:=gN j hj
    exact cB d hd
   ·cases hb:listed.getD j false with
    | false=>rfl
    | true=>
     obtain⟨d,hd,h3⟩:=kj _ hb
     have:=km d hd
     omega
theorem Rel.ptrS{C:Ctx}{S:St}{m:Mem}{a:Act}{w:World}(h:Rel C S m a w)(ts:List Nat):Rel C (ptrS S ts) m a w:=by
 refine h.restrict rfl rfl (λ_ _ hx=>hx) (λ_ _ ht=>.inl ht) (λt sv he=>?_) h.ids h.tkeys
 have den:∀sv,(Eng.ptrS S ts).den sv=S.den sv:=λsv=>by cases sv <;> rfl
 rw[den]
 have he:(bif mem ts t then Zxq S (S.env t)else S.env t)=some sv:=he
 cases hm:mem ts t with
 | false=>rw[hm]at he;exact h.env t sv he
 | true=>
  rw[hm,cond_true]at he
  unfold Zxq at he
  split at he
  ·rename_i i off hi
   cases hx:S.L i with
   | none=>simp[hx]at he
   | some x=>
    simp only[hx,Option.some.injEq]at he
    subst he
    obtain⟨v,h1,h2⟩:=h.env t _ hi
    simp only[St.den,hx]at h1
    cases h1
    exact⟨_,rfl,h2⟩
  ·exact h.env t sv he
theorem Zq1{E:Env}(hE:E.ok)(eM:E.P.follows .mixedOrders=true){C:Ctx}{F:Fence}(hF:FOk F)(hY:YOk E C)(n:Nat)(id:Nat)(ops:Array Oper){K:St->Mem->Prop}{S2:St}{m2:Mem}{a:Act}{w:World}{Q:Exit->Act->World->Prop}
  (bF:ZlJ C.n ops.toList=true) (fK:Rel C S2 m2 a w) (h2:Zw3 (E.ptrAt id) (ZaC ops.toList) (ZkK E id ops) K S2 m2) (hK:∀S' m' a' w',K S' m'->Rel C S' m' a' w'->Q .normal a' w'):(Code.region id ops true).wpIn F n E.P Q a w:=by
 unfold Zw3 at h2
 split at h2
 ·exact Zl5 hE eM hF hY n id ops bF fK h2 hK
 ·rename_i t0 tl lp
  obtain⟨h3,h4⟩:=Zaf h2
  generalize E.ptrAt id=ts at *
  have h5:=ZkL E id ops _ (λS' m'=>SameOut (ZaC ops.toList) (ptrS S2 ts) S'/\Zi9 S2 S' ts (K (Zvj S2 S' ts) m')) _ m2 (λS' m' hs _ y=>⟨hs,y⟩) h4
  refine Zl5 hE eM hF hY n id ops bF (fK.ptrS ts) h5 (λS' m' a' w' hk bH=>?_)
  obtain⟨hs,hk⟩:=hk
  obtain⟨hk,hp⟩:=Zgq hk
  refine hK _ m' a' w' hk (bH.restrict rfl rfl (λ_ _ hx=>hx) (λ_ _ ht=>.inl ht) (λt sv he=>?_) bH.ids bH.tkeys)
  have den:∀sv,(Zvj S2 S' ts).den sv=S'.den sv:=λsv=>by cases sv <;> rfl
  rw[den]
  have he:(bif mem ts t then S2.env t else S'.env t)=some sv:=he
  cases hm:mem ts t with
  | false=>rw[hm]at he;exact bH.env t sv he
  | true=>
   rw[hm,cond_true]at he
   have oz:=ZaQ.1 hm
   have dR:t ∉ ZaC ops.toList:=λhd=>by
    have:=List.all_eq_true.1 h3 t oz
    simp[ZaQ.2 hd]at this
   have h6:=hs t dR
   have h7:(ptrS S2 ts).env t=Zxq S2 (S2.env t):=by show(bif mem ts t then _ else _)=_;rw[hm];rfl
   rcases hp t oz with⟨i,off,q1,q2⟩|⟨v,q1⟩
   ·rw[q1]at he;cases he
    obtain⟨v,r1,r2⟩:=fK.env t _ q1
    simp only[St.den]at r1
    cases hx:S2.L i with
    | none=>simp[hx]at r1
    | some x=>
     rw[q1]at h7
     simp only[Zxq,hx]at h7
     obtain⟨u,r3,r4⟩:=bH.env t _ (h6.trans h7)
     simp only[St.den]at r3;cases r3
     refine⟨_,?_,r4⟩
     simp only[St.den,q2,hx]
   ·rw[q1]at he;cases he
    rw[q1]at h7
    exact bH.env t _ (h6.trans h7)
theorem ZkR{E:Env}(hE:E.ok)(eM:E.P.follows .mixedOrders=true):Zet E (Zbh E):=by
 intro C F hF hY n id ops K S m a w Q bF hr h hK
 obtain⟨S2,m2,fK,h2⟩:=ZiH hr h
 unfold Zu2 at h2
 split at h2
 ·exact Zq1 hE eM hF hY n id ops bF fK h2 hK
 ·rename_i key esz _
  obtain⟨h3,h4⟩:=Zaf h2
  cases eH:E.m0 with
  | none=>simp[eH]at h4
  | some mm=>
   simp only[eH]at h4
   obtain⟨z0,p,n',c,z1,z2,z3⟩:=h4
   refine Zq1 hE eM hF hY n id ops bF (fK.acq hY eH z0 z1 z2) z3 (λS' m' a' w' hk bH=>?_)
   split at hk
   ·exact hk.elim
   ·rename_i t ht
    obtain⟨gE,fE⟩:=Zaf hk
    obtain⟨zs,kM,jZ⟩:=bH.unacq ht
    exact hK _ _ _ _ (fE zs kM) jZ
def Zja(fn:Func):Code:=match fn.body with
 | some c=>c
 | none=>.skip
def Env.at(E:Env)(m:Mem):Env:={ E with m0:=some m }
def FW(E:Env)(fn:Func)(svs:List SV)(xs:List Box)(m:Mem)(R:Value->Mem->List (List Value)->Prop):Prop:=
 W (E.at m) (Zbh (E.at m)) (Zja fn) (Zx1 (E.at m) fn.results.toList m xs R) (S0 svs xs) m
def ZxG(E:Env)(fn:Func)(svs:List SV)(xs:List Box):Bool:=
 !(fn.name == "runtime.NumGoroutine")&&fn.body.isSome&&Zas E (Zja fn)&&Zbp fn.ntmps (Zja fn)&&ZuK E.frz&&(E.yl.isNone&&E.ylY.isNone)&&Nat.ble svs.length fn.ntmps&&Znp xs svs
theorem Zgu{fn:Func}(h:fn.body.isSome=true):fn.body=some (Zja fn):=by
 unfold Zja
 cases hb:fn.body with
 | none=>rw[hb]at h;cases h
 | some c=>rfl
theorem ZbB(E:Env)(m:Mem):∀c:Code,Zas (E.at m) c=Zas E c
 | .region _ _ _=>rfl
 | .seq a b=>by simp only[Zas,ZbB E m a,ZbB E m b];rfl
 | .cond _ a b=>by simp only[Zas,ZbB E m a,ZbB E m b]
 | .block _ a=>by simp only[Zas,ZbB E m a]
 | .loop a=>by simp only[Zas,ZbB E m a];rfl
 | .rangeFunc _ _ a b=>by simp only[Zas,ZbB E m a,ZbB E m b]
 | .scope a=>by simp only[Zas,ZbB E m a]
 | .skip=>rfl
 | .label _=>rfl
 | .goto _=>rfl
 | .exit _=>rfl
 | .ret=>rfl
 | .refuse _=>rfl
theorem Zad{E:Env}(hE:E.ok)(eM:E.P.follows .mixedOrders=true){g:FuncId}{fn:Func}(hf:E.P.funcs[g]?=some fn){m:Mem}{R:Value->Mem->List (List Value)->Prop}(svs:List SV)(xs:List Box)
  (cN:ZxG E fn svs xs=true) (h:FW E fn svs xs m R):CX E.P g (svs.map (Zrv xs)).toArray m xs R:=by
 simp only[ZxG,Bool.and_eq_true,Bool.not_eq_true']at cN
 obtain⟨⟨⟨⟨⟨⟨⟨h1,h2⟩,h3⟩,h4⟩,h5⟩,h8⟩,h6⟩,h7⟩:=cN
 exact Zu7 (E:=E.at m) hE (Zny _) (ZkR (E:=E.at m) hE eM) hf h1 (Zgu h2) (by rw[ZbB];exact h3) h4 h5 (show E.yl=none/\E.ylY=none by simpa using h8) (λmm gC=>Option.some.inj gC) svs xs h6 h7 h
theorem ZaR(E:Env)(l:Nat)(xs:List (List Value)):∀c:Code,Zas (E.yields l xs) c=Zas E c
 | .region _ _ _=>rfl
 | .seq a b=>by simp only[Zas,ZaR E l xs a,ZaR E l xs b];rfl
 | .cond _ a b=>by simp only[Zas,ZaR E l xs a,ZaR E l xs b]
 | .block _ a=>by simp only[Zas,ZaR E l xs a]
 | .loop a=>by simp only[Zas,ZaR E l xs a];rfl
 | .rangeFunc _ _ a b=>by simp only[Zas,ZaR E l xs a,ZaR E l xs b]
 | .scope a=>by simp only[Zas,ZaR E l xs a]
 | .skip=>rfl
 | .label _=>rfl
 | .goto _=>rfl
 | .exit _=>rfl
 | .ret=>rfl
 | .refuse _=>rfl
def FWI(E:Env)(fn:Func)(first captured:List Value)(m:Mem)(xs:List (List Value)):Prop:=
 ∀l,W (E.yields l xs) (Zbh (E.yields l xs)) (Zja fn) (ZwX E fn.results.toList xs.length) (S0 ((first++.func (.yield l) #[] #[]::captured).map .v) []) m
def Zw4(E:Env)(fn:Func)(k:Nat):Bool:=
 !(fn.name == "runtime.NumGoroutine")&&fn.body.isSome&&Zas E (Zja fn)&&Zbp fn.ntmps (Zja fn)&&Nat.ble (k+1) fn.ntmps
theorem ZkS{E:Env}(hE:E.ok)(eM:E.P.follows .mixedOrders=true){g:FuncId}{fn:Func}(hf:E.P.funcs[g]?=some fn){m:Mem}(first captured:List Value)(xs:List (List Value))
  (cN:Zw4 E fn (first.length+captured.length)=true) (h:FWI E fn first captured m xs):IX E.P g first captured m xs:=by
 simp only[Zw4,Bool.and_eq_true,Bool.not_eq_true']at cN
 obtain⟨⟨⟨⟨h1,h2⟩,h3⟩,h4⟩,h5⟩:=cN
 exact Zu8 (Zbh:=Zbh) hE hf h1 (Zgu h2) h4 first captured xs h5 λl=>
  ⟨Zny _,ZkR (E:=E.yields l xs) hE eM,by rw[ZaR];exact h3,h l⟩
end Go.Eng
namespace Go.Eng
open Go Go.RowKit
set_option maxRecDepth 100000
theorem CXT.mono{P:Program}{g:FuncId}{args:Array Value}{m:Mem}{esz:Nat}{R R':Value->Mem->List (List Value)->Prop}(h:CXT P g args m esz R)(k:∀v m' css,m.le m'->R v m' css->R' v m' css):CXT P g args m esz R':=
 ⟨h.1,λw h1=>(h.2 w h1).mono λ_ _ ⟨v,m',a1,a2,a3,a4,a5,a6,a7,a8⟩=>⟨v,m',a1,a2,a3,a4,a5,a6,a7,k _ _ _ a2 a8⟩⟩
def ZwA(m m':Mem)(esz:Nat)(v:Value):Prop:=v=.slice none 0 0\/∃b o n c,v=.slice (some ⟨b,o,none⟩) n c/\n<=c/\m.free b/\∀q,n*esz<=q->q < c*esz->∃u,m' b (o+q)=some u
theorem CXT.room{P:Program}{g:FuncId}{args:Array Value}{m:Mem}{esz:Nat}{R:Value->Mem->List (List Value)->Prop}(h:CXT P g args m esz R):CX P g args m [] (λv m' _=>∃m1:Mem,m.le m1/\m1.le m'/\R v m1 []/\ZwA m m' esz v):=by
 refine⟨h.1,λw h1 _ _=>(h.2 w h1).mono ?_⟩
 rintro e w' ⟨v,m',a1,a2,a3,a4,a5,a6,a7,a8⟩
 have a9:=a6
 rcases a6 with h6|⟨b,o0,n,c,cur,T,fr,hv,gV,hh,cD,_,cS⟩
 ·exact⟨v,m',[],a1,a2,a3,a4,a5,rfl,λi x cs hi=>by simp at hi,m',a2,Mem.le_refl _,a8,.inl h6⟩
 ·have hv:v=.slice (some ⟨b,o0,none⟩) n c:=hv
  have hb:w.heap.size<=b:=a7 b (by simp[Tok.blk,hv])
  have bY:m.free b:=λo=>by
   cases he:m b o with
   | none=>rfl
   | some u=>have:=h1.lt he;omega
  have sk:c*esz=n*esz+(c - n)*esz:=by rw[<-Nat.add_mul];congr 1;omega
  have cS:∀o,o0+n*esz<=o->o < o0+c*esz->m' b o=none:=cS
  have cD:o0+c*esz<=cur.size:=cD
  obtain⟨P0,ma⟩:∃P0,P0=o0+n*esz:=⟨_,rfl⟩
  obtain⟨zs,jk⟩:∃zs,zs=(cur.toList.drop P0).take ((c - n)*esz):=⟨_,rfl⟩
  have gX:zs.length=(c - n)*esz:=by rw[jk];simp;omega
  have pz:∀q v,zs[q]?=some v->cur[P0+q]?=some v:=λq v hq=>by
   rw[jk,List.getElem?_take]at hq
   split at hq
   ·rw[List.getElem?_drop]at hq;simpa using hq
   ·cases hq
  have cA:m'.le (m'.addAt b P0 zs):=⟨λb' o v hv'=>by
   simp only[Mem.addAt]
   split
   ·rename_i hc
    obtain⟨rfl,ho⟩:=hc
    cases hz:zs[o - P0]? with
    | none=>simp only[hz];exact hv'
    | some u=>
     have hq:=(List.getElem?_eq_some_iff.1 hz).1
     rw[cS o (by omega) (by omega)]at hv';cases hv'
   ·exact hv',λ_ _ h=>h⟩
  have dB:∀b' o u,m'.addAt b P0 zs b' o=some u->m' b' o=some u\/(b'=b/\w'.cell? ⟨b',o,none⟩=some u):=λb' o u hu=>by
   simp only[Mem.addAt]at hu
   split at hu
   ·rename_i hc
    obtain⟨rfl,ho⟩:=hc
    cases hz:zs[o - P0]? with
    | none=>simp only[hz]at hu;exact .inl hu
    | some x=>
     simp only[hz]at hu;cases hu
     have:=pz _ _ hz
     rw[show P0+(o - P0)=o by omega]at this
     refine .inr ⟨rfl,?_⟩
     simp only[World.cell?,hh]
     simpa using this
   ·exact .inl hu
  refine⟨v,m'.addAt b P0 zs,[],a1,mLt a2 cA,⟨λb' o u hu=>(dB b' o u hu).elim (a3 b' o u) (·.2),a3.k⟩,a4.addAt _ ⟨hb,a9.wr (by simp[Tok.blk,hv])⟩,a5,rfl,λi x cs hi=>by simp at hi,m',a2,cA,a8,.inr ⟨b,o0,n,c,hv,gV,bY,λq gq om=>?_⟩⟩
  have bF:o0+q - P0 < zs.length:=by omega
  refine⟨zs[o0+q - P0],?_⟩
  simp only[Mem.addAt]
  rw[if_pos ⟨trivial,by omega⟩,List.getElem?_eq_getElem bF]
def ZmJ:List Nat->List Tok->Nat->Option Tok
 | k::ks,t::ts=>λi=>bif Nat.beq i k then some t else ZmJ ks ts i
 | _,_=>λ_=>none
theorem Zj0:∀{ks:List Nat} {ts:List Tok} {i:Nat} {t:Tok},ZmJ ks ts i=some t->∃q:Nat,ks[q]?=some i/\ts[q]?=some t
 | [],ts,i,t,h=>by simp[ZmJ]at h
 | k::ks,[],i,t,h=>by simp[ZmJ]at h
 | k::ks,t0::ts,i,t,h=>by
  by_cases hi:i=k
  ·subst hi;simp[ZmJ]at h;subst h;exact⟨0,rfl,rfl⟩
  ·simp only[ZmJ,Zam hi,cond_false]at h
   obtain⟨q,h1,h2⟩:=Zj0 h
   exact⟨q+1,by simpa using h1,by simpa using h2⟩
def S0Y(svs:List SV)(xs:List Box)(ks:List Nat)(ts:List Tok):St:={ S0 svs xs with tok:=ZmJ ks ts,tkeys:=ks }
def ZkT(S:St):List Nat->List Tok->(List Value->Prop)->Prop
 | k::ks,t::ts,r=>match S.tok k with
  | none=>False
  | some t'=>chk (Nat.beq t'.esz t.esz) (ZkT S ks ts λtvs=>r (t'.v::tvs))
 | [],[],r=>r []
 | _,_,_=>False
theorem Zfl{S:St}:∀{ks:List Nat} {ts:List Tok} {r:List Value->Prop},ZkT S ks ts r->∃tvs,tvs.length=ts.length/\ks.length=ts.length/\(∀(i:Nat)(t:Tok)(tv:Value),ts[i]?=some t->tvs[i]?=some tv->∃k:Nat,ks[i]?=some k/\S.tok k=some ⟨tv,t.esz⟩)/\r tvs
 | [],[],r,h=>⟨[],rfl,rfl,λi t tv h=>by simp at h,h⟩
 | [],_::_,r,h=>h.elim
 | _::_,[],r,h=>h.elim
 | k::ks,t::ts,r,h=>by
  unfold ZkT at h
  cases ht:S.tok k with
  | none=>simp[ht]at h
  | some t'=>
   simp only[ht]at h
   obtain⟨h1,h2⟩:=Zaf h
   have he:=Nat.eq_of_beq_eq_true h1
   obtain⟨tvs,g1,g2,g3,g4⟩:=Zfl h2
   refine⟨t'.v::tvs,by simp[g1],by simp[g2],λi t0 tv hi hv=>?_,g4⟩
   cases i with
   | zero=>
    simp at hi hv;subst hi hv
    exact⟨k,rfl,by rw[ht,<-he]⟩
   | succ i=>simpa using g3 i t0 tv (by simpa using hi) (by simpa using hv)
def Zwo(E:Env)(rs:List ResultVar)(xs:List Box)(ks:List Nat)(ts:List Tok)(R:Value->Mem->List (List Value)->List Value->Prop)(S:St)(m:Mem):Prop:=
 Zwx E S m rs λvs=>ZuJ S 0 xs λcss=>ZkT S ks ts λtvs=>Zu5 E S m (R (Zwi vs) (Zrz S E.frz m) css tvs)
def Zw5(E:Env)(rs:List ResultVar)(xs:List Box)(ks:List Nat)(ts:List Tok)(R:Value->Mem->List (List Value)->List Value->Prop):KT:=λe S m=>match e with
 | .normal=>Zwo E rs xs ks ts R S m
 | .ret=>Zwo E rs xs ks ts R S m
 | _=>False
def Zwp(n:Nat)(m:Mem)(w:World)(B:Nat->Prop):Ctx where
 n:=n
 m0:=m
 me:=m
 mle:=Mem.le_refl m
 p:=λ_ M w'=>Upd B w w'/\∀k,M k->(w.heap.size<=k/\k < w'.heap.size/\Wr w' k)\/B k
 st:=by
  rintro g M M' w1 w2 ⟨h1,h2⟩ hu hg
  refine⟨⟨hu.os.trans h1.os,hu.tape.trans h1.tape,hu.output.trans h1.output,Nat.le_trans h1.size hu.size,λk hk hn=>?_,λk hl hk=>hu.wr k (Nat.lt_of_lt_of_le hl h1.size) (h1.wr k hl hk)⟩,λk hk=>?_⟩
  ·rw[hu.block k (Nat.lt_of_lt_of_le hk h1.size) λhm=>?_,h1.block k hk hn]
   rcases h2 k hm with h|h
   ·omega
   ·exact hn h
  ·rcases hg k hk with h|h
   ·exact(h2 k h).imp_left λh=>⟨h.1,Nat.lt_of_lt_of_le h.2.1 hu.size,hu.wr k h.2.1 h.2.2⟩
   ·have:=h1.size;exact .inl ⟨by omega,h.2⟩
theorem Zp5{n:Nat}{w:World}{m:Mem}{Y:Nat->Prop}{xs:List Box}{svs:List SV}{ks:List Nat}{ts:List Tok}(hs:Sub m w)(hx:∀x∈xs,Own m w x/\x.fz=false/\¬Y x.b)(dR:(xs.map (·.b)).Nodup)(cN:Znp xs svs=true)(hn:svs.length<=n)
  (ht:∀t∈ts,TokOk m w t/\∀b,t.blk=some b->Y b) (jh:ZuE ts) (hY:∀b,Y b->b < w.heap.size/\Wr w b):
  Rel (Zwp n (m.off Y) w (λk=>k∈xs.map (·.b)\/Y k)) (S0Y svs xs ks ts) m { tmps:=(svs.map (Zrv xs)).toArray++Array.replicate (n - (svs.map (Zrv xs)).toArray.size) undef,defers:=[] } w:=by
 have hL:∀id x,(S0Y svs xs ks ts).L id=some x->100000<=id/\xs[id - 100000]?=some x:=λid x h=>by
  simp only[S0Y,S0]at h
  cases hb:Nat.ble 100000 id with
  | false=>simp[hb]at h
  | true=>simp only[hb,cond_true]at h;exact⟨Nat.le_of_ble_eq_true hb,h⟩
 have hT:∀k t,(S0Y svs xs ks ts).tok k=some t->∃q:Nat,ks[q]?=some k/\ts[q]?=some t:=λk t h=>Zj0 h
 refine⟨⟨[],rfl,List.nodup_nil,by simp⟩,by simp[Zwp];omega,?_,?_,?_,?_,?_,?_,?_,hs,Mem.off_le m Y,⟨λk=>k∈xs.map (·.b)\/Y k,⟨Upd.refl _ _,λk hk=>.inr hk⟩,λk hk=>?_,λid x hx=>?_,λk t b h1 h2=>?_,by simp,⟨λb o v hv=>?_,λb e he=>?_⟩⟩,λ_=>rfl⟩
 ·intro i sv he
  simp only[S0Y,S0]at he
  have bF:=(List.getElem?_eq_some_iff.1 he).1
  have h1:=ZiM cN i sv he
  refine⟨Zrv xs sv,?_,?_⟩
  ·cases sv with
   | v x=>rfl
   | loc id off=>
    simp only[Zww,Bool.and_eq_true]at h1
    have h2:id - 100000 < xs.length:=ZmG h1.2
    simp[St.den,S0Y,S0,Zrv,h1.1,List.getElem?_eq_getElem h2]
   | sl id n c=>
    simp only[Zww,Bool.and_eq_true]at h1
    have h2:id - 100000 < xs.length:=ZmG h1.2
    simp[St.den,S0Y,S0,Zrv,h1.1,List.getElem?_eq_getElem h2]
  ·rw[Array.getElem?_append_left (by simpa using bF)]
   simp[he]
 ·intro id x hx'
  exact(hx x (List.mem_of_getElem? (hL id x hx').2)).1
 ·intro id id' x x' h1 h2 hb
  obtain⟨g1,g2⟩:=hL _ _ h1
  obtain⟨g3,g4⟩:=hL _ _ h2
  have hi:=(List.getElem?_eq_some_iff.1 g2).1
  have:=(List.getElem?_inj (l:=xs.map (·.b)) (i:=id - 100000) (j:=id' - 100000) (by simpa using hi) dR).1 (by simp[g2,g4,hb])
  omega
 ·intro id x h1
  obtain⟨g1,g2⟩:=hL _ _ h1
  have hi:=(List.getElem?_eq_some_iff.1 g2).1
  simp only[S0Y,S0,List.mem_map,List.mem_range,bid]
  exact⟨id - 100000,hi,by omega⟩
 ·intro k t h1
  obtain⟨q,_,h2⟩:=hT k t h1
  obtain⟨g1,g2⟩:=ht t (List.mem_of_getElem? h2)
  exact⟨g1,λb hb=>⟨λid x pQ e=>(hx x (List.mem_of_getElem? (hL id x pQ).2)).2.2 (e ▸ g2 b hb),Mem.off_free (g2 b hb)⟩⟩
 ·intro k t h1
  obtain⟨q,h2,_⟩:=hT k t h1
  exact List.mem_of_getElem? h2
 ·intro k k' t t' b h1 h2 h3 h4
  obtain⟨q,g1,g2⟩:=hT k t h1
  obtain⟨q',g3,g4⟩:=hT k' t' h2
  have:=jh q q' t t' b g2 g4 h3 h4
  subst this
  rw[g1]at g3;exact Option.some.inj g3
 ·rcases hk with hk|hk
  ·obtain⟨x,h1,h2⟩:=List.mem_map.1 hk
   exact h2 ▸ (hx x h1).1.lt
  ·exact(hY k hk).1
 ·exact .inl (List.mem_map.2 ⟨x,List.mem_of_getElem? (hL id x hx).2,rfl⟩)
 ·obtain⟨q,_,g2⟩:=hT k t h1
  exact .inr ((ht t (List.mem_of_getElem? g2)).2 b h2)
 ·by_cases fG:Y b
  ·exact .inr (.inr fG)
  ·exact .inl (by show m.off Y b o=some v;rw[Mem.off_at fG];exact hv)
 ·by_cases fG:Y b
  ·exact .inr (.inr fG)
  ·exact .inl (by show(m.off Y).k b=some e;rw[Mem.off_k fG];exact he)
theorem TokOk.sl{m:Mem}{w:World}{t:Tok}(h:TokOk m w t):ZbM t.v=true:=by
 rcases h with h|⟨b,o0,n,c,_,_,_,h,_⟩
 ·rw[h];rfl
 ·rw[h];rfl
theorem ZtX{E:Env}(hE:E.ok){Zbh:Nat->Array Oper->(St->Mem->Prop)->St->Mem->Prop}(hD:Ze3 E Zbh)(gG:Zet E Zbh){g:FuncId}{fn:Func}{c:Code}
  (hf:E.P.funcs[g]?=some fn) (hn:(fn.name == "runtime.NumGoroutine")=false) (hb:fn.body=some c) (hc:Zas E c=true) (hl:Zbp fn.ntmps c=true) (hz:ZuK E.frz=true) (gz:E.yl=none/\E.ylY=none)
  {m:Mem} {Y:Nat->Prop} (eH:∀mm,E.m0=some mm->m.off Y=mm) {R:Value->Mem->List (List Value)->List Value->Prop} (svs:List SV) (xs:List Box) (ks:List Nat) (ts:List Tok) (jy:Zbj ks=true) (bL:Nat.ble svs.length fn.ntmps=true) (cN:Znp xs svs=true)
  (h:W E Zbh c (Zw5 E fn.results.toList xs ks ts R) (S0Y svs xs ks ts) m):CXY E.P g (svs.map (Zrv xs)).toArray m Y xs ts R:=by
 refine⟨Zkn hf hn (by simp[hb]),λw hs hx dR ht jh hY=>?_⟩
 have bH:=Zp5 (n:=fn.ntmps) (ks:=ks) hs hx dR cN (Nat.le_of_ble_eq_true bL) ht jh hY
 refine callsIn_wide.1 (callsIn_of_wp_marks (F:=Fence.wide) (n:=0) hf hb trivial ?_)
 refine Zcl hE hD gG c hc (.inl rfl) (YOk.none gz.1 gz.2 (λmm gC=>⟨eH mm gC,λg M w' hp k hk=>?_⟩)) (λl hl=>by cases hl) 0 hl bH h ?_
 ·rcases hp.2 k hk with h1|h1|h1
  ·exact h1.2.2
  ·obtain⟨x,h2,rfl⟩:=List.mem_map.1 h1
   exact hp.1.wr _ (hx x h2).1.lt (hx x h2).1.wr
  ·exact hp.1.wr k (hY k h1).1 (hY k h1).2
 have key:∀S' m' a' w',Zwo E fn.results.toList xs ks ts R S' m'->Rel (Zwp fn.ntmps (m.off Y) w (λk=>k∈xs.map (·.b)\/Y k)) S' m' a' w'->LeavesInM Fence.wide 0 E.P fn a'.tmps (λe w'=>
   ∃v m' css tvs,e=.returned v/\(m.off Y).le m'/\Sub m' w'/\NewM m m' (λb=>Y b\/(w.heap.size<=b/\Wr w' b))/\Upd (λk=>k∈xs.map (·.b)\/Y k) w w'/\
   css.length=xs.length/\(∀(i:Nat)(x:Box)(cs:List Value),xs[i]?=some x->css[i]?=some cs->Own m' w' { x with cs:=cs })/\
   tvs.length=ts.length/\(∀(i:Nat)(t:Tok)(tv:Value),ts[i]?=some t->tvs[i]?=some tv->ZbM tv=true/\TokOk m' w' ⟨tv,t.esz⟩/\∀b,(Tok.mk tv t.esz).blk=some b->(Y b\/w.heap.size<=b)/\b ∉ xs.map (·.b))/\
   ZuE ((ts.zip tvs).map λq=>⟨q.2,q.1.esz⟩)/\R v m' css tvs) a'.defers .returning w':=by
  intro S' m' a' w' hk hr
  obtain⟨ms,q1,_,_⟩:=hr.defers
  refine Rel.leave ?_ ms a' w' rfl q1 hr
  clear hr q1
  intro a2 w2 sX hr
  rw[<-sX]
  obtain⟨vs,hk,bK⟩:=ZfL hE hr hk
  obtain⟨css,h1,h2,hk⟩:=Zgn hk
  obtain⟨tvs,k1,k2,k3,h5⟩:=Zfl hk
  have h5:=ZlQ hr h5
  obtain⟨M,hd⟩:=hr.dom
  simp only[ZuK,Bool.and_eq_true]at hz
  have pP:=Zaz hz.1
  have ky:=Zaz jy
  obtain⟨f1,f2,f3⟩:=ZqN hr pP
  have frzlt:∀id∈E.frz,id < 100000:=λid cR=>ZmG (List.all_eq_true.1 hz.2 id cR)
  have boxOf:∀b,b∈xs.map (·.b)->∃(i:Nat)(x:Box)(cs:List Value),xs[i]?=some x/\x.b=b/\S'.L (bid i)=some { x with cs:=cs }:=λb hb=>by
   obtain⟨y,hy,fG⟩:=List.mem_map.1 hb
   obtain⟨i,hi⟩:=List.getElem?_of_mem hy
   obtain⟨cs,_,gZ⟩:=h2 i y hi
   exact⟨i,y,cs,hi,fG,by rw[Nat.zero_add]at gZ;exact gZ⟩
  have tokY:∀(i:Nat)(t:Tok)(tv:Value),ts[i]?=some t->tvs[i]?=some tv->∃k:Nat,ks[i]?=some k/\S'.tok k=some ⟨tv,t.esz⟩:=k3
  have frzNb:∀id∈E.frz,∀x,S'.L id=some x->x.b ∉ xs.map (·.b):=λid cR x dO hm=>by
   obtain⟨i,y,cs,_,fG,gZ⟩:=boxOf _ hm
   have:=hr.apart _ _ _ _ dO gZ fG.symm
   have:=frzlt id cR
   simp only[bid]at *
   omega
  refine⟨Zwi vs,Zgm bK,Zwi vs,Zrz S' E.frz m',css,tvs,rfl,mLt hr.le f1,f2,?_,hd.p.1,h1,?_,k1,?_,?_,h5⟩
  ·refine⟨λb o u hu=>?_,λb e he=>?_⟩
   rotate_left
   ·rw[ZpQ]at he
    rcases hd.new.k b e he with h6|h6
    ·exact .inl ((Mem.off_le m Y).k b e h6)
    ·rcases hd.p.2 b h6 with h|h|h
     ·exact .inr (.inr ⟨h.1,h.2.2⟩)
     ·exfalso
      obtain⟨i,y,cs,hi,fG,gZ⟩:=boxOf b h
      obtain⟨c0,T0,f0,h7⟩:=(hr.own _ _ gZ).isC
      obtain⟨es,cl,h8,_⟩:=hr.sub.k b e he
      simp only[fG]at h7
      rw[h7]at h8;cases h8
     ·exact .inr (.inl h)
   have inM:M b->m b o=some u\/Y b\/(w.heap.size<=b/\Wr w2 b)\/b∈xs.map (·.b):=λhm=>by
    rcases hd.p.2 b hm with h|h|h
    ·exact .inr (.inr (.inl ⟨h.1,h.2.2⟩))
    ·exact .inr (.inr (.inr h))
    ·exact .inr (.inl h)
   rcases f3 b o u hu with hv|⟨id,cR,x,dO,iA⟩
   ·rcases hd.new b o u hv with h6|h6
    ·exact .inl (Mem.off_le m Y b o u h6)
    ·rcases inM h6 with h|h|h|h
     ·exact .inl h
     ·exact .inr (.inl h)
     ·exact .inr (.inr h)
     ·exfalso
      obtain⟨i,y,cs,hi,fG,gZ⟩:=boxOf b h
      have:=(hr.own _ _ gZ).free (hx y (List.mem_of_getElem? hi)).2.1 o
      simp only[fG]at this
      rw[this]at hv;cases hv
   ·subst iA
    rcases inM (hd.own id x dO)with h|h|h|h
    ·exact .inl h
    ·exact .inr (.inl h)
    ·exact .inr (.inr h)
    ·exact(frzNb id cR x dO h).elim
  ·intro i x cs hi dN
   obtain⟨cs',h6,h7⟩:=h2 i x hi
   rw[dN]at h6;cases h6
   have ho:=hr.own _ _ h7
   have nb:=(hx x (List.mem_of_getElem? hi)).2.1
   refine⟨ho.cells,λ_ o=>?_,λhz'=>by simp[nb]at hz',ho.whole⟩
   show Zrz S' E.frz m' x.b o=none
   rw[Zee S' m' (λid cR y hy e=>frzNb id cR y hy (e ▸ List.mem_map.2 ⟨x,List.mem_of_getElem? hi,rfl⟩))]
   exact ho.free nb o
  ·intro i t tv hi hv
   obtain⟨k,g1,g2⟩:=tokY i t tv hi hv
   obtain⟨g3,g4⟩:=hr.toks k _ g2
   refine⟨g3.sl,g3.same (λ_ _=>rfl) (λb o hb hn=>?_),λb hb=>⟨?_,λhm=>?_⟩⟩
   ·rw[Zee S' m' (λid _ y hy e=>(g4 b hb).1 id y hy e)];exact hn
   ·rcases hd.p.2 b (hd.tok _ _ _ g2 hb)with h|h|h
    ·exact .inr h.1
    ·obtain⟨i,y,cs,_,fG,gZ⟩:=boxOf b h
     exact((g4 b hb).1 _ _ gZ fG).elim
    ·exact .inl h
   ·obtain⟨i,y,cs,_,fG,gZ⟩:=boxOf b hm
    exact(g4 b hb).1 _ _ gZ fG
  ·intro i j t t' b hi hj cP fJ
   rw[List.getElem?_map]at hi hj
   obtain⟨⟨t0,tv⟩,ie,rfl⟩:=Option.map_eq_some_iff.1 hi
   obtain⟨⟨t0',tv'⟩,sY,rfl⟩:=Option.map_eq_some_iff.1 hj
   obtain⟨a1,a2⟩:=List.getElem?_zip_eq_some.1 ie
   obtain⟨a3,a4⟩:=List.getElem?_zip_eq_some.1 sY
   obtain⟨k,g1,g2⟩:=tokY i t0 tv a1 a2
   obtain⟨k',g3,g4⟩:=tokY j t0' tv' a3 a4
   have:=hr.tapart k k' _ _ b g2 g4 cP fJ
   subst this
   have hi':=(List.getElem?_eq_some_iff.1 g1).1
   exact(List.getElem?_inj (l:=ks) (i:=i) (j:=j) hi' ky).1 (by rw[g1,g3])
 intro e S' m' a' w' hk hr
 cases e with
 | normal=>exact key S' m' a' w' hk hr
 | ret=>exact key S' m' a' w' hk hr
 | exit _=>exact hk.elim
 | goto _=>exact hk.elim
 | panic _=>exact hk.elim
 | outgrown=>exact hk.elim
def FWY(E:Env)(fn:Func)(svs:List SV)(xs:List Box)(ks:List Nat)(ts:List Tok)(m:Mem)(Y:Nat->Prop)(R:Value->Mem->List (List Value)->List Value->Prop):Prop:=
 W (E.at (m.off Y)) (Zbh (E.at (m.off Y))) (Zja fn) (Zw5 (E.at (m.off Y)) fn.results.toList xs ks ts R) (S0Y svs xs ks ts) m
theorem Zp6{E:Env}(hE:E.ok)(eM:E.P.follows .mixedOrders=true){g:FuncId}{fn:Func}(hf:E.P.funcs[g]?=some fn){m:Mem}{Y:Nat->Prop}{R:Value->Mem->List (List Value)->List Value->Prop}(svs:List SV)(xs:List Box)(ks:List Nat)(ts:List Tok)(jy:Zbj ks=true)
  (cN:ZxG E fn svs xs=true) (h:FWY E fn svs xs ks ts m Y R):CXY E.P g (svs.map (Zrv xs)).toArray m Y xs ts R:=by
 simp only[ZxG,Bool.and_eq_true,Bool.not_eq_true']at cN
 obtain⟨⟨⟨⟨⟨⟨⟨h1,h2⟩,h3⟩,h4⟩,h5⟩,h8⟩,h6⟩,h7⟩:=cN
 exact ZtX (E:=E.at (m.off Y)) hE (Zny _) (ZkR (E:=E.at (m.off Y)) hE eM) hf h1 (Zgu h2) (by rw[ZbB];exact h3) h4 h5 (show E.yl=none/\E.ylY=none by simpa using h8) (λmm gC=>Option.some.inj gC) svs xs ks ts jy h6 h7 h
theorem CXY.mono{P:Program}{g:FuncId}{args:Array Value}{m:Mem}{Y:Nat->Prop}{X:List Box}{ts:List Tok}{R R':Value->Mem->List (List Value)->List Value->Prop}(h:CXY P g args m Y X ts R)(k:∀v m' css tvs,(m.off Y).le m'->R v m' css tvs->R' v m' css tvs):CXY P g args m Y X ts R':=
 ⟨h.1,λw h1 h2 h3 h4 h5 h6=>(h.2 w h1 h2 h3 h4 h5 h6).mono λ_ _ ⟨v,m',css,tvs,a1,a2,a3,a4,a5,a6,a7,a8,a9,a10,a11⟩=>⟨v,m',css,tvs,a1,a2,a3,a4,a5,a6,a7,a8,a9,a10,k _ _ _ _ a2 a11⟩⟩
theorem IXY.mono{P:Program}{g:FuncId}{first captured:List Value}{m:Mem}{Y:Nat->Prop}{n:Nat}{V V':Nat->List Value->Mem->Prop}{R R':Mem->Prop}(h:IXY P g first captured m Y n V R)(k:∀i v mi,V i v mi->V' i v mi)(k':∀m',R m'->R' m'):IXY P g first captured m Y n V' R':=
 ⟨h.1,λp hp l w hs hY mN hy=>(h.2 p hp l w hs hY mN (λF n' l' g v M w mi hF bF ⟨e,i,z1,z2,z3⟩=>hy F n' l' g v M w mi hF bF ⟨e,i,z1,z2,k i v mi z3⟩)).mono
  λ_ _ ⟨v,M,m',a1,a2,a3,a4,a5,a6,a7⟩=>⟨v,M,m',a1,a2,a3,a4,a5,a6,k' _ a7⟩⟩
end Go.Eng
namespace Go.Eng
open Go Go.RowKit
def zok(i:TI):Bool:=Nat.beq i.zero.cells.size i.size&&Zhh i.zero.cells.toList&&(i.agg||Nat.beq i.size 1)
structure TRow (P:Program)(t:TypeId)(i:TI):Prop where
 und:P.underlying t=some i.d
 info:(P.info? t).map (λx=>(x.size,x.zero,x.bytes))=some (i.size,some i.zero,i.bytes)
 ok:zok i=true
theorem TRow.tok{P:Program}{t:TypeId}{i:TI}(h:TRow P t i):TOk P t i:=by
 have hz:=h.ok
 simp only[zok,Bool.and_eq_true,Bool.or_eq_true]at hz
 refine⟨h.und,?_,Nat.eq_of_beq_eq_true hz.1.1,ZfF hz.1.2,λha=>?_⟩
 ·obtain⟨x,hx,e⟩:=Option.map_eq_some_iff.1 h.info
  simp only[Prod.mk.injEq]at e
  exact⟨x,hx,e.1,e.2.1,e.2.2⟩
 ·rcases hz.2 with h1|h1
  ·rw[ha]at h1;cases h1
  ·exact Nat.eq_of_beq_eq_true h1
def ZuN:List (Nat×TI)->Nat->Option TI
 | [],_=>none
 | q::l,t=>bif Nat.beq t q.1 then some q.2 else ZuN l t
def Zwq(P:Program):List (Nat×TI)->Prop
 | []=>True
 | q::l=>TRow P q.1 q.2/\Zwq P l
theorem Zq2{P:Program}:∀{l:List (Nat×TI)},Zwq P l->∀t i,ZuN l t=some i->TOk P t i
 | [],_,t,i,h=>by simp[ZuN]at h
 | q::l,hl,t,i,h=>by
  simp only[ZuN]at h
  cases hb:Nat.beq t q.1 with
  | true=>
   simp only[hb,cond_true,Option.some.injEq]at h
   rw[Nat.eq_of_beq_eq_true hb,<-h];exact hl.1.tok
  | false=>simp only[hb,cond_false]at h;exact Zq2 hl.2 t i h
abbrev Zsf(l:List (Option Box)):Prop:=l=l
abbrev Ret(u:Value):Value->Mem->List (List Value)->Prop:=λv _ _=>v=u
theorem Zaa{m m':Mem}{R:Value->Mem->List (List Value)->Prop}{v:Value}(h:m.le m')(k:R v m []):∃m'':Mem,m.le m''/\m''.le m'/\R v m'' []:=⟨m,Mem.le_refl m,h,k⟩
theorem Zop{m m':Mem}{R:Value->Mem->List (List Value)->Prop}{v:Value}(h:m.le m')(k:R v m' []):∃m'':Mem,m.le m''/\m''.le m'/\R v m'' []:=⟨m',h,Mem.le_refl _,k⟩
section
variable {P:Program} {g:FuncId} {args:Array Value} {m:Mem}
theorem Zae{K:Bool->Mem->Prop}{x:Bool}(h:CX P g args m [] (Ret (.bool x)))(k:∀m',m.le m'->K x m'):
  ∃R:Value->Mem->List (List Value)->Prop,True/\CX P g args m [] R/\(∀(v:Value)(m':Mem) (css:List (List Value)),R v m' css->Shape.fits .bool v=true)/\∀(b:Bool)(m':Mem),m.le m'->R (.bool b) m' []->K b m':=
 ⟨_,trivial,h,λv _ _ e=>by rw[e];rfl,λb m' hm e=>by cases e;exact k m' hm⟩
theorem ZaD{kk:IntKind}{K:Int->Mem->Prop}{x:Int}(h:CX P g args m [] (Ret (.int kk x)))(k:∀m',m.le m'->K x m'):
  ∃R:Value->Mem->List (List Value)->Prop,True/\CX P g args m [] R/\(∀(v:Value)(m':Mem) (css:List (List Value)),R v m' css->Shape.fits (.int kk) v=true)/\∀(b:Int)(m':Mem),m.le m'->R (.int kk b) m' []->K b m':=
 ⟨_,trivial,h,λv _ _ e=>by rw[e];simp[Shape.fits],λb m' hm e=>by cases e;exact k m' hm⟩
theorem Zao{s:Shape}{R:Value->Mem->List (List Value)->Prop}{Q:(Value->Mem->List (List Value)->Prop)->Prop}(h:CX P g args m [] R)(hs:∀(v:Value)(m':Mem) (css:List (List Value)),R v m' css->s.fits v=true)(k:Q R):
  ∃R:Value->Mem->List (List Value)->Prop,True/\CX P g args m [] R/\(∀(v:Value)(m':Mem) (css:List (List Value)),R v m' css->s.fits v=true)/\Q R:=⟨R,trivial,h,hs,k⟩
end
theorem Zsg{b:Bool}{p q:Prop}:br b p q↔(if b=true then p else q):=by cases b <;> simp[br]
theorem Zan{n:Int}(h1 : -9223372036854775808<=n)(h2:n<=9223372036854775807):IntKind.i64.wrap n=n:=by
 unfold IntKind.wrap
 simp only[IntKind.bits,IntKind.signed,Bool.true_and]
 have e:(2:Int) ^ 64=18446744073709551616:=by decide
 have e':(2:Int) ^ (64 - 1)=9223372036854775808:=by decide
 simp only[e,e']
 split
 ·rename_i h
  have:=of_decide_eq_true h
  omega
 ·rename_i h
  have:¬(n % 18446744073709551616 ≥ 9223372036854775808):=λhh=>h (decide_eq_true hh)
  omega
theorem Zcv{f f':Nat}{a b a' b':List Value}(h:Value.func (.func f) a.toArray b.toArray=.func (.func f') a'.toArray b'.toArray):f=f'/\a=a'/\b=b':=by
 simpa using h
theorem Zag{a b:Bool}(h:a=b):[Value.bool a]=[Value.bool b]:=by rw[h]
end Go.Eng
namespace Go.Eng
open Go Go.RowKit Go.ChangeShapes Go.WideShapes
def Zhi(W:World):Mem:=⟨λb o=>W.cell? ⟨b,o,none⟩,λ_=>none⟩
theorem Zgv{H:Type}{enc:TypeId×Value->H}{P:Program}(hl:laidOutB P=true){W W':World}{sp:Nat->Bool}:∀{ts:List TypeId} {vs:List Value} {ds:List (DataW H)} {ps:List MemPlace},(∀t∈ts,P.readableRec t=true/\t < P.types.size)->DataW.TrodAll enc P W 0 (λ_=>true) true ts vs ds ps->(∀p∈ps,W.sameAt W' p)->(∀p∈ps,sp p.block=true)->DataW.TrodAll enc P W' 0 sp true ts vs ds ps
 | [],[],[],ps,_,h,_,_=>h
 | t::ts,v::vs,d::ds,ps,ht,h,hs,rq=>by
  obtain⟨p,q,h1,h2,rfl⟩:=h
  exact⟨p,q,WideElems.Trod_stays hl (ht t (by simp)).1 (ht t (by simp)).2 h1 (λx hx=>hs x (by simp[hx])) (λx hx=>rq x (by simp[hx])),Zgv hl (λt' h'=>ht t' (by simp[h'])) h2 (λx hx=>hs x (by simp[hx])) (λx hx=>rq x (by simp[hx])),rfl⟩
 | [],[],_::_,_,_,h,_,_=>h.elim
 | [],_::_,_,_,_,h,_,_=>by simp[DataW.TrodAll]at h
 | _::_,[],_,_,_,h,_,_=>by simp[DataW.TrodAll]at h
 | _::_,_::_,[],_,_,h,_,_=>h.elim
theorem Zsh{H:Type}{enc:TypeId×Value->H}{P:Program}{g:FuncId}{f:Func}{s:ChangeSpec}{W:World}{args:Array Value}{ds gs:List (DataW H)}{before:List MemPlace}{tb:TypeId}(hl:laidOutB P=true)
  (lp:∀t∈f.params.toList,P.readableRec t=true/\t < P.types.size) (hW:DataW.Whole enc P f.params.toList s.vars false W args.toList ds gs before) (hv:s.vars=[])
  (hr:(s.fn H (ds++gs)).results=[.lit (.bool true)]) (ha:(s.fn H (ds++gs)).args=ds) (hw:(s.fn H (ds++gs)).vars=[]) (j9:f.resultTypes=#[tb]) (pO:P.underlying tb=some .bool)
  (gK:CX P g args (Zhi W) [] (Ret (.bool true))):
  Calls P g args W λe W'=>∃v,e=.returned v/\s.post enc P f false true false false W args v W':=by
 refine(gK.2 W ⟨λ_ _ _ h=>h,λ_ _ h=>by cases h⟩ (by simp) (by simp)).mono ?_
 rintro e W' ⟨v,m',css,rfl,hm,dD,dI,hk,_,_,rfl⟩
 have hb:Below W.heap.size W W':=hk.below
 have bF:∀p∈before,p.block < W.heap.size:=λp hp=>by simpa using hW.lt p hp
 have hW':=hW
 obtain⟨p,q,hA,hV,rfl,hz,hn⟩:=hW
 rw[hv]at hV
 obtain⟨rfl,rfl⟩:gs=[]/\q=[]:=by
  cases gs with
  | nil=>exact⟨rfl,hV⟩
  | cons g gs=>exact hV.elim
 refine⟨_,rfl,ds,[],p++[],[],p,[],hW',?_,?_,?_,hb.frame _,λh=>by cases h⟩
 ·rw[hr,j9]
  exact trodAll_cons_mk (shut_bool pO _) trodAll_mk0
 ·rw[ha]
  exact Zgv hl lp hA (λx hx=>hb.same (bF x (by simp[hx]))) (λx hx=>by simpa using bF x (by simp[hx]))
 ·rw[hw,hv];rfl
end Go.Eng