/- The engine: a reckoner over the code of a program in Lean, with its soundness; it names no program. No condition. -/
import Derived.Test.YthiefodednaikaaMb
import Derived.OrdersIn
import Derived.ProofKit
import Derived.OpenShut
import Derived.JoinedCond
import Derived.Deep.Slices
set_option linter.unusedVariables false
set_option linter.unusedSimpArgs false
set_option linter.unusedSectionVars false
namespace Go.Eng
open Go Go.RowKit
theorem ZoI{F:Fence}{n:Nat}{P:Program}{c:Code}{Q:Exit->Act->World->Prop}{a:Act}{w:World}(Inv:Nat->Act->World->Prop)(h0:∃q,Inv q a w)
  (round:∀q a w,Inv q a w->c.wpIn F n P (Exit.then (λa' w'=>∃q',q' < q/\Inv q' a' w') Q) a w):(Code.loop c).wpIn F n P Q a w:=by
 classical
 have iM:∀a w,(∃q,Inv q a w)->∃q,Inv q a w/\∀q',Inv q' a w->q<=q':=by
  intro a w ⟨q,hq⟩
  induction q using Nat.strongRecOn with
  | _ q ih=>
   by_cases hh:∃q',q' < q/\Inv q' a w
   ·obtain⟨q',h1,h2⟩:=hh;exact ih q' h1 h2
   ·exact⟨q,hq,λq' hq'=>Nat.le_of_not_lt λbB=>hh ⟨q',bB,hq'⟩⟩
 let μ:Act->World->Nat:=λa w=>if h:∃q,Inv q a w then Classical.choose (iM a w h)else 0
 have hμ:∀a w (h:∃q,Inv q a w),Inv (μ a w) a w/\∀q',Inv q' a w->μ a w<=q':=λa w h=>by
  have:=Classical.choose_spec (iM a w h)
  simp only[μ,h,dif_pos];exact this
 refine wpIn_loop (λa w=>∃q,Inv q a w) μ h0 λa w hI=>?_
 refine wpIn_mono (round _ a w (hμ a w hI).1) λe a' w' he=>?_
 cases e with
 | normal=>
  obtain⟨q',h1,h2⟩:=he
  exact⟨⟨q',h2⟩,Nat.lt_of_le_of_lt ((hμ a' w' ⟨q',h2⟩).2 q' h2) h1⟩
 | _=>exact he
theorem ZcU{P:Program}{b:Frame}{a:Act}{k:List Item}{cs:List Frame}{w:World}{c:Code}:step P (lone (b.atR a (.code (.scope c)::k)) cs w)=.next (lone (b.atR a (.code c::.inScope c::k)) cs w):=
 step_lone_go (by simp[stepG,stepG.exec,Frame.atR])
theorem Zlb{P:Program}{b:Frame}{a:Act}{k:List Item}{cs:List Frame}{w:World}{c:Code}:step P (lone (b.atR a (.inScope c::k)) cs w)=.next (lone (b.atR a k) cs w):=
 step_lone_go (by simp[stepG,stepG.exec,Frame.atR])
theorem Zqc{F:Fence}{n:Nat}{P:Program}{a:Act}{w:World}{Q:Exit->Act->World->Prop}{c:Code}(h:c.wpIn F n P (λe a w=>match e with
  | .goto _=>False
  | e=>Q e a w) a w):(Code.scope c).wpIn F n P Q a w:=by
 intro b k cs p7 hb hr
 have h0:(lone (b.atR a (.code (.scope c)::k)) cs w).fenced P F:=fenced_calm hb hr rfl
 obtain⟨e,a₁,w₁,hq,dD⟩:=h b (.inScope c::k) cs p7 hb hr
 cases e with
 | normal=>exact⟨.normal,a₁,w₁,hq,.head h0 ZcU (StepsIn.trans dD (.one (fenced_calm hb hr rfl) Zlb))⟩
 | exit id=>
  have hx:exitTo id (.inScope c::k)=exitTo id k:=by simp[exitTo]
  exact⟨.exit id,a₁,w₁,hq,λk' hk=>.head h0 ZcU (dD.1 k' (by rw[hx];exact hk)),
    λhr' hk=>let ⟨k₁,h1,h2⟩:=dD.2 hr' (by rw[hx];exact hk);⟨k₁,h1,.head h0 ZcU h2⟩⟩
 | goto l=>exact hq.elim
 | ret=>exact⟨_,a₁,w₁,hq,.of_steps (.one h0 ZcU) dD⟩
 | panic ch=>exact⟨_,a₁,w₁,hq,.of_steps (.one h0 ZcU) dD⟩
 | outgrown=>exact⟨_,a₁,w₁,hq,.of_steps (.one h0 ZcU) dD⟩
theorem YOk.cold{E:Env}{C:Ctx}(h:YOk E C):YOk E.cold C:=⟨h.y,h.m0⟩
def Zd6(E:Env)(Zbd:Nat->Array Oper->(St->Mem->Prop)->St->Mem->Prop):Prop:=
 ∀{C:Ctx} {F:Fence} (_:FOk F) (_:YOk E C) (n:Nat) (id:Nat) (ops:Array Oper) {K:St->Mem->Prop} {S:St} {m:Mem} {a:Act} {w:World} {Q:Exit->Act->World->Prop},
  Zmj C.n ops.toList=true->Rel C S m a w->Zbd id ops K S m->(∀S' m' a' w',K S' m'->Rel C S' m' a' w'->Q .normal a' w')->(Code.region id ops true).wpIn F n E.P Q a w
theorem ZcH{E:Env}(hE:E.ok){Zbd:Nat->Array Oper->(St->Mem->Prop)->St->Mem->Prop}(hD:ZeX E Zbd)(gz:Zd6 E Zbd):
  ∀(c:Code),ZaD E c=true->∀{F:Fence} (_:FOk F) {C:Ctx} (_:YOk E C) (_:ROk F C) (n:Nat),ZbC C.n c=true->∀{S:St} {m:Mem} {a:Act} {w:World} {K:KT} {Q:Exit->Act->World->Prop},Rel C S m a w->W E Zbd c K S m->
   (∀e S' m' a' w',K e S' m'->Rel C S' m' a' w'->Q e a' w')->c.wpIn F n E.P Q a w
 | .skip,_,F,hF,C,hY,hR,n,_,S,m,a,w,K,Q,hr,h,hK=>wpIn_skip (hK _ _ _ _ _ h hr)
 | .label _,_,F,hF,C,hY,hR,n,_,S,m,a,w,K,Q,hr,h,hK=>wpIn_label (hK _ _ _ _ _ h hr)
 | .exit _,_,F,hF,C,hY,hR,n,_,S,m,a,w,K,Q,hr,h,hK=>wpIn_exit (hK _ _ _ _ _ h hr)
 | .ret,_,F,hF,C,hY,hR,n,_,S,m,a,w,K,Q,hr,h,hK=>wpIn_ret (hK _ _ _ _ _ h hr)
 | .region id ops draw,hc,F,hF,C,hY,hR,n,hl,S,m,a,w,K,Q,hr,h,hK=>by
  simp only[W]at h
  simp only[ZbC]at hl
  cases hj:E.joins id with
  | none=>
   simp only[hj]at h
   cases draw with
   | true=>exact gz hF hY n id ops hl hr (by simpa using h) (λS' m' a' w' hk bC=>hK _ _ _ _ _ hk bC)
   | false=>
    simp only[cond_false]at h
    exact ZvU hY hr h λK' S' m' hr' h' fin=>wpIn_region (Zjl hE hF hY hl _ hr' h' (λS2 m2 a2 w2 hk bC=>by
     obtain⟨S3,m3,k3,r3⟩:=fin S2 m2 a2 w2 hk bC
     exact hK _ _ _ _ _ k3 r3))
  | some outs=>
   simp only[hj]at h
   obtain⟨xs,_,h1,h2⟩:=Shape.exL_elim _ _ h
   have fin:∀S' m' a' w',((S'.gh=S.gh/\Zcb S' Zhg S.ids=Zcb S Zhg S.ids/\Zbk S' Zhg S.tkeys=Zbk S Zhg S.tkeys/\ZhN S' outs λxs'=>xs'=xs)/\SameOut (Zav ops.toList) S S'/\m.le m')->Rel C S' m' a' w'->Q .normal a' w':=by
    rintro S' m' a' w' ⟨⟨g0,g1,g2,g3⟩,g4,g5⟩ bC
    obtain⟨xs',_,e2,e3,rfl⟩:=Zc5 bC g3
    refine hK _ _ _ _ _ h2 ?_
    have hz:=Zff (A:=⟨outs,[],[],false⟩) (css:=[]) (tvs:=[]) hr.ok bC g4 (by simpa[Zcb,Zhg]using g1) (by simpa[Zbk,Zhg]using g2) e2 rfl (by simp) rfl (by simp)
    have:Zb4 S (Zav ops.toList) ⟨outs,[],[],false⟩ S'.gh xs' [] []={ S with env:=ZbY (λi=>bif (Zav ops.toList).any (Nat.beq i ·)then none else S.env i) outs xs' }:=by
     simp[Zb4,ZhZ,Zga,g0]
    rw[this]at hz
    exact hz.forget g5 hr.le (λid x hx hf=>(hr.own id x hx).known hf)
   cases draw with
   | true=>
    simp only[cond_true]at h1
    cases dE:E.last id with
    | true=>simp only[dE,cond_true]at h1
    | false=>
    simp only[dE,cond_false]at h1
    have h1':=hD id ops _ (λS' m'=>(S'.gh=S.gh/\Zcb S' Zhg S.ids=Zcb S Zhg S.ids/\Zbk S' Zhg S.tkeys=Zbk S Zhg S.tkeys/\ZhN S' outs λxs'=>xs'=xs)/\SameOut (Zav ops.toList) S S'/\m.le m') S m (λS' m' hs hm y=>⟨by have y':=ZeZ y;rw[Zdg,Zdh]at y';exact⟨y'.1 rfl,y'.2⟩,hs,hm.le dE⟩) h1
    exact gz hF hY n id ops hl hr h1' fin
   | false=>
    simp only[cond_false]at h1
    have h1':ZvM E.cold ops (List.range ops.size) (λS' m'=>(S'.gh=S.gh/\Zcb S' Zhg S.ids=Zcb S Zhg S.ids/\Zbk S' Zhg S.tkeys=Zbk S Zhg S.tkeys/\ZhN S' outs λxs'=>xs'=xs)/\SameOut (Zav ops.toList) S S'/\m.le m') S m:=
     Zik (E:=E.cold) (λS' m' hs hm y=>⟨by have y':=ZeZ y;rw[Zdg,Zdh]at y';exact⟨y'.1 rfl,y'.2⟩,hs,hm⟩) h1
    exact wpIn_region (Zjl (E:=E.cold) hE hF hY.cold hl _ hr h1' fin)
 | .seq x y,hc,F,hF,C,hY,hR,n,hl,S,m,a,w,K,Q,hr,h,hK=>by
  simp only[ZaD,ZbC,Bool.and_eq_true]at hc hl
  simp only[W]at h
  cases fP:E.cuts (ZaW y)with
  | none=>
   simp only[fP]at h
   refine wpIn_seq (ZcH hE hD gz x hc.1.1 hF hY hR n hl.1 hr h λe S' m' a' w' hk bC=>?_)
   cases e with
   | normal=>exact ZcH hE hD gz y hc.1.2 hF hY hR n hl.2 bC hk hK
   | _=>exact hK _ _ _ _ _ hk bC
  | some A=>
   simp only[fP]at h hc
   obtain⟨J,h1,h2⟩:=h
   have h1':=ZeF hD x hc.1.1 (K':=λe S' m'=>(match e with
    | .normal=>Zmk A.gh S'.gh S.gh (ZnT (Zcb S' A S.ids) (Zcb S A S.ids) (ZnU (Zbk S' A S.tkeys) (Zbk S A S.tkeys) (ZhN S' A.slots λxs=>ZtI S' A.boxes λcss=>ZgJ S' A.toks λtvs=>J (ghs A.gh S'.gh xs) css tvs m')))
    | e=>K e S' m')/\SameOut (Zjz x) S S'/\leT E.thaw m m') (λe S' m' hs hm y=>⟨y,hs,hm⟩) h1
   refine wpIn_seq (ZcH hE hD gz x hc.1.1 hF hY hR n hl.1 hr h1' ?_)
   rintro e S' m' a' w' ⟨hk,hs,fE⟩ bC
   cases e with
   | normal=>
    obtain⟨r0,hk⟩:=ZeZ hk
    obtain⟨r1,hk⟩:=Zdg.1 hk
    obtain⟨r2,hk⟩:=Zdh.1 hk
    obtain⟨xs,f1,f2,f3,hk⟩:=Zc5 bC hk
    obtain⟨css,g1,g2,hk⟩:=ZdL hk
    obtain⟨tvs,k1,k2,hJ⟩:=Zcs hk
    have fD:∀v∈tvs,Zcf v=true:=λv hv=>by
     obtain⟨i,hi⟩:=List.getElem?_of_mem hv
     have bB:=(List.getElem?_eq_some_iff.1 hi).1
     obtain⟨qe,jg⟩:∃qe,A.toks[i]?=some qe:=⟨_,List.getElem?_eq_getElem (by omega)⟩
     exact(k2 i qe.1 qe.2 v jg hi).1
    exact ZcH hE hD gz y hc.1.2 hF hY hR n hl.2 (Zff hr.ok bC hs r1 r2 f2 g1 g2 k1 k2) (Ze3 (Ze2 (Shape.allL_fits _ _ (Zif h2 r0) xs f1) css g1) tvs k1 fD m' fE hJ) hK
   | _=>exact hK _ _ _ _ _ hk bC
 | .cond c x y,hc,F,hF,C,hY,hR,n,hl,S,m,a,w,K,Q,hr,h,hK=>by
  simp only[ZaD,ZbC,Bool.and_eq_true]at hc hl
  obtain⟨v,hv,h⟩:=ZaK h
  obtain⟨h1,h2⟩:=Zag h
  obtain⟨b,rfl⟩:∃b,v=.bool b:=⟨_,Zb3 h1⟩
  simp only[ZcZ]at h2
  refine wpIn_cond (hr.ev hv) ?_
  cases b
  ·exact ZcH hE hD gz y hc.2 hF hY hR n hl.2 hr h2 hK
  ·exact ZcH hE hD gz x hc.1 hF hY hR n hl.1 hr h2 hK
 | .block id x,hc,F,hF,C,hY,hR,n,hl,S,m,a,w,K,Q,hr,h,hK=>by
  simp only[ZaD,ZbC]at hc hl
  simp only[W]at h
  refine wpIn_block (ZcH hE hD gz x hc hF hY hR n hl hr h λe S' m' a' w' hk bC=>?_)
  cases e with
  | exit id'=>
   simp only at hk
   simp only[Exit.inBlock]
   cases hb:Nat.beq id' id with
   | true=>
    simp only[hb,cond_true]at hk
    rw[if_pos (Nat.eq_of_beq_eq_true hb)]
    exact hK _ _ _ _ _ hk bC
   | false=>
    simp only[hb,cond_false]at hk
    rw[if_neg (λe=>by subst e;simp at hb)]
    exact hK _ _ _ _ _ hk bC
  | _=>exact hK _ _ _ _ _ hk bC
 | .loop x,hc,F,hF,C,hY,hR,n,hl,S,m,a,w,K,Q,hr,h,hK=>by
  simp only[ZaD,ZbC,Bool.and_eq_true]at hc hl
  simp only[W]at h
  obtain⟨I,h1,h2⟩:=h
  generalize hA:E.loops (ZaW x)=A at *
  obtain⟨xs,f1,f2,f3,h1⟩:=Zc5 hr h1
  obtain⟨css,g1,g2,h1⟩:=ZdL h1
  obtain⟨tvs,k1,k2,q,h1⟩:=Zcs h1
  have cC:=hr.ok
  refine ZoI (λq a w=>∃g xs css tvs m',(A.gh=false->g=S.gh)/\Shape.fitsL (A.slots.map (·.2)) xs=true/\css.length=A.boxes.length/\tvs.length=A.toks.length/\(∀v∈tvs,Zcf v=true)/\leT E.thaw m m'/\I (ghs A.gh g xs) css tvs m' q/\Rel C (Zb4 S (Zjz x) A g xs css tvs) m' a w) ?_ ?_
  ·refine⟨q,S.gh,xs,css,tvs,m,λ_=>rfl,f1,g1,k1,λv hv=>?_,leT.refl _ m,h1,?_⟩
   ·obtain⟨i,hi⟩:=List.getElem?_of_mem hv
    have bB:=(List.getElem?_eq_some_iff.1 hi).1
    obtain⟨qe,jg⟩:∃qe,A.toks[i]?=some qe:=⟨_,List.getElem?_eq_getElem (by omega)⟩
    exact(k2 i qe.1 qe.2 v jg hi).1
   ·exact Zff cC hr (SameOut.refl _ _) rfl rfl f2 g1 g2 k1 k2
  ·rintro q a w ⟨g,xs,css,tvs,m',hg,f1,g1,k1,k2,hm,hI,bC⟩
   have hb:=Ze3 (Ze2 (Shape.allL_fits _ _ (Zif h2 hg) xs f1) css g1) tvs k1 k2 m' q hm hI
   have hb':=ZeF hD x hc.1 (K':=λe S' m''=>(match e with
    | .normal=>Zmk A.gh S'.gh S.gh (ZnT (Zcb S' A S.ids) (Zcb S A S.ids) (ZnU (Zbk S' A S.tkeys) (Zbk S A S.tkeys) (ZhN S' A.slots λxs'=>ZtI S' A.boxes λcss'=>ZgJ S' A.toks λtvs'=>∃n',n' < q/\I (ghs A.gh S'.gh xs') css' tvs' m'' n')))
    | e=>K e S' m'')/\SameOut (Zjz x) (Zb4 S (Zjz x) A g xs css tvs) S'/\leT E.thaw m' m'') (λe S' m'' hs hm y=>⟨y,hs,hm⟩) hb
   refine ZcH hE hD gz x hc.1 hF hY hR n hl bC hb' ?_
   rintro e S' m'' a' w' ⟨hk,hs,fE⟩ jj
   cases e with
   | normal=>
    obtain⟨r0,hk⟩:=ZeZ hk
    obtain⟨r1,hk⟩:=Zdg.1 hk
    obtain⟨r2,hk⟩:=Zdh.1 hk
    obtain⟨xs',f1',f2',f3',hk⟩:=Zc5 jj hk
    obtain⟨css',g1',g2',hk⟩:=ZdL hk
    obtain⟨tvs',k1',k2',q',bB,hI'⟩:=Zcs hk
    have hm':leT E.thaw m m'':=leT.trans hm fE
    refine⟨q',bB,S'.gh,xs',css',tvs',m'',r0,f1',g1',k1',λv hv=>?_,hm',hI',?_⟩
    ·obtain⟨i,hi⟩:=List.getElem?_of_mem hv
     have bB:=(List.getElem?_eq_some_iff.1 hi).1
     obtain⟨qe,jg⟩:∃qe,A.toks[i]?=some qe:=⟨_,List.getElem?_eq_getElem (by omega)⟩
     exact(k2' i qe.1 qe.2 v jg hi).1
    ·have cX:SameOut (Zjz x) S S':=SameOut.trans (Zd4 (S':=Zb4 S (Zjz x) A g xs css tvs) hc.2 rfl) hs
     exact Zff cC jj cX r1 r2 f2' g1' g2' k1' k2'
   | _=>exact hK _ _ _ _ _ hk jj
 | .goto _,_,F,hF,C,hY,hR,n,_,S,m,a,w,K,Q,hr,h,hK=>by simp[W]at h
 | .scope x,hc,F,hF,C,hY,hR,n,hl,S,m,a,w,K,Q,hr,h,hK=>by
  simp only[ZaD,ZbC]at hc hl
  simp only[W]at h
  refine Zqc (ZcH hE hD gz x hc hF hY hR n hl hr h λe S' m' a' w' hk bC=>?_)
  cases e with
  | goto l=>exact hk.elim
  | _=>exact hK _ _ _ _ _ hk bC
 | .rangeFunc f ps x y,hc,F,hF,C,hY,hR,n,hl,S,m,a,w,K,Q,hr,h,hK=>by
  simp only[ZaD,ZbC,Bool.and_eq_true]at hc hl
  simp only[W]at h
  exact ZoH hF hY hR n (λhF' _ hY' hR' n' hl'=>ZcH hE hD gz x hc.1 hF' hY' hR' n' hl') (λhF' _ hY' hR' n' hl'=>ZcH hE hD gz y hc.2 hF' hY' hR' n' hl')
   (λhk=>ZeF hD x hc.1 (λe S' m' _ hm y=>⟨y,hm⟩) hk) (λhk=>ZeF hD y hc.2 (λe S' m' _ hm y=>⟨y,hm⟩) hk) hl.2.1 hl.2.2 hl.1 hr h hK
 | .refuse _,_,F,hF,C,hY,hR,n,_,S,m,a,w,K,Q,hr,h,hK=>by simp[W]at h
def bid(j:Nat):Nat:=100000+j
def Zqd(xs:List Box):SV->Value
 | .v x=>x
 | .loc id off=>match xs[id - 100000]? with
  | some x=>.pointer (some ⟨x.b,off,none⟩)
  | none=>undef
 | .sl id n c=>match xs[id - 100000]? with
  | some x=>.slice (some ⟨x.b,0,none⟩) n c
  | none=>undef
def Zxt(xs:List Box):SV->Bool
 | .v _=>true
 | .loc id _=>Nat.ble 100000 id&&Nat.blt (id - 100000) xs.length
 | .sl id _ _=>Nat.ble 100000 id&&Nat.blt (id - 100000) xs.length
def Zmq(xs:List Box):List SV->Bool
 | []=>true
 | s::l=>Zxt xs s&&Zmq xs l
def S0(svs:List SV)(xs:List Box):St:=
 {env:=λi=>svs[i]?
  L:=λid=>bif Nat.ble 100000 id then xs[id - 100000]? else none
  ids:=(List.range xs.length).map bid
  tok:=λ_=>none
  tkeys:=[]
  gh:=0 }
def ZtJ(E:Env)(S:St)(m:Mem):ResultVar->(Value->Prop)->Prop
 | .tmp t,k=>wv S (.tmp t) k
 | .cell t T,k=>ZgH E S m T (.tmp t) k
def Zqe(tmps:Array Value):ResultVar->Sem Value
 | .tmp t=>pure (tmps.getD t undef)
 | .cell a t=>do loadVar t (<-asAddr (tmps.getD a undef))
def Zxd(E:Env)(S:St)(m:Mem):List ResultVar->(List Value->Prop)->Prop
 | [],k=>k []
 | r::l,k=>ZtJ E S m r λv=>Zxd E S m l λvs=>k (v::vs)
def ZtA:List Value->Value
 | [v]=>v
 | vs=>.tuple vs.toArray
def ZvB(S:St):Nat->List Box->(List (List Value)->Prop)->Prop
 | _,[],k=>k []
 | j,x::xs,k=>match S.L (bid j)with
  | none=>False
  | some y=>{ y with cs:=x.cs }=x/\ZvB S (j+1) xs λcss=>k (y.cs::css)
def ZvC(l:List Nat):Bool:=Zbl l&&l.all (λi=>Nat.blt i 100000)
def Zy1(E:Env)(rs:List ResultVar)(m0:Mem)(xs:List Box)(R:Value->Mem->List (List Value)->Prop)(S:St)(m:Mem):Prop:=
 Zxd E S m rs λvs=>ZvB S 0 xs λcss=>∃m'',m0.le m''/\m''.le (ZtE S E.frz m)/\R (ZtA vs) m'' css
def Zy8(E:Env)(rs:List ResultVar)(m0:Mem)(xs:List Box)(R:Value->Mem->List (List Value)->Prop):KT:=λe S m=>match e with
 | .normal=>Zy1 E rs m0 xs R S m
 | .ret=>Zy1 E rs m0 xs R S m
 | _=>False
theorem ZoJ{P:Program}{T:TypeId}{x v:Value}{w:World}(h:(Instr.loadAt T x).run P w=.ok v w):(do loadVar T (<-asAddr x):Sem Value).run P w=.ok v w:=by
 cases x with
 | pointer p=>
  cases p with
  | none=>simp[Instr.loadAt,Instr.sureAddr]at h
  | some p=>simpa[Instr.loadAt,Instr.sureAddr,asAddr]using h
 | _=>simp[Instr.loadAt,Instr.sureAddr]at h
theorem Znq{a b:Nat}(h:Nat.blt a b=true):a < b:=Nat.le_of_ble_eq_true h
section
variable {C:Ctx} {S:St} {m:Mem} {a:Act} {w:World}
theorem Zlc{E:Env}(hE:E.ok)(hr:Rel C S m a w){r:ResultVar}{k:Value->Prop}(h:ZtJ E S m r k):∃v,k v/\(Zqe a.tmps r).run E.P w=.ok v w:=by
 cases r with
 | tmp t=>
  obtain⟨v,hv,hk⟩:=ZaK h
  refine⟨v,hk,?_⟩
  have:=hr.ev hv
  simp only[Act.eval]at this
  simp only[Zqe]
  rw[<-this];rfl
 | cell t T=>
  obtain⟨v,hk,bM⟩:=Zg7 hE hr h
  exact⟨v,hk,ZoJ bM⟩
theorem Ze5{E:Env}(hE:E.ok)(hr:Rel C S m a w):∀{rs:List ResultVar} {k:List Value->Prop},Zxd E S m rs k->∃vs,k vs/\(rs.mapM (Zqe a.tmps)).run E.P w=.ok vs w
 | [],k,h=>⟨[],h,by simp⟩
 | r::l,k,h=>by
  obtain⟨v,h,h1⟩:=Zlc hE hr h
  obtain⟨vs,hk,h2⟩:=Ze5 hE hr h
  refine⟨v::vs,hk,?_⟩
  rw[List.mapM_cons]
  simp only[Sem.run_bind,h1,Result.andThen_ok,h2]
  rfl
theorem ZdN{fn:Func}{tmps:Array Value}{P:Program}{w:World}{vs:List Value}(h:(fn.results.toList.mapM (Zqe tmps)).run P w=.ok vs w):(results fn tmps).run P w=.ok (ZtA vs) w:=by
 have e:results fn tmps=(do
  let vs <-fn.results.mapM (Zqe tmps)
  pure (if h:vs.size=1 then vs[0]else .tuple vs)):=rfl
 rw[e,Array.mapM_eq_mapM_toList]
 simp only[Sem.run_bind,Sem.run_map,h,Result.andThen_ok]
 match vs with
 | []=>rfl
 | [v]=>rfl
 | v::u::l=>rfl
theorem Zhk:∀{xs:List Box} {j:Nat} {k:List (List Value)->Prop},ZvB S j xs k->∃css,css.length=xs.length/\(∀(i:Nat)(x:Box),xs[i]?=some x->∃cs,css[i]?=some cs/\S.L (bid (j+i))=some { x with cs:=cs })/\k css
 | [],j,k,h=>⟨[],rfl,by simp,h⟩
 | x::xs,j,k,h=>by
  simp only[ZvB]at h
  cases hL:S.L (bid j)with
  | none=>simp[hL]at h
  | some y=>
   simp only[hL]at h
   obtain⟨h1,h2⟩:=h
   obtain⟨css,g1,g2,g3⟩:=Zhk h2
   refine⟨y.cs::css,by simp[g1],?_,g3⟩
   intro i z hi
   cases i with
   | zero=>
    simp at hi;subst hi
    refine⟨y.cs,by simp,?_⟩
    rw[Nat.add_zero,hL,<-h1]
   | succ i=>
    obtain⟨cs,h3,h4⟩:=g2 i z (by simpa using hi)
    exact⟨cs,by simpa using h3,by rw[<-h4];congr 2;omega⟩
theorem Ze6(S:St)(m:Mem):∀{l:List Nat} {b:Nat},(∀id∈l,∀x,S.L id=some x->x.b≠b)->∀o,ZtE S l m b o=m b o
 | [],b,_,o=>rfl
 | id::l,b,h,o=>by
  have ih:=Ze6 S m (l:=l) (b:=b) (λi hi=>h i (by simp[hi])) o
  simp only[ZtE]
  cases hL:S.L id with
  | none=>exact ih
  | some x=>
   simp only
   cases hz:x.fz with
   | true=>exact ih
   | false=>
    simp only[cond_false]
    rw[Mem.add_other _ (Ne.symm (h id (by simp) x hL))];exact ih
theorem Zq5(hr:Rel C S m a w):∀{l:List Nat},l.Nodup->m.le (ZtE S l m)/\Sub (ZtE S l m) w/\(∀b o v,ZtE S l m b o=some v->m b o=some v\/∃id∈l,∃x,S.L id=some x/\x.b=b)
 | [],_=>⟨Mem.le_refl m,hr.sub,λb o v h=>.inl h⟩
 | id::l,hn=>by
  obtain⟨h1,h2⟩:=List.nodup_cons.1 hn
  obtain⟨i1,i2,i3⟩:=Zq5 hr h2
  simp only[ZtE]
  cases hL:S.L id with
  | none=>exact⟨i1,i2,λb o v h=>(i3 b o v h).imp_right λ⟨id',h,x⟩=>⟨id',by simp[h],x⟩⟩
  | some x=>
   simp only
   cases hz:x.fz with
   | true=>exact⟨i1,i2,λb o v h=>(i3 b o v h).imp_right λ⟨id',h,x⟩=>⟨id',by simp[h],x⟩⟩
   | false=>
    simp only[cond_false]
    have eP:=(hr.own id x hL)
    have bT:(ZtE S l m).free x.b:=λo=>by
     rw[Ze6 S m (λi hi y hy e=>h1 (hr.apart _ _ _ _ hy hL e ▸ hi))]
     exact eP.free hz o
    refine⟨mLt i1 (Mem.le_add bT x.cs),?_,?_⟩
    ·intro b o v hv
     by_cases hb:b=x.b
     ·subst hb;rw[Mem.add_same]at hv;exact eP.cell hv
     ·rw[Mem.add_other _ hb]at hv;exact i2 b o v hv
    ·intro b o v hv
     by_cases hb:b=x.b
     ·exact .inr ⟨id,by simp,x,hL,hb.symm⟩
     ·rw[Mem.add_other _ hb]at hv
      exact(i3 b o v hv).imp_right λ⟨id',h,x⟩=>⟨id',by simp[h],x⟩
end
theorem Zjm{xs:List Box}:∀{l:List SV},Zmq xs l=true->∀(i:Nat) s,l[i]?=some s->Zxt xs s=true
 | [],_,i,s,h=>by simp at h
 | x::l,h,i,s,hs=>by
  simp only[Zmq,Bool.and_eq_true]at h
  cases i with
  | zero=>simp at hs;subst hs;exact h.1
  | succ i=>exact Zjm h.2 i s (by simpa using hs)
def Zyo(n:Nat)(m:Mem)(w:World)(bs:List Nat):Ctx where
 n:=n
 m0:=m
 p:=λ_ M w'=>Keep w.heap.size bs w w'/\∀k,M k->w.heap.size<=k\/k∈bs
 st:=by
  rintro g M M' w1 w2 ⟨h1,h2⟩ hu hg
  refine⟨h1.trans ⟨hu.os,hu.tape,hu.output,hu.size,λk hk hn=>hu.block k (Nat.lt_of_lt_of_le hk h1.size) λhm=>?_,hu.wr⟩,λk hk=>?_⟩
  ·rcases h2 k hm with h|h
   ·omega
   ·exact hn h
  ·rcases hg k hk with h|h
   ·exact h2 k h
   ·have:=h1.size;exact .inl (by omega)
theorem ZtK{n:Nat}{m:Mem}{w:World}{bs:List Nat}(hb:∀k∈bs,Wr w k){g:Int}{M:Nat->Prop}{w':World}(h:(Zyo n m w bs).p g M w')(k:Nat)(hk:M k):Wr w' k:=by
 rcases h.2 k hk with h1|h1
 ·exact h.1.wr k (Wr.of_none h1)
 ·exact h.1.wr k (hb k h1)
theorem Zmr{C:Ctx}{w:World}{xs:List Box}{svs:List SV}(hs:Sub C.m0 w)(hx:∀x∈xs,Own C.m0 w x/\x.fz=false)(dT:(xs.map (·.b)).Nodup)(cC:Zmq xs svs=true)(hn:svs.length<=C.n)(hp:C.p 0 (λk=>k∈xs.map (·.b)) w):
  Rel C (S0 svs xs) C.m0 { tmps:=(svs.map (Zqd xs)).toArray++Array.replicate (C.n - (svs.map (Zqd xs)).toArray.size) undef,defers:=[] } w:=by
 have hL:∀id x,(S0 svs xs).L id=some x->100000<=id/\xs[id - 100000]?=some x:=λid x h=>by
  simp only[S0]at h
  cases hb:Nat.ble 100000 id with
  | false=>simp[hb]at h
  | true=>simp only[hb,cond_true]at h;exact⟨Nat.le_of_ble_eq_true hb,h⟩
 refine⟨⟨[],rfl,List.nodup_nil,by simp⟩,by simp;omega,?_,?_,?_,?_,by simp[S0],by simp[S0],by simp[S0],hs,Mem.le_refl _,⟨_,hp,λk hk=>?_,λid x hx=>?_,λk t b ht=>by simp[S0]at ht,by simp,λ_ _ _ h=>.inl h⟩⟩
 ·intro i sv he
  simp only[S0]at he
  have bB:=(List.getElem?_eq_some_iff.1 he).1
  have h1:=Zjm cC i sv he
  refine⟨Zqd xs sv,?_,?_⟩
  ·cases sv with
   | v x=>rfl
   | loc id off=>
    simp only[Zxt,Bool.and_eq_true]at h1
    have h2:id - 100000 < xs.length:=Znq h1.2
    simp[St.den,S0,Zqd,h1.1,List.getElem?_eq_getElem h2]
   | sl id n c=>
    simp only[Zxt,Bool.and_eq_true]at h1
    have h2:id - 100000 < xs.length:=Znq h1.2
    simp[St.den,S0,Zqd,h1.1,List.getElem?_eq_getElem h2]
  ·rw[Array.getElem?_append_left (by simpa using bB)]
   simp[he]
 ·intro id x hx'
  have:=List.mem_of_getElem? (hL id x hx').2
  exact(hx x this).1
 ·intro id id' x x' h1 h2 hb
  obtain⟨g1,g2⟩:=hL _ _ h1
  obtain⟨g3,g4⟩:=hL _ _ h2
  have hi:=(List.getElem?_eq_some_iff.1 g2).1
  have hi':=(List.getElem?_eq_some_iff.1 g4).1
  have:=(List.getElem?_inj (l:=xs.map (·.b)) (i:=id - 100000) (j:=id' - 100000) (by simpa using hi) dT).1 (by simp[g2,g4,hb])
  omega
 ·intro id x h1
  obtain⟨g1,g2⟩:=hL _ _ h1
  have hi:=(List.getElem?_eq_some_iff.1 g2).1
  simp only[S0,List.mem_map,List.mem_range,bid]
  exact⟨id - 100000,hi,by omega⟩
 ·obtain⟨x,h1,h2⟩:=List.mem_map.1 hk
  exact h2 ▸ (hx x h1).1.lt
 ·exact List.mem_map.2 ⟨x,List.mem_of_getElem? (hL id x hx).2,rfl⟩
theorem ZoK{n:Nat}{w:World}{m:Mem}{xs:List Box}{svs:List SV}(hs:Sub m w)(hx:∀x∈xs,Own m w x/\x.fz=false)(dT:(xs.map (·.b)).Nodup)(cC:Zmq xs svs=true)(hn:svs.length<=n):
  Rel (Zyo n m w (xs.map (·.b))) (S0 svs xs) m { tmps:=(svs.map (Zqd xs)).toArray++Array.replicate (n - (svs.map (Zqd xs)).toArray.size) undef,defers:=[] } w:=
 Zmr (C:=Zyo n m w (xs.map (·.b))) hs hx dT cC hn ⟨Keep.refl _ _ _,λk hk=>.inr hk⟩
theorem Rel.leave{P:Program}{C:Ctx}{S:St}{m:Mem}{fn:Func}{tmps:Array Value}{R:Ending->World->Prop}(h:∀a' w',a'.tmps=tmps->Rel C S m a' w'->∃v,(results fn tmps).run P w'=.ok v w'/\R (.returned v) w'):
  ∀(ms:List Nat)(a:Act)(w:World),a.tmps=tmps->a.defers=ms.map Zkk->Rel C S m a w->LeavesInM Fence.wide 0 P fn tmps R a.defers .returning w
 | [],a,w,ht,hm,hr=>by
  rw[hm]
  simp only[List.map_nil,LeavesInM,LeavesIn]
  exact h a w ht hr
 | D::ms,a,w,ht,hm,hr=>by
  obtain⟨ms',q1,q2,q3⟩:=hr.defers
  have fE:ms'=D::ms:=by
   rw[hm]at q1
   have inj:∀(l l':List Nat),l.map Zkk=l'.map Zkk->l=l':=by
    intro l
    induction l with
    | nil=>intro l' h;cases l' <;> simp_all
    | cons x l ih=>
     intro l' h
     cases l' with
     | nil=>simp at h
     | cons y l'=>simp only[List.map_cons,List.cons.injEq]at h;rw[ih l' h.2];simpa[Zkk]using h.1
   exact(inj _ _ q1).symm
  subst fE
  have hD:=q3 D (by simp)
  rw[hm]
  simp only[List.map_cons,LeavesInM]
  refine⟨by simp,.inl ⟨D,_,rfl,run_takeDeferred hD,?_⟩⟩
  have hr':Rel C S m { a with defers:=ms.map Zkk } (w.putObj D (.deferred none)):=by
   obtain⟨M,hd⟩:=hr.dom
   have tT:M D:=hd.mks D (by rw[hm];simp)
   have cW:∀k,k≠D->(w.putObj D (.deferred none)).heap[k]?=w.heap[k]?:=λk hk=>World.putObj_heap_other hk
   refine hr.swap rfl hr.le rfl rfl rfl rfl hr.env hr.size ⟨ms,rfl,(List.nodup_cons.1 q2).2,λD' hD'=>?_⟩ (λk c T fr hk=>cW k (λe=>by rw[e,hD]at hk;cases hk)) (λk t b ht hb=>((hr.toks k t ht).2 b hb).2) ?_
   ·rw[cW D' (λe=>(List.nodup_cons.1 q2).1 (e ▸ hD'))];exact q3 D' (by simp[hD'])
   ·have h1:=hd.step (m':=m) (ZgM (o:=.deferred none) rfl tT) (λb o v hv=>.inl hv)
    exact⟨_,h1.p,h1.lt,h1.own,h1.tok,λD' hD'=>h1.mks D' (by rw[hm];exact List.mem_cons_of_mem _ hD'),h1.new⟩
  exact Rel.leave h ms { a with defers:=ms.map Zkk } _ ht rfl hr'
theorem ZvX{E:Env}(hE:E.ok){Zbd:Nat->Array Oper->(St->Mem->Prop)->St->Mem->Prop}(hD:ZeX E Zbd)(gz:Zd6 E Zbd){g:FuncId}{fn:Func}{c:Code}
  (hf:E.P.funcs[g]?=some fn) (hn:(fn.name == "runtime.NumGoroutine")=false) (hb:fn.body=some c) (hc:ZaD E c=true) (hl:ZbC fn.ntmps c=true) (hz:ZvC E.frz=true) (gG:E.yl=none)
  {m:Mem} (eI:∀mm,E.m0=some mm->m=mm) {R:Value->Mem->List (List Value)->Prop} (svs:List SV) (xs:List Box) (bS:Nat.ble svs.length fn.ntmps=true) (cC:Zmq xs svs=true)
  (h:W E Zbd c (Zy8 E fn.results.toList m xs R) (S0 svs xs) m):CX E.P g (svs.map (Zqd xs)).toArray m xs R:=by
 refine⟨Zh5 hf hn (by simp[hb]),λw hs hx dT=>?_⟩
 have bC:=ZoK (n:=fn.ntmps) hs hx dT cC (Nat.le_of_ble_eq_true bS)
 refine callsIn_wide.1 (callsIn_of_wp_marks (F:=Fence.wide) (n:=0) hf hb trivial ?_)
 refine ZcH hE hD gz c hc (.inl rfl) (YOk.none gG (λmm fE=>⟨eI mm fE,λg M w' hp k hk=>ZtK (λk hk=>by
  obtain⟨x,h1,rfl⟩:=List.mem_map.1 hk
  exact(hx x h1).1.wr) hp k hk⟩)) (λl hl=>by cases hl) 0 hl bC h ?_
 have key:∀S' m' a' w',Zy1 E fn.results.toList m xs R S' m'->Rel (Zyo fn.ntmps m w (xs.map (·.b))) S' m' a' w'->LeavesInM Fence.wide 0 E.P fn a'.tmps (λe w'=>
   ∃v_1 m'_1 css,e=Ending.returned v_1/\m.le m'_1/\Sub m'_1 w'/\Zh2 m m'_1 w.heap.size/\Keep w.heap.size (xs.map (·.b)) w w'/\css.length=xs.length/\(∀(i:Nat)(x:Box)(cs:List Value),xs[i]?=some x->css[i]?=some cs->Own m'_1 w' { x with cs:=cs })/\R v_1 m'_1 css) a'.defers .returning w':=by
  intro S' m' a' w' hk hr
  obtain⟨ms,q1,_,_⟩:=hr.defers
  refine Rel.leave ?_ ms a' w' rfl q1 hr
  clear hr q1
  intro a2 w2 ht hr
  rw[<-ht]
  obtain⟨vs,hk,bM⟩:=Ze5 hE hr hk
  obtain⟨css,h1,h2,m'',h3,h4,h5⟩:=Zhk hk
  obtain⟨M,hd⟩:=hr.dom
  refine⟨ZtA vs,ZdN bM,ZtA vs,m'',css,rfl,h3,?_,?_,hd.p.1,h1,?_,h5⟩
  all_goals simp only[ZvC,Bool.and_eq_true]at hz
  all_goals have oU:=ZaN hz.1
  all_goals obtain⟨f1,f2,f3⟩:=Zq5 hr oU
  ·exact λb o v hv=>f2 b o v (h4 b o v hv)
  ·intro b o v hv
   rcases f3 b o v (h4 b o v hv)with hv|⟨id,cO,x,eR,gu⟩
   ·rcases hd.new b o v hv with h6|h6
    ·exact .inl h6
    ·rcases hd.p.2 b h6 with h6|h6
     ·exact .inr h6
     ·exfalso
      obtain⟨y,hy,gm⟩:=List.mem_map.1 h6
      obtain⟨i,hi⟩:=List.getElem?_of_mem hy
      obtain⟨cs,_,iG⟩:=h2 i y hi
      have:=(hr.own _ _ iG).free (hx y hy).2 o
      simp only[gm]at this
      rw[this]at hv;cases hv
   ·right
    have h6:=hd.p.2 _ (hd.own id x eR)
    subst gu
    rcases h6 with h6|h6
    ·exact h6
    ·exfalso
     obtain⟨y,hy,gm⟩:=List.mem_map.1 h6
     obtain⟨i,hi⟩:=List.getElem?_of_mem hy
     obtain⟨cs,_,iG⟩:=h2 i y hi
     have:=hr.apart _ _ _ _ eR iG gm.symm
     have bB:id < 100000:=by
      have:=List.all_eq_true.1 hz.2 id cO
      exact Znq this
     simp only[bid]at this
     omega
  ·intro i x cs hi cV
   obtain⟨cs',h6,h7⟩:=h2 i x hi
   rw[cV]at h6;cases h6
   have ho:=hr.own _ _ h7
   have ni:=(hx x (List.mem_of_getElem? hi)).2
   refine⟨ho.cells,λ_ o=>?_,λhz'=>by simp[ni]at hz',ho.whole⟩
   cases hv:m'' x.b o with
   | none=>rfl
   | some v=>
    have h8:=h4 _ _ _ hv
    rw[Ze6 S' m' (λid cO y hy e=>?_)]at h8
    ·have:=ho.free ni o
     simp only at this
     rw[this]at h8;cases h8
    ·have:=hr.apart _ _ _ _ hy h7 e
     have bB:id < 100000:=by
      have:=List.all_eq_true.1 hz.2 id cO
      exact Znq this
     simp only[bid]at this
     omega
 intro e S' m' a' w' hk hr
 cases e with
 | normal=>exact key S' m' a' w' hk hr
 | ret=>exact key S' m' a' w' hk hr
 | exit _=>exact hk.elim
 | goto _=>exact hk.elim
 | panic _=>exact hk.elim
 | outgrown=>exact hk.elim
def Zx0(E:Env)(rs:List ResultVar)(n:Nat):KT:=λe S m=>match e with
 | .normal=>Zxd E S m rs λ_=>S.gh=n\/S.gh=-1
 | .ret=>Zxd E S m rs λ_=>S.gh=n\/S.gh=-1
 | _=>False
def Env.yields(E:Env)(l:Nat)(xs:List (List Value)):Env:={ E with yl:=some λl' g v=>l'=l/\0<=g/\xs[g.toNat]?=some v,m0:=none }
theorem ZvY{E:Env}(hE:E.ok){Zbd:(E:Env)->Nat->Array Oper->(St->Mem->Prop)->St->Mem->Prop}{g:FuncId}{fn:Func}{c:Code}
  (hf:E.P.funcs[g]?=some fn) (hn:(fn.name == "runtime.NumGoroutine")=false) (hb:fn.body=some c) (hl:ZbC fn.ntmps c=true)
  {m:Mem} (first captured:List Value) (xs:List (List Value)) (bS:Nat.ble (first.length+captured.length+1) fn.ntmps=true)
  (h:∀l,ZeX (E.yields l xs) (Zbd (E.yields l xs))/\Zd6 (E.yields l xs) (Zbd (E.yields l xs))/\ZaD (E.yields l xs) c=true/\W (E.yields l xs) (Zbd (E.yields l xs)) c (Zx0 E fn.results.toList xs.length) (S0 ((first++.func (.yield l) #[] #[]::captured).map .v) []) m):
  IX E.P g first captured m xs:=by
 refine⟨Zh5 hf hn (by simp[hb]),λp hp l w hs pS hy=>?_⟩
 obtain⟨hD,gz,hc,h⟩:=h l
 have hE':(E.yields l xs).ok:=hE
 let C:Ctx:=⟨fn.ntmps,m,p,hp⟩
 have cC:∀vs:List Value,Zmq [] (vs.map .v)=true:=λvs=>by
  induction vs with
  | nil=>rfl
  | cons v vs ih=>simp[Zmq,Zxt,ih]
 have lm:∀vs:List Value,(vs.map SV.v).map (Zqd [])=vs:=λvs=>by
  induction vs with
  | nil=>rfl
  | cons v vs ih=>simp only[List.map_cons,ih];rfl
 have bC:=Zmr (C:=C) (xs:=[]) (svs:=(first++.func (.yield l) #[] #[]::captured).map .v) hs (by simp) (by simp) (cC _) (by have:=Nat.le_of_ble_eq_true bS;simp;omega) (by
  have e:(λk=>k∈([]:List Box).map (·.b))=(λ_:Nat=>False):=by funext k;simp
  rw[e];exact pS)
 rw[lm]at bC
 refine callsIn_wide.1 (callsIn_of_wp_marks (F:=Fence.wide) (n:=0) hf hb trivial ?_)
 refine ZcH hE' hD gz c hc (.inl rfl) (C:=C) ⟨λY hY=>by
  simp only[Env.yields,Option.some.injEq]at hY
  subst hY;exact hy,λmm fE=>by cases fE⟩ (λl hl=>by cases hl) 0 hl bC h ?_
 have key:∀S' m' a' w',Zxd E S' m' fn.results.toList (λ_=>S'.gh=xs.length\/S'.gh=-1)->Rel C S' m' a' w'->LeavesInM Fence.wide 0 E.P fn a'.tmps (λe w'=>∃v M,e=.returned v/\(∀k,M k->k < w'.heap.size)/\(p xs.length M w'\/p (-1) M w')) a'.defers .returning w':=by
  intro S' m' a' w' hk hr
  obtain⟨ms,q1,_,_⟩:=hr.defers
  refine Rel.leave ?_ ms a' w' rfl q1 hr
  clear hr q1
  intro a2 w2 ht hr
  rw[<-ht]
  obtain⟨vs,hk,bM⟩:=Ze5 hE hr hk
  obtain⟨M,hd⟩:=hr.dom
  refine⟨ZtA vs,ZdN bM,_,M,rfl,hd.lt,?_⟩
  have:=hd.p
  rcases hk with hk|hk
  ·rw[hk]at this;exact .inl this
  ·rw[hk]at this;exact .inr this
 intro e S' m' a' w' hk hr
 cases e with
 | normal=>exact key S' m' a' w' hk hr
 | ret=>exact key S' m' a' w' hk hr
 | exit _=>exact hk.elim
 | goto _=>exact hk.elim
 | panic _=>exact hk.elim
 | outgrown=>exact hk.elim
def LC{α β:Type}(T1:(α->Prop)->Prop)(T2:(β->Prop)->Prop)(ρ:α->β->Prop):Prop:=
 T1 (λ_=>True)->T2 (λy2=>∃y1,(∀K,T1 K->K y1)/\ρ y1 y2)
section comb
variable {α β:Type} {ρ:α->β->Prop}
theorem LC.false{T2:(β->Prop)->Prop}:LC (λ_:α->Prop=>False) T2 ρ:=λh=>h.elim
theorem LC.ret{a:α}{b:β}(h:ρ a b):LC (λK=>K a) (λK=>K b) ρ:=λ_=>⟨a,λ_ hK=>hK,h⟩
theorem LC.chk{c:Bool}{T1:(α->Prop)->Prop}{T2:(β->Prop)->Prop}(h:c=true->LC T1 T2 ρ):LC (λK=>chk c (T1 K)) (λK=>chk c (T2 K)) ρ:=by
 cases c
 ·exact λh=>h.elim
 ·exact h rfl
theorem LC.br{c:Bool}{T1 U1:(α->Prop)->Prop}{T2 U2:(β->Prop)->Prop}(h:LC T1 T2 ρ)(k:LC U1 U2 ρ):LC (λK=>br c (T1 K) (U1 K)) (λK=>br c (T2 K) (U2 K)) ρ:=by
 cases c
 ·exact k
 ·exact h
theorem LC.and{p q:Prop}{T1:(α->Prop)->Prop}{T2:(β->Prop)->Prop}(jE:p->q)(h:p->LC T1 T2 ρ)(mono:∀{K K':β->Prop},(∀y,K y->K' y)->T2 K->T2 K'):LC (λK=>p/\T1 K) (λK=>q/\T2 K) ρ:=λ⟨h1,h2⟩=>
 ⟨jE h1,mono (λy ⟨y1,g1,g2⟩=>⟨y1,λK hK=>g1 K hK.2,g2⟩) (h h1 h2)⟩
theorem LC.map{γ δ:Type}{σ:γ->δ->Prop}{T1:(α->Prop)->Prop}{T2:(β->Prop)->Prop}(h:LC T1 T2 ρ)(f:α->γ)(g:β->δ)(tU:∀a b,ρ a b->σ (f a) (g b))(mono:∀{K K':β->Prop},(∀y,K y->K' y)->T2 K->T2 K'):
  LC (λK=>T1 λa=>K (f a)) (λK=>T2 λb=>K (g b)) σ:=λh1=>
 mono (λb ⟨a,g1,g2⟩=>⟨f a,λK hK=>g1 _ hK,tU _ _ g2⟩) (h h1)
end comb
abbrev LE{α:Type}(T1 T2:(α->Prop)->Prop):Prop:=LC T1 T2 Eq
theorem Zq6{l:List Value}{n:Nat}{α β:Type}{ρ:α->β->Prop}{f:Value->α}{g:Value->β}(h:∀v,ρ (f v) (g v)):LC (λK=>Zty l n λv=>K (f v)) (λK=>Zty l n λv=>K (g v)) ρ:=by
 unfold Zty
 cases hl:l[n]? with
 | none=>exact LC.false
 | some v=>simp only;exact LC.ret (h v)
theorem ZtL{op:BinOp}{b:Bool}:LE (Ztz op b) (Ztz op b):=by
 cases op <;> first
  | exact LC.false
  | exact LC.ret rfl
theorem ZvZ{op:BinOp}{k:IntKind}{a b:Int}:LE (Zw5 op k a b) (Zw5 op k a b):=by
 cases op <;> first
  | exact LC.false
  | exact LC.ret rfl
  | exact LC.and id (λ_=>LC.ret rfl) (λh=>h _)
theorem Zsr{op:BinOp}{k:IntKind}{a b:Int}:LE (ZkX op k a b) (ZkX op k a b):=by
 cases op <;> first
  | exact LC.false
  | exact LC.and id (λ_=>LC.ret rfl) (λh=>h _)
theorem Zv0{op:BinOp}{a b:ByteArray}:LE (Zw6 op a b) (Zw6 op a b):=by
 cases op <;> first
  | exact LC.false
  | exact LC.ret rfl
  | exact LC.and id (λ_=>LC.ret rfl) (λh=>h _)
theorem EqIs.unique{P:Program}{T:TypeId}{x y:Value}{a b:Bool}(w:World)(h:EqIs P T x y a)(k:EqIs P T x y b):a=b:=by
 have h1:=h.1 w
 rw[k.1 w]at h1
 cases h1;rfl
theorem Zv1{E:Env}(w:World){op:BinOp}{T:TypeId}{x y:Value}:LE (Zw1 E op T x y) (Zw1 E op T x y):=by
 unfold Zw1
 cases ht:E.tt T with
 | none=>exact LC.false
 | some i=>
  simp only
  cases hd:i.d <;> simp only <;> first
   | exact LC.false
   | exact LC.chk λ_=>Zv0
   | exact LC.chk λ_=>ZtL
   | (refine LC.chk λ_=>?_
      rintro⟨b,hb,h⟩
      exact⟨b,hb,Zk6 (λv ⟨v1,g1,g2⟩=>⟨v1,λK ⟨b',hb',hK⟩=>g1 K (by rw[EqIs.unique w hb hb'];exact hK),g2⟩) (ZtL h)⟩)
   | (cases hs:Zkl op
      ·exact LC.chk λ_=>ZvZ
      ·exact LC.chk λ_=>Zsr)
theorem Zun{E:Env}{s d:TypeId}{v:Value}:LE (Zr8 E s d v) (Zr8 E s d v):=by
 unfold Zr8
 cases E.tt s with
 | none=>exact LC.false
 | some i=>
  cases E.tt d with
  | none=>exact LC.false
  | some j=>
   simp only
   cases i.d <;> cases j.d <;> simp only <;> first
    | exact LC.false
    | exact LC.chk λ_=>LC.ret rfl
theorem Zv2{E:Env}{T:TypeId}{v:Value}:LE (Zxp E T v) (Zxp E T v):=by
 unfold Zxp
 cases E.tt T with
 | none=>exact LC.false
 | some i=>
  simp only
  cases i.d <;> simp only <;> first
   | exact LC.false
   | exact LC.ret rfl
   | exact LC.chk λ_=>LC.ret rfl
theorem ZgO{α β:Type}{ρ:α->β->Prop}{x:Option Value}{d y:Nat}{U1:Nat->(α->Prop)->Prop}{U2:Nat->(β->Prop)->Prop}(h:∀n,LC (U1 n) (U2 n) ρ)(mono:∀n {K K':β->Prop},(∀y,K y->K' y)->U2 n K->U2 n K'):
  LC (λK=>Zh4 x d y λn=>U1 n K) (λK=>Zh4 x d y λn=>U2 n K) ρ:=by
 cases x with
 | none=>exact h d
 | some v=>exact LC.chk λ_=>LC.and id (λ_=>h _) (mono _)
theorem Zq7{α β:Type}{ρ:α->β->Prop}{place:Nat->Option (Nat×Nat)}{f:List Value->α}{g:List Value->β}(h:∀v,ρ (f v) (g v)):∀{parts:List (Nat×Value)} {cs:List Value},LC (λK=>ZnR place cs parts λr=>K (f r)) (λK=>ZnR place cs parts λr=>K (g r)) ρ
 | [],cs=>LC.ret (h cs)
 | (i,v)::rest,cs=>by
  simp only[ZnR]
  cases place i with
  | none=>exact LC.false
  | some os=>exact LC.chk λ_=>Zq7 h
theorem Zss{E:Env}{T:TypeId}{v:Value}{lo hi mx:Option Value}:LE (ZjD E T v lo hi mx) (ZjD E T v lo hi mx):=by
 unfold ZjD
 cases Zje E T with
 | some sz=>
  simp only
  exact LC.chk λ_=>ZgO (λm=>ZgO (λh=>ZgO (λl=>LC.chk λ_=>LC.ret rfl) (λl K K' hh=>Zaj (hh _))) (λh K K' hh=>ZbN (λl=>Zaj (hh _)))) (λm K K' hh=>ZbN (λh=>ZbN (λl=>Zaj (hh _))))
 | none=>
  simp only
  cases ZfN E T with
  | false=>exact LC.false
  | true=>exact LC.chk λ_=>ZgO (λh=>ZgO (λl=>LC.ret rfl) (λl K K' hh=>hh _)) (λh K K' hh=>ZbN (λl=>hh _))
structure Less (S1 S2:St):Prop where
 env:∀t sv,S1.env t=some sv->S2.env t=some sv
 L:∀id x,S1.L id=some x->S2.L id=some x
theorem Less.ev{S1 S2:St}(h:Less S1 S2){x:Operand}{sv:SV}(hx:S1.ev x=some sv):S2.ev x=some sv:=by
 cases x with
 | tmp t=>exact h.env t sv hx
 | _=>exact hx
theorem Less.den{S1 S2:St}(h:Less S1 S2){sv:SV}{v:Value}(hx:S1.den sv=some v):S2.den sv=some v:=by
 cases sv with
 | v u=>exact hx
 | loc id off=>
  simp only[St.den]at *
  cases hb:S1.L id with
  | none=>simp[hb]at hx
  | some b=>simp only[hb]at hx;simp only[h.L id b hb];exact hx
 | sl id n c=>
  simp only[St.den]at *
  cases hb:S1.L id with
  | none=>simp[hb]at hx
  | some b=>simp only[hb]at hx;simp only[h.L id b hb];exact hx
theorem Less.val{S1 S2:St}(h:Less S1 S2){x:Operand}{v:Value}(hx:S1.val x=some v):S2.val x=some v:=by
 unfold St.val at *
 cases he:S1.ev x with
 | none=>simp[he]at hx
 | some sv=>simp only[he]at hx;rw[h.ev he];exact h.den hx
section ops
variable {α β:Type} {ρ:α->β->Prop} {S1 S2:St}
theorem Zda(hs:Less S1 S2){x:Operand}{U1:Value->(α->Prop)->Prop}{U2:Value->(β->Prop)->Prop}(h:∀v,LC (U1 v) (U2 v) ρ):
  LC (λK=>wv S1 x λv=>U1 v K) (λK=>wv S2 x λv=>U2 v K) ρ:=by
 unfold wv
 cases hv:S1.val x with
 | none=>exact LC.false
 | some v=>simp only[hs.val hv];exact h v
theorem ZoL(hs:Less S1 S2):∀{l:List Operand} {U1:List Value->(α->Prop)->Prop} {U2:List Value->(β->Prop)->Prop} (h:∀v,LC (U1 v) (U2 v) ρ),LC (λK=>wvs S1 l λv=>U1 v K) (λK=>wvs S2 l λv=>U2 v K) ρ
 | [],U1,U2,h=>h []
 | x::l,U1,U2,h=>Zda hs (U1:=λv K=>wvs S1 l λvs=>U1 (v::vs) K) (U2:=λv K=>wvs S2 l λvs=>U2 (v::vs) K) λv=>ZoL hs (λvs=>h (v::vs))
theorem Zq8(hs:Less S1 S2){x:Option Operand}{U1:Option Value->(α->Prop)->Prop}{U2:Option Value->(β->Prop)->Prop}(h:∀v,LC (U1 v) (U2 v) ρ):
  LC (λK=>Zw8 S1 x λv=>U1 v K) (λK=>Zw8 S2 x λv=>U2 v K) ρ:=by
 cases x with
 | none=>exact h none
 | some x=>exact Zda hs (U1:=λv K=>U1 (some v) K) (U2:=λv K=>U2 (some v) K) λv=>h (some v)
end ops
theorem Zuo{E:Env}{S1 S2:St}(w:World)(hs:Less S1 S2){o:Oper}:LE (Zc8 E S1 o) (Zc8 E S2 o):=by
 have hr:∀{a:SV},LE (λK:SV->Prop=>K a) (λK=>K a):=LC.ret rfl
 have gM:∀{c:Bool} {a:SV},LE (λK:SV->Prop=>Eng.chk c (K a)) (λK=>Eng.chk c (K a)):=LC.chk λ_=>LC.ret rfl
 obtain⟨dst,op,type,pos,after,guard⟩:=o
 cases op <;> unfold Zc8 <;> simp only <;> try exact LC.false
 case unOp op T x=>
  refine Zda hs λv=>?_
  cases op <;> simp only <;> first
   | exact LC.false
   | exact gM
   | (cases Zb9 E T <;> simp only <;> first
     | exact LC.false
     | exact gM)
 case binOp op T x y yT=>
  exact Zda hs λv=>Zda hs λv'=>(Zv1 w).map _ _ (λa b e=>by rw[e]) (λh=>Zoz h)
 case convert s d x=>exact Zda hs λv=>Zun.map _ _ (λa b e=>by rw[e]) (λh hx=>by
  unfold Zr8 at *
  (repeat' split at hx) <;> first|exact hx.elim|exact Zaj (h _) hx)
 case makeFunc=>exact ZoL hs λv=>ZoL hs λv'=>hr
 case fieldAddr T x f=>
  cases Zjc E T f with
  | none=>exact LC.false
  | some fo=>
   simp only
   cases he:S1.ev x with
   | none=>exact LC.false
   | some sv=>
    simp only[hs.ev he]
    cases sv <;> first
     | exact LC.false
     | exact hr
     | exact gM
 case indexAddr T x i=>
  refine Zda hs λvi=>LC.chk λ_=>?_
  cases Zxo E T with
  | none=>exact LC.false
  | some ix=>
   cases he:S1.ev x with
   | none=>
    cases ix <;> simp only
    ·exact λh=>h.2.elim
    ·exact LC.false
   | some sv=>
    simp only[hs.ev he]
    cases ix <;> simp only
    ·cases sv <;> simp only
     ·exact LC.and id (λ_=>gM) (λh=>Zaj (h _))
     ·exact LC.and id (λ_=>hr) (λh=>h _)
     ·exact λh=>h.2.elim
    ·cases sv <;> simp only
     ·refine LC.chk λ_=>?_
      rintro⟨b,o,h1,h2,h3⟩
      refine⟨b,o,h1,h2,_,λK ⟨b',o',g1,g2,g3⟩=>?_,rfl⟩
      rw[h1]at g1
      cases g1
      exact g3
     ·exact LC.false
     ·exact LC.and id (λ_=>hr) (λh=>h _)
 case index T x i=>
  refine Zda hs λv=>Zda hs λvi=>LC.chk λ_=>?_
  cases ZfN E T <;> simp only[cond_true,cond_false]
  ·cases Zp4 E T with
   | none=>exact LC.false
   | some len=>exact LC.chk λ_=>LC.and id (λ_=>Zq6 (λ_=>rfl)) (λh=>Zih (λu=>h _))
  ·exact LC.chk λ_=>LC.and id (λ_=>hr) (λh=>h _)
 case build T parts=>
  cases Zjd E T with
  | none=>exact LC.false
  | some place=>exact ZoL hs λvs=>Zq7 (λ_=>rfl)
 case extract x n=>exact Zda hs λv=>LC.chk λ_=>Zq6 (λ_=>rfl)
 case makeInterface T x=>exact Zda hs λv=>gM
 case nilCheck x=>
  cases he:S1.ev x with
  | none=>exact LC.false
  | some sv=>
   simp only[hs.ev he]
   cases sv <;> first
    | exact LC.false
    | exact hr
    | exact gM
 case slice T x lo hi mx=>exact Zda hs λv=>Zq8 hs λl=>Zq8 hs λh=>Zq8 hs λm=>Zss.map _ _ (λa b e=>by rw[e]) (λh=>Zkp h)
 case call c=>
  split
  ·split
   ·exact Zda hs λv=>Zv2.map _ _ (λa b e=>by rw[e]) (λh y=>by
     unfold Zxp at *
     (repeat' split at y) <;> first|exact y.elim|exact Zaj (h _) y|exact h _ y)
   ·exact LC.false
  ·split
   ·rename_i T _ _ _
    refine Zda hs λv=>Zda hs λv'=>?_
    split
    ·exact gM
    ·exact LC.false
   ·exact LC.false
  ·split
   ·refine Zda hs λv=>Zda hs λv'=>?_
    split
    ·exact gM
    ·exact LC.false
   ·refine Zda hs λv=>Zda hs λv'=>Zda hs λv''=>?_
    split
    ·exact gM
    ·exact LC.false
   ·exact LC.false
  ·exact LC.false
def Mem.or(a b:Mem):Mem:=λi o=>match a i o with
 | some v=>some v
 | none=>b i o
theorem Mem.le_or(a b:Mem):a.le (a.or b):=λi o v h=>by simp[Mem.or,h]
theorem Mem.or_some{a b:Mem}{i o:Nat}{v:Value}(h:a.or b i o=some v):a i o=some v\/(a i o=none/\b i o=some v):=by
 unfold Mem.or at h
 cases ha:a i o with
 | some u=>simp[ha]at h;exact .inl (by rw[h])
 | none=>simp[ha]at h;exact .inr ⟨rfl,h⟩
theorem CX.frame2{P:Program}{g:FuncId}{args:Array Value}{m M:Mem}{X:List Box}{R:Value->Mem->List (List Value)->Prop}(h:CX P g args m X R)(hm:m.le M):
  CX P g args M X (λv M' css=>∃m',m.le m'/\m'.le M'/\(∀b o u,M b o=some u->∀o',m' b o'=m b o')/\R v m' css):=by
 refine⟨h.1,λw hs hX dT=>?_⟩
 have bT:∀{b o},M b o=none->m b o=none:=λ{b o} hb=>by
  cases he:m b o with
  | none=>rfl
  | some v=>rw[hm _ _ _ he]at hb;cases hb
 have hX':∀x∈X,Own m w x/\x.fz=false:=λx hx=>by
  obtain⟨ho,hz⟩:=hX x hx
  exact⟨⟨ho.cells,λ_ o=>bT (ho.free hz o),λhz'=>by simp[hz]at hz',ho.whole⟩,hz⟩
 refine(h.2 w (λb o v hv=>hs b o v (hm _ _ _ hv)) hX' dT).mono ?_
 rintro e w' ⟨v,m',css,rfl,a2,a3,a4,a5,a6,a7,a8⟩
 have cL:m'.le (M.or m'):=λb o u hu=>by
  cases hM:M b o with
  | none=>simp[Mem.or,hM,hu]
  | some u'=>
   rcases a4 b o u hu with h1|h1
   ·rw[hm _ _ _ h1]at hM;cases hM;simp[Mem.or,hm _ _ _ h1]
   ·have:=hs.lt hM;omega
 have cU:∀b o u,M b o=some u->∀o',m' b o'=m b o':=λb o u hu o'=>by
  cases hm':m' b o' with
  | none=>
   cases eI:m b o' with
   | none=>rfl
   | some x=>have:=a2 _ _ _ eI;rw[hm']at this;cases this
  | some x=>
   rcases a4 b o' x hm' with h1|h1
   ·exact h1.symm
   ·have:=hs.lt hu;omega
 refine⟨v,M.or m',css,rfl,Mem.le_or _ _,?_,?_,a5,a6,?_,m',a2,cL,cU,a8⟩
 ·intro b o u hu
  rcases Mem.or_some hu with h1|⟨h1,h2⟩
  ·have bB:=hs.lt h1
   rw[ZbA (a5.block b bB ?_)]
   ·exact hs b o u h1
   ·intro cD
    obtain⟨x,hx,rfl⟩:=List.mem_map.1 cD
    obtain⟨ho,hz⟩:=hX x hx
    have:=ho.free hz o
    rw[h1]at this;cases this
  ·exact a3 b o u h2
 ·intro b o u hu
  rcases Mem.or_some hu with h1|⟨h1,h2⟩
  ·exact .inl h1
  ·rcases a4 b o u h2 with h3|h3
   ·rw[hm _ _ _ h3]at h1;cases h1
   ·exact .inr h3
 ·intro i x cs hi cV
  have ho:=a7 i x cs hi cV
  obtain⟨k9,hz⟩:=hX x (List.mem_of_getElem? hi)
  refine⟨ho.cells,λ_ o=>?_,λhz'=>by simp[hz]at hz',ho.whole⟩
  simp only[Mem.or,k9.free hz o]
  exact ho.free hz o
theorem CX.frame{P:Program}{g:FuncId}{args:Array Value}{m M:Mem}{X:List Box}{R:Value->Mem->List (List Value)->Prop}(h:CX P g args m X R)(hm:m.le M):
  CX P g args M X (λv M' css=>∃m',m.le m'/\m'.le M'/\R v m' css):=(h.frame2 hm).mono λ_ _ _ _ ⟨m',a1,a2,_,a4⟩=>⟨m',a1,a2,a4⟩
theorem ZfR{m:Mem}{b o:Nat}{xs ys:List Value}(h:m.reads b o xs)(k:m.reads b o ys)(hl:xs.length=ys.length):xs=ys:=by
 refine List.ext_getElem hl λi h1 h2=>?_
 have a:=h i _ (List.getElem?_eq_getElem h1)
 have b:=k i _ (List.getElem?_eq_getElem h2)
 rw[a]at b;exact Option.some.inj b
theorem ZfS{m:Mem}{a:Option Addr}{xs ys:List Value}(h:rowRd m a xs)(k:rowRd m a ys)(hl:xs.length=ys.length):xs=ys:=by
 rcases h with h|⟨b,o,h1,h2⟩
 ·subst h;simp at hl;exact(List.eq_nil_of_length_eq_zero hl.symm).symm
 ·rcases k with k|⟨b',o',k1,k2⟩
  ·subst k;simpa using hl
  ·rw[h1]at k1;cases k1
   exact ZfR h2 k2 hl
theorem Zqf{i:TI}{m M:Mem}(hm:m.le M){b o:Nat}:LE (Zdd i m b o) (Zdd i M b o):=by
 intro h
 unfold Zdd at *
 cases ha:i.agg with
 | false=>
  simp only[ha,cond_false]at *
  obtain⟨v,hv,_⟩:=h
  exact⟨v,hm _ _ _ hv,v,λK ⟨v',hv',hK⟩=>by rw[hv]at hv';cases hv';exact hK,rfl⟩
 | true=>
  simp only[ha,cond_true]at *
  cases hb:Nat.ble i.size 16 with
  | true=>
   simp only[hb,cond_true]at *
   obtain⟨vs,hl,hr,_⟩:=Zjg h
   refine ZkZ vs hl ⟨hr.mono hm,_,λK hK=>?_,rfl⟩
   obtain⟨vs',hl',hr',hK⟩:=Zjg hK
   rw[ZfR hr hr' (by omega)];exact hK
  | false=>
   simp only[hb,cond_false]at *
   obtain⟨vs,hl,hr,_⟩:=h
   refine⟨vs,hl,hr.mono hm,_,λK ⟨vs',hl',hr',hK⟩=>?_,rfl⟩
   rw[ZfR hr hr' (by omega)];exact hK
theorem Zms{i:TI}{x:Box}{off:Nat}:LE (ZcR i x off) (ZcR i x off):=by
 unfold ZcR
 cases i.agg <;> simp only[cond_true,cond_false]
 ·exact Zq6 (λ_=>rfl)
 ·cases(x.full&&(Nat.beq x.cap i.size&&Nat.beq off 0)) <;> simp only[cond_true,cond_false]
  ·exact LC.chk λ_=>LC.ret rfl
  ·exact LC.ret rfl
theorem Zup{E:Env}{S1 S2:St}(hs:Less S1 S2){m M:Mem}(hm:m.le M){T:TypeId}{x:Operand}:LE (ZgH E S1 m T x) (ZgH E S2 M T x):=by
 unfold ZgH
 cases E.tt T with
 | none=>exact LC.false
 | some i=>
  simp only
  cases he:S1.ev x with
  | none=>exact LC.false
  | some sv=>
   simp only[hs.ev he]
   cases sv with
   | v u=>
    simp only
    cases ZfO E x with
    | none=>exact LC.chk λ_=>Zqf hm
    | some id=>
     simp only
     cases hx:S1.L id with
     | none=>exact LC.false
     | some bx=>
      simp only[hs.L id bx hx]
      exact LC.chk λ_=>LC.and (λh=>h) (λ_=>Zms) (λh=>Zd3 h)
   | loc id off=>
    simp only
    cases hx:S1.L id with
    | none=>exact LC.false
    | some bx=>simp only[hs.L id bx hx];exact Zms
   | sl id n c=>exact LC.false
structure OutB (rs:List Nat)(tk:Option Nat)(g:Bool)(m M:Mem)(S1 S2:St)(y1 y2:St×Mem):Prop where
 env1:y1.1.env=S1.env
 env2:y2.1.env=S2.env
 L:∀id,(id∈rs/\y1.1.L id=y2.1.L id)\/(y1.1.L id=S1.L id/\y2.1.L id=S2.L id)
 tok:∀k,(tk=some k/\y1.1.tok k=y2.1.tok k)\/(y1.1.tok k=S1.tok k/\y2.1.tok k=S2.tok k)
 le:y1.2.le y2.2
 same:g=false->y1.2=m/\y2.2=M
 gh2:y2.1.gh=S2.gh
structure Out (rs:List Nat)(tk:Option Nat)(g:Bool)(m M:Mem)(dst:Option Tmp)(S1 S2:St)(y1 y2:St×Mem):Prop where
 env1:∀t sv,dst=some t->y1.1.env t=some sv->y2.1.env t=some sv
 env2:∀t,dst≠some t->y2.1.env t=S2.env t
 L:∀id,(id∈rs/\y1.1.L id=y2.1.L id)\/(y1.1.L id=S1.L id/\y2.1.L id=S2.L id)
 tok:∀k,(tk=some k/\y1.1.tok k=y2.1.tok k)\/(y1.1.tok k=S1.tok k/\y2.1.tok k=S2.tok k)
 le:y1.2.le y2.2
 same:g=false->y1.2=m/\y2.2=M
 gh2:y2.1.gh=S2.gh
section
variable {rs:List Nat} {tk:Option Nat} {g:Bool} {m M:Mem} {S1 S2:St}
theorem ZyA(S:St)(d:Option Tmp)(x:Option SV):(S.put d x).L=S.L:=by cases d <;> rfl
theorem Zv3(S:St)(d:Option Tmp)(x:Option SV):(S.put d x).tok=S.tok:=by cases d <;> rfl
theorem OutB.put{y1 y2:St×Mem}(h:OutB rs tk g m M S1 S2 y1 y2)(dst:Option Tmp){x1 x2:Option SV}(hx:∀sv,x1=some sv->x2=some sv):Out rs tk g m M dst S1 S2 (y1.1.put dst x1,y1.2) (y2.1.put dst x2,y2.2):=by
 refine⟨?_,?_,by simpa[ZyA]using h.L,by simpa[Zv3]using h.tok,h.le,h.same,by have:=h.gh2;cases dst <;> exact this⟩
 ·intro t sv ht tV
  subst ht
  simp[St.put]at *
  exact hx _ tV
 ·intro t ht
  cases dst with
  | none=>simp[St.put,h.env2]
  | some d=>simp[St.put,Zas (λe=>ht (by rw[e]):t≠d),h.env2]
theorem OutB.refl(hm:m.le M):OutB rs tk g m M S1 S2 (S1,m) (S2,M):=⟨rfl,rfl,λ_=>.inr ⟨rfl,rfl⟩,λ_=>.inr ⟨rfl,rfl⟩,hm,λ_=>⟨rfl,rfl⟩,rfl⟩
theorem Out.put0(hm:m.le M)(dst:Option Tmp){x1 x2:Option SV}(hx:∀sv,x1=some sv->x2=some sv):Out rs tk g m M dst S1 S2 (S1.put dst x1,m) (S2.put dst x2,M):=
 (OutB.refl (rs:=rs) (tk:=tk) (g:=g) (S1:=S1) (S2:=S2) hm).put dst hx
theorem OutB.setL(hm:m.le M){id:Nat}(cO:id∈rs)(x:Option Box):OutB rs tk g m M S1 S2 (S1.setL id x,m) (S2.setL id x,M):=by
 refine⟨rfl,rfl,λi=>?_,λ_=>.inr ⟨rfl,rfl⟩,hm,λ_=>⟨rfl,rfl⟩,rfl⟩
 by_cases hi:i=id
 ·subst hi;exact .inl ⟨cO,by simp[St.setL]⟩
 ·exact .inr (by simp[St.setL,Zas hi])
theorem OutB.newL{m' M':Mem}(hm:m'.le M')(hg:g=false->m'=m/\M'=M){id:Nat}(cO:id∈rs)(x:Box):OutB rs tk g m M S1 S2 (S1.newL id x,m') (S2.newL id x,M'):=by
 refine⟨rfl,rfl,λi=>?_,λ_=>.inr ⟨rfl,rfl⟩,hm,hg,rfl⟩
 by_cases hi:i=id
 ·subst hi;exact .inl ⟨cO,by simp[St.newL]⟩
 ·exact .inr (by simp[St.newL,Zas hi])
end
mutual
theorem Shape.all_intro:∀(s:Shape){k:Value->Prop},(∀v,k v)->s.all k
 | .any,k,h=>by simpa only[Shape.all]using h
 | .int ki,k,h=>by simp only[Shape.all];exact λn=>h _
 | .bool,k,h=>by simp only[Shape.all];exact λn=>h _
 | .str,k,h=>by simp only[Shape.all];exact λn=>h _
 | .slice,k,h=>by simp only[Shape.all];exact λ_ _ _=>h _
 | .agg l,k,h=>by simp only[Shape.all];exact Shape.allL_intro l (λvs=>h _)
 | .tup l,k,h=>by simp only[Shape.all];exact Shape.allL_intro l (λvs=>h _)
 | .fn,k,h=>by simp only[Shape.all];exact λ_ _ _=>h _
 | .cells,k,h=>by simp only[Shape.all];exact λ_=>h _
 | .ptr,k,h=>by simp only[Shape.all];exact λ_ _=>h _
theorem Shape.allL_intro:∀(l:List Shape){k:List Value->Prop},(∀v,k v)->Shape.allL l k
 | [],k,h=>by simp only[Shape.allL];exact h _
 | s::l,k,h=>by simp only[Shape.allL];exact Shape.all_intro s (λv=>Shape.allL_intro l (λvs=>h _))
end
theorem allL_intro:∀{n:Nat} {k:List (List Value)->Prop},(∀l,l.length=n->k l)->allL n k
 | 0,k,h=>h [] rfl
 | n+1,k,h=>λcs=>allL_intro (λl hl=>h (cs::l) (by simp[hl]))
def Env.fixed(E:Env)(f:List Value->Mem->Value->Mem->List (List Value)->Prop):Env:={ E with fix:=some f }
section
variable {rs:List Nat} {tk:Option Nat} {g:Bool} {S1 S2:St} {m M:Mem}
theorem Zst{E:Env}{f:List Value->Mem->Value->Mem->List (List Value)->Prop}(hs:Less S1 S2)(iv:∀id x,S1.L id=some x->id∈rs)(hm:m.le M){T:TypeId}{x:Operand}{v:Value}:
  LC (λK:St×Mem->Prop=>ZhL (E.fixed f) S1 T x v λS'=>K (S',m)) (λK:St×Mem->Prop=>ZhL E S2 T x v λS'=>K (S',M)) (OutB rs tk g m M S1 S2):=by
 unfold ZhL
 show LC (λK=>match E.tt T with
  | none=>False
  | some i=>_) _ _
 cases E.tt T with
 | none=>exact LC.false
 | some i=>
  simp only
  cases he:S1.ev x with
  | none=>exact LC.false
  | some sv=>
   simp only[hs.ev he]
   cases sv with
   | loc id off=>
    simp only
    cases hx:S1.L id with
    | none=>exact LC.false
    | some bx=>
     simp only[hs.L id bx hx]
     refine LC.chk λ_=>?_
     cases(bx.full&&(Nat.beq bx.cap i.size&&Nat.beq off 0)) <;> simp only[cond_true,cond_false]
     ·exact LC.chk λ_=>LC.ret (OutB.setL hm (iv id bx hx) _)
     ·exact LC.ret (OutB.setL hm (iv id bx hx) _)
   | v u=>
    simp only
    show LC (λK=>match ZfO E x with
     | none=>False
     | some id=>_) _ _
    cases ZfO E x with
    | none=>exact LC.false
    | some id=>
     simp only
     cases hx:S1.L id with
     | none=>exact LC.false
     | some bx=>
      simp only[hs.L id bx hx]
      refine LC.chk λ_=>?_
      rintro⟨h1,h2,_⟩
      exact⟨h1,h2,_,λK hK=>hK.2.2,OutB.setL hm (iv id bx hx) _⟩
   | sl id n c=>exact LC.false
theorem Zuq{E:Env}{f:List Value->Mem->Value->Mem->List (List Value)->Prop}(hs:Less S1 S2)(iv:∀id x,S1.L id=some x->id∈rs)(hm:m.le M){T:TypeId}{id:Nat}{vd vs:Value}:
  LC (λK:Int×(St×Mem)->Prop=>ZpV (E.fixed f) S1 m T id vd vs λn S'=>K (n,(S',m))) (λK:Int×(St×Mem)->Prop=>ZpV E S2 M T id vd vs λn S'=>K (n,(S',M))) (λy1 y2=>y1.1=y2.1/\OutB rs tk g m M S1 S2 y1.2 y2.2/\y1.2.2=m/\y2.2.2=M):=by
 unfold ZpV
 show LC (λK=>match ZaF E T with
  | none=>False
  | some (e,j)=>_) _ _
 cases ZaF E T with
 | none=>exact LC.false
 | some ej=>
  obtain⟨e,j⟩:=ej
  simp only
  cases hx:S1.L id with
  | none=>exact LC.false
  | some bx=>
   simp only[hs.L id bx hx]
   refine LC.chk λ_=>?_
   intro h tW
   have hf:m.free bx.b:=λo=>by
    cases he:m bx.b o with
    | none=>rfl
    | some u=>have:=hm _ _ _ he;rw[tW o]at this;cases this
   obtain⟨o,xs,h1,h2,h3,h4,h5,_⟩:=h hf
   refine⟨o,xs,h1,h2,h3,h4,h5.imp_left (λh=>h.mono hm),(_,(S1.setL id (some { bx with cs:=Zam bx.cs o xs }),m)),λK hK=>?_,rfl,OutB.setL hm (iv id bx hx) _,rfl,rfl⟩
   obtain⟨o',xs',g1,g2,g3,g4,g5,g6⟩:=hK hf
   rw[h1]at g1
   obtain rfl:o=o':=by simpa using g1
   have hl:xs.length=xs'.length:=by rw[h2,g2]
   have dR:∀{as:Option Addr} {ys:List Value} {p:Nat},rowRd m as ys->as=some ⟨bx.b,p,none⟩->ys=[]:=λ{as ys p} hy ha=>by
    rcases hy with hy|⟨b1,o1,lw,hy⟩
    ·exact hy
    ·rw[ha]at lw
     simp only[Option.some.injEq,Addr.mk.injEq,and_true]at lw
     obtain⟨rfl,rfl⟩:=lw
     cases pQ:ys with
     | nil=>rfl
     | cons u l=>subst pQ;have:=hy 0 u rfl;rw[hf]at this;cases this
   have nj:xs=xs':=by
    rcases h5 with h5|⟨p,hp,h5⟩
    ·rcases g5 with g5|⟨p',hp',g5⟩
     ·exact ZfS h5 g5 hl
     ·have:=dR h5 hp';subst this
      exact(List.eq_nil_of_length_eq_zero hl.symm).symm
    ·rcases g5 with g5|⟨p',hp',g5⟩
     ·have:=dR g5 hp;subst this
      exact List.eq_nil_of_length_eq_zero hl
     ·rw[hp]at hp'
      obtain rfl:p=p':=by simpa using hp'
      apply List.ext_getElem?
      intro i
      by_cases hi:i < xs.length
      ·have e1:=h5 i _ (List.getElem?_eq_getElem hi)
       have e2:=g5 i _ (List.getElem?_eq_getElem (by omega))
       rw[e1]at e2
       rw[List.getElem?_eq_getElem hi,List.getElem?_eq_getElem (by omega)]
       exact e2
      ·rw[List.getElem?_eq_none (by omega),List.getElem?_eq_none (by omega)]
   subst nj
   exact g6
theorem Zin(hs:Less S1 S2):∀{ids:List Nat} {bxs:List Box},Zbr S1 ids=some bxs->Zbr S2 ids=some bxs
 | [],bxs,h=>h
 | id::l,bxs,h=>by
  simp only[Zbr]at *
  cases hx:S1.L id with
  | none=>simp[hx]at h
  | some x=>
   simp only[hx]at h
   simp only[hs.L id x hx]
   cases hb:Zbr S1 l with
   | none=>simp[hb]at h
   | some xs=>simp only[hb]at h;simp only[Zin hs hb];exact h
theorem Zur{E:Env}(hE:E.fix=none){f:List Value->Mem->Value->Mem->List (List Value)->Prop}(hs:Less S1 S2)(iv:∀id x,S1.L id=some x->id∈rs)(hm:m.le M){rt:TypeId}{gg:FuncId}{args:List Value}{ids:List Nat}{γ:Value->St->Option SV}:
  LC (λK:Value×(St×Mem)->Prop=>ZnS (E.fixed f) S1 m rt gg args ids λv S' m'=>K (v,(S',m'))) (λK:Value×(St×Mem)->Prop=>ZnS E S2 M rt gg args ids λv S' m'=>K (v,(S',m'))) (λy1 y2=>y1.1=y2.1/\OutB rs tk true m M S1 S2 y1.2 y2.2):=by
 intro h
 unfold ZnS at *
 cases hb:Zbr S1 ids with
 | none=>simp[hb]at h
 | some bxs=>
  simp only[hb]at h
  simp only[Zin hs hb]
  obtain⟨h1,R,h0,eQ,eG,_⟩:=Zag h
  have h0':R=f args m:=h0
  obtain⟨bS,cD⟩:=Zcr hb
  simp only[Bool.and_eq_true]at h1
  have dT:=ZaN h1.2
  refine Zaa (by simp[h1.1,h1.2]) ⟨λv M' css=>∃m',m.le m'/\m'.le M'/\R v m' css,by rw[hE];trivial,eQ.frame hm,λv m' css ⟨_,_,_,hR⟩=>eG _ _ _ hR,?_⟩
  refine Shape.all_intro _ λv M' hM'=>allL_intro λcss fL ⟨m',g1,g2,hR⟩=>⟨(v,(Zc9 S1 ids bxs css,m')),λK hK=>?_,rfl,?_⟩
  ·obtain⟨_,R',h0'',_,_,bR⟩:=Zag hK
   have h0''':R'=f args m:=h0''
   have tX:R'=R:=by rw[h0''',h0']
   subst tX
   exact Zh6 (Shape.all_fits _ _ bR v (eG _ _ _ hR) m' g1) css fL hR
  ·refine⟨by rw[Zde],by rw[Zde],λid=>?_,λk=>.inr ⟨by rw[Zde],by rw[Zde]⟩,g2,λh=>(by cases h),by rw[Zde]⟩
   rcases Zfb (S:=S1) dT bS fL id with⟨a1,a2⟩|⟨i,x,cs,a1,a2,a3,a4⟩
   ·rcases Zfb (S:=S2) dT bS fL id with⟨b1,b2⟩|⟨i',x',cs',b1,b2,b3,b4⟩
    ·exact .inr ⟨a2,b2⟩
    ·exact absurd (List.mem_of_getElem? b1) a1
   ·rcases Zfb (S:=S2) dT bS fL id with⟨b1,b2⟩|⟨i',x',cs',b1,b2,b3,b4⟩
    ·exact absurd (List.mem_of_getElem? a1) b1
    ·obtain⟨id',c1,c2⟩:=cD i x a2
     rw[a1]at c1;cases c1
     have hi:=(List.getElem?_eq_some_iff.1 a1).1
     have:i=i':=(List.getElem?_inj hi dT).1 (by rw[a1,b1])
     subst this
     rw[a2]at b2;rw[a3]at b3;cases b2;cases b3
     exact .inl ⟨iv _ _ c2,by rw[a4,b4]⟩
theorem Zqg{E:Env}{f:List Value->Mem->Value->Mem->List (List Value)->Prop}(hm:m.le M){T xT:TypeId}{key:Nat}{vs vx:Value}(fO:tk=some key)(cA:∀k,tk=some k->S1.tok k=S2.tok k):
  LC (λK:Value×(St×Mem)->Prop=>Zf9 (E.fixed f) S1 m T xT key vs vx λv t m'=>K (v,({ S1 with tok:=t,tkeys:=key::S1.tkeys },m'))) (λK:Value×(St×Mem)->Prop=>Zf9 E S2 M T xT key vs vx λv t m'=>K (v,({ S2 with tok:=t,tkeys:=key::S2.tkeys },m'))) (λy1 y2=>y1.1=y2.1/\OutB rs tk true m M S1 S2 y1.2 y2.2):=by
 unfold Zf9
 show LC (λK=>match ZaF E T with
  | none=>False
  | some (_,j)=>match ZaF E xT with
   | none=>False
   | some (_,j')=>_) _ _
 cases ZaF E T with
 | none=>exact LC.false
 | some ej=>
  cases ZaF E xT with
  | none=>exact LC.false
  | some ej'=>
   simp only
   refine LC.chk λ_=>?_
   have kI:LC (λK:Value×(St×Mem)->Prop=>Zw2 (E.fixed f) S1 m ej.2 key vs vx λv t m'=>K (v,({ S1 with tok:=t,tkeys:=key::S1.tkeys },m'))) (λK:Value×(St×Mem)->Prop=>Zw2 E S2 M ej.2 key vs vx λv t m'=>K (v,({ S2 with tok:=t,tkeys:=key::S2.tkeys },m'))) (λy1 y2=>y1.1=y2.1/\OutB rs tk true m M S1 S2 y1.2 y2.2):=?body
   case body=>
    unfold Zw2
    rintro⟨ht,xs,ys,a1,a2,a3,a4,a5,a6,a7,_⟩
    rw[cA key fO]at ht
    refine⟨ht,xs,ys,a1,a2,a3.mono hm,a4.mono hm,a5,a6,a7,λa' c' M' hM' hr=>?_⟩
    refine Zsc λnk eY=>⟨(.slice a' (slN vs+slN vx) c',({ S1 with tok:=(λk=>bif Nat.beq k key then some ⟨.slice a' (slN vs+slN vx) c',ej.2.size⟩ else S1.tok k),tkeys:=key::S1.tkeys },M')),λK hK=>?_,rfl,⟨rfl,rfl,λ_=>.inr ⟨rfl,rfl⟩,λk=>?_,Mem.le_refl _,λh=>(by cases h),rfl⟩⟩
    ·obtain⟨_,xs',ys',b1,b2,b3,b4,_,_,_,b8⟩:=hK
     rw[ZfS a3 b3 (by omega),ZfS a4 b4 (by omega)]at hr
     exact Znf (b8 a' c' M' (mLt hm hM') hr) (λht=>(nk ht).mono hm) eY
    ·by_cases hk:k=key
     ·subst hk;exact .inl ⟨fO,by simp⟩
     ·exact .inr (by simp[Zas hk])
   show LC (λK=>bif E.tails then br (Nat.beq (slN vx) 0) (chk (Nat.ble (slN vs) (slC vs)) _) _ else _) (λK=>bif E.tails then br (Nat.beq (slN vx) 0) (chk (Nat.ble (slN vs) (slC vs)) _) _ else _) _
   cases E.tails with
   | false=>exact kI
   | true=>
    refine LC.br (LC.chk λ_=>LC.ret ⟨rfl,⟨rfl,rfl,λ_=>.inr ⟨rfl,rfl⟩,λk=>?_,hm,λh=>(by cases h),rfl⟩⟩) kI
    by_cases hk:k=key
    ·subst hk;exact .inl ⟨fO,cA k fO⟩
    ·exact .inr ⟨rfl,rfl⟩
end
theorem Mem.add_le{m M:Mem}(h:m.le M)(b:Nat)(cs:List Value):(m.add b cs).le (M.add b cs):=λb' o v hv=>by
 by_cases hb:b'=b
 ·subst hb;rw[Mem.add_same]at hv ⊢;exact hv
 ·rw[Mem.add_other _ hb]at hv ⊢;exact h _ _ _ hv
theorem Zkw{S1 S2:St}(hs:Less S1 S2):∀{l:List Operand} {k:List Value->Prop},wvs S1 l k->Zdf S1 l=Zdf S2 l
 | [],k,h=>rfl
 | x::l,k,h=>by
  obtain⟨v,hv,h⟩:=ZaK h
  have ih:=Zkw hs h
  unfold St.val at hv
  cases he:S1.ev x with
  | none=>simp[he]at hv
  | some sv=>
   simp only[Zdf,he,hs.ev he,ih]
   cases sv with
   | loc id off=>
    simp only[he,St.den]at hv
    cases hx:S1.L id with
    | none=>simp[hx]at hv
    | some x=>simp only[hx,hs.L id x hx]
   | _=>rfl
def Zus(E:Env)(rs:List Nat)(tk:Option Nat)(o:Oper):Bool:=match o.op with
 | .alloc _=>(match o.dst with
  | some d=>rs.any (Nat.beq d ·)
  | none=>false)
 | .box _ _=>(match o.dst with
  | some d=>rs.any (Nat.beq d ·)
  | none=>false)
 | .buildSlice _ _ _=>(match o.dst with
  | some d=>rs.any (Nat.beq d ·)
  | none=>false)
 | .makeSlice _ _ _=>(match o.dst with
  | some d=>rs.any (Nat.beq d ·)
  | none=>false)
 | .call c=>(match c.callee with
  | .builtin .append=>(match o.dst,tk with
   | some d,some k=>Nat.beq (E.tokOf d) k
   | _,_=>false)
  | _=>(Zfc E o.dst).isNone)
 | .store _ x _=>(match Zos E x with
  | none=>true
  | some _=>false)
 | _=>true
theorem Zmt{E:Env}{rs:List Nat}{tk:Option Nat}{o:Oper}(h:Zus E rs tk o=true):ZoC E o:=by
 refine⟨λT x y e=>?_,λf as ats e=>?_⟩
 ·unfold Zus at h
  rw[e]at h
  cases hs:Zos E x with
  | none=>rfl
  | some k=>simp[hs]at h
 ·unfold Zus at h
  rw[e]at h
  simpa using h
def ZoM(rs:List Nat)(o:Oper):List Nat:=match o.op with
 | .alloc _=>dl o.dst
 | .box _ _=>dl o.dst
 | .buildSlice _ _ _=>dl o.dst
 | .makeSlice _ _ _=>dl o.dst
 | .store _ _ _=>rs
 | .call c=>(match c.callee with
  | .value _=>rs
  | .builtin .copy=>rs
  | _=>[])
 | _=>[]
def Zeu(o:Oper):Bool:=match o.op with
 | .buildSlice _ _ _=>true
 | .call c=>(match c.callee with
  | .value _=>true
  | .builtin .append=>true
  | _=>false)
 | _=>false
section
variable {rs:List Nat} {tk:Option Nat} {S1 S2:St} {m M:Mem}
theorem Zxu{E:Env}(w:World)(hE:E.fix=none){f:List Value->Mem->Value->Mem->List (List Value)->Prop}(hs:Less S1 S2)(iv:∀id x,S1.L id=some x->id∈rs)(hL:∀id∈rs,S1.L id=S2.L id)
  (cA:∀k,tk=some k->S1.tok k=S2.tok k) (hm:m.le M) {o:Oper} (iH:Zus E rs tk o=true):
  LC (λK:St×Mem->Prop=>opW (E.fixed f) S1 m o λS' m'=>K (S',m')) (λK:St×Mem->Prop=>opW E S2 M o λS' m'=>K (S',m')) (Out (ZoM rs o) tk (Zeu o) m M o.dst S1 S2):=by
 have eJ:∀(rs:List Nat)(g:Bool)(o:Oper),LC (λK:St×Mem->Prop=>Zc8 (E.fixed f) S1 o λsv=>K (S1.put o.dst (some sv),m)) (λK:St×Mem->Prop=>Zc8 E S2 o λsv=>K (S2.put o.dst (some sv),M)) (Out rs tk g m M o.dst S1 S2):=λrs g o=>by
  refine LC.map (f:=λsv=>(S1.put o.dst (some sv),m)) (g:=λsv=>(S2.put o.dst (some sv),M)) (ρ:=Eq) (T1:=λK=>Zc8 (E.fixed f) S1 o K) (T2:=λK=>Zc8 E S2 o K) ?_ ?_ ?_
  ·exact(Zuo w hs:LE (Zc8 E S1 o) (Zc8 E S2 o))
  ·rintro a b rfl
   exact Out.put0 hm _ (λsv h=>h)
  ·exact λh=>Zmm h
 obtain⟨dst,op,type,pos,after,guard⟩:=o
 have iw:∀(rs:List Nat)(g:Bool)(x:Operand),LC (λK:St×Mem->Prop=>K (S1.put dst (S1.ev x),m)) (λK:St×Mem->Prop=>K (S2.put dst (S2.ev x),M)) (Out rs tk g m M dst S1 S2):=λrs g x=>LC.ret (Out.put0 hm _ (λsv h=>hs.ev h))
 have cU:∀{g:Bool} {d:Nat} {x:Box} {sv:SV},Out [d] tk g m M (some d) S1 S2 ((S1.newL d x).put (some d) (some sv),m) ((S2.newL d x).put (some d) (some sv),M):=λ{g d x sv}=>(OutB.newL hm (λ_=>⟨rfl,rfl⟩) (by simp) x).put (some d) (λsv h=>h)
 cases op with
 | move x=>exact iw _ _ x
 | assign x=>exact iw _ _ x
 | pick c x y=>exact Zda hs λv=>LC.chk λ_=>LC.br (iw _ _ x) (iw _ _ y)
 | load T x=>
  have hq:ZqZ (E.fixed f) dst=ZqZ E dst:=rfl
  simp only[opW,hq]
  cases mg:ZqZ E dst with
  | some y=>exact LC.false
  | none=>
  refine LC.map (f:=λv=>(S1.put dst (some (.v v)),m)) (g:=λv=>(S2.put dst (some (.v v)),M)) (ρ:=Eq) (T1:=λK=>ZgH (E.fixed f) S1 m T x K) (T2:=λK=>ZgH E S2 M T x K) ?_ ?_ ?_
  ·exact(Zup hs hm:LE (ZgH E S1 m T x) (ZgH E S2 M T x))
  ·rintro a b rfl
   exact Out.put0 hm _ (λsv h=>h)
  ·exact λh=>ZgK h
 | store T x y=>
  refine Zda hs λv=>?_
  show LC (λK=>match Zos E x with
   | none=>_
   | some key=>bif (E.fixed f).fix.isSome then False else _) (λK=>match Zos E x with
   | none=>_
   | some key=>_) _
  cases Zos E x with
  | some key=>exact LC.false
  | none=>
  refine LC.map (f:=λy:St×Mem=>(y.1.put dst none,m)) (g:=λy:St×Mem=>(y.1.put dst none,M)) (ρ:=λy1 y2=>OutB rs tk false m M S1 S2 y1 y2/\y1.2=m/\y2.2=M) ?_ ?_ ?_ (T1:=λK=>ZhL (E.fixed f) S1 T x v λS'=>K (S',m)) (T2:=λK=>ZhL E S2 T x v λS'=>K (S',M))
  ·exact λh=>Zhh (λS' _ ⟨y1,g1,g2⟩=>⟨(y1.1,m),λK hK=>g1 (λy=>K (y.1,m)) hK,⟨g2.env1,g2.env2,g2.L,g2.tok,hm,λ_=>⟨rfl,rfl⟩,g2.gh2⟩,rfl,rfl⟩) (Zst (tk:=tk) (rs:=rs) (g:=false) hs iv hm h)
  ·rintro a b ⟨h1,h2,h3⟩
   have:=h1.put dst (x1:=none) (x2:=none) (λsv h=>h)
   rw[h2,h3]at this;exact this
  ·exact λh=>Zhh (λS' _=>h _)
 | alloc T=>
  simp only[opW,Zsb,Zus]at *
  cases dst with
  | none=>exact LC.false
  | some d=>
   simp only
   show LC (λK=>match E.tt T with
    | none=>False
    | some i=>_) _ _
   cases E.tt T with
   | none=>exact LC.false
   | some i=>
    simp only at iH ⊢
    rw[hL d (Zgb.1 iH)]
    cases hx:S2.L d with
    | some x=>exact LC.false
    | none=>exact λ_ b=>⟨_,λK hK=>hK b,cU⟩
 | box T x=>
  refine Zda hs λv=>?_
  show LC (λK=>bif Zg9 E dst then(bif (E.fixed f).fix.isSome then False else _)else _) (λK=>bif Zg9 E dst then _ else _) _
  cases lq:Zg9 E dst with
  | true=>exact LC.false
  | false=>
  simp only[cond_false]
  simp only[Zyw,Zus]at *
  cases dst with
  | none=>exact LC.false
  | some d=>
   simp only
   show LC (λK=>match E.tt T with
    | none=>False
    | some i=>_) _ _
   cases E.tt T with
   | none=>exact LC.false
   | some i=>
    simp only at iH ⊢
    rw[hL d (Zgb.1 iH)]
    cases hx:S2.L d with
    | some x=>exact LC.false
    | none=>exact LC.chk λ_ _ b=>⟨_,λK hK=>hK b,cU⟩
 | buildSlice T len parts=>
  simp only[opW]
  have hq:Zdz (E.fixed f) dst=Zdz E dst:=rfl
  simp only[hq]
  cases gY:Zdz E dst with
  | some ke=>exact LC.false
  | none=>
  simp only[Zfd,Zus]at *
  cases dst with
  | none=>exact LC.false
  | some d=>
   simp only
   show LC (λK=>match E.tt T with
    | none=>False
    | some t=>match t.d with
     | .slice e=>match E.tt e with
      | none=>False
      | some i=>_
     | _=>False) _ _
   cases E.tt T with
   | none=>exact LC.false
   | some t=>
    simp only
    cases t.d <;> simp only <;> try exact LC.false
    rename_i e
    cases E.tt e with
    | none=>exact LC.false
    | some i=>
     simp only at iH ⊢
     rw[hL d (Zgb.1 iH)]
     cases hx:S2.L d with
     | some x=>exact LC.false
     | none=>
      refine LC.chk λ_=>ZoL hs λvs=>LC.chk λ_ _ b hb=>⟨_,λK hK=>hK b ?_,?_⟩
      ·intro o
       cases he:m b o with
       | none=>rfl
       | some v=>have:=hm _ _ _ he;rw[hb o]at this;cases this
      ·exact(OutB.newL (Mem.add_le hm b (ZbT vs)) (λh=>by cases h) (by simp[ZoM,dl]) _).put (some d) (λsv h=>h)
 | makeSlice T l c=>
  have hq:Zdz (E.fixed f) dst=Zdz E dst:=rfl
  simp only[opW,hq]
  have me:ZtH (E.fixed f) dst=ZtH E dst:=rfl
  cases gY:Zdz E dst with
  | some ke=>exact LC.false
  | none=>
  simp only[me]
  cases kB:ZtH E dst with
  | true=>exact LC.false
  | false=>
  simp only[cond_false]
  simp only[Zvz,Zus]at *
  cases dst with
  | none=>exact LC.false
  | some d=>
   simp only
   show LC (λK=>match ZaF E T with
    | none=>False
    | some (e,j)=>_) _ _
   cases ZaF E T with
   | none=>exact LC.false
   | some ej=>
    simp only at iH ⊢
    rw[hL d (Zgb.1 iH)]
    cases hx:S2.L d with
    | some x=>exact LC.false
    | none=>exact Zda hs λv=>Zda hs λv'=>LC.chk λ_ ⟨h1,_⟩=>⟨h1,λb=>⟨_,λK hK=>hK.2 b,cU⟩⟩
 | convert s d x=>
  simp only[opW]
  show LC (λK=>bif Zhf E s d then _ else _) _ _
  cases Zhf E s d with
  | false=>
   simp only[cond_false]
   show LC (λK=>bif Zc2 E s d then _ else _) _ _
   cases Zc2 E s d with
   | false=>
    simp only[cond_false]
    show LC (λK=>bif Zc3 E s d then _ else _) _ _
    cases Zc3 E s d with
    | false=>exact eJ _ _ ⟨dst,.convert s d x,type,pos,after,guard⟩
    | true=>exact LC.false
   | true=>exact LC.false
  | true=>
   simp only[cond_true]
   cases he:S1.ev x with
   | none=>exact LC.false
   | some sv=>
    simp only[hs.ev he]
    cases sv <;> first
     | exact LC.false
     | exact LC.ret (Out.put0 hm _ (λsv h=>h))
 | call c=>
  obtain⟨callee,args,argTypes⟩:=c
  cases callee with
  | value g=>
   simp only[opW,ZvL]
   show LC (λK=>match Zes E dst with
    | []=>_
    | ids=>bif (E.fixed f).fix.isSome then False else _) (λK=>match Zes E dst with
    | []=>_
    | ids=>_) _
   cases tY:Zes E dst with
   | cons i l=>exact LC.false
   | nil=>
   simp only[Zvy]
   have il:Zfc E dst=none:=(Zmt iH).2 _ _ _ rfl
   have qo:Zfc (E.fixed f) dst=none:=il
   cases he:S1.ev g with
   | none=>exact LC.false
   | some sv=>
    simp only[hs.ev he]
    cases sv with
    | loc id off=>exact LC.false
    | sl id n c=>exact LC.false
    | v u=>
     cases u <;> try exact LC.false
     rename_i fv first captured
     cases fv <;> try exact LC.false
     rename_i gg
     have jg:ZtD (E.fixed f) dst=ZtD E dst:=rfl
     have tZ:Zq0 (E.fixed f) dst=Zq0 E dst:=rfl
     simp only[tZ]
     cases je:Zq0 E dst with
     | true=>exact LC.false
     | false=>
     simp only[cond_false]
     simp only[jg,il,qo]
     cases mh:ZtD E dst with
     | true=>exact LC.false
     | false=>
     simp only[cond_false]
     have hq:Zdz (E.fixed f) dst=Zdz E dst:=rfl
     simp only[hq]
     cases gY:Zdz E dst with
     | some ke=>exact LC.false
     | none=>
     intro h
     have qp:=Zkw hs h
     revert h
     rw[<-qp]
     show LC (λK:St×Mem->Prop=>wvs S1 args.toList λvs=>ZnS (E.fixed f) S1 m type gg (first.toList++vs++captured.toList) (Zdf S1 args.toList++ZdS E dst) λv S' m'=>K (S'.put dst (some (SV.v v)),m'))
      (λK:St×Mem->Prop=>wvs S2 args.toList λvs=>ZnS E S2 M type gg (first.toList++vs++captured.toList) (Zdf S1 args.toList++ZdS E dst) λv S' m'=>K (S'.put dst (some (SV.v v)),m')) _
     refine ZoL hs λvs=>?_
     refine LC.map (f:=λy:Value×(St×Mem)=>(y.2.1.put dst (some (.v y.1)),y.2.2)) (g:=λy:Value×(St×Mem)=>(y.2.1.put dst (some (.v y.1)),y.2.2)) (Zur (rs:=rs) (tk:=tk) (γ:=λ_ _=>none) hE (f:=f) hs iv hm) ?_ ?_
     ·rintro⟨v1,y1⟩ ⟨v2,y2⟩ ⟨rfl,h2⟩
      exact h2.put dst (λsv h=>h)
     ·exact λh=>Zmo (λv S' m' _ _=>h _)
  | invoke r mm=>
   simp only[opW]
   exact eJ _ _ ⟨dst,_,type,pos,after,guard⟩
  | builtin b=>
   cases b with
   | append=>
    simp only[opW,Zus]at *
    split
    ·rename_i s x T xT d _ _
     cases fO:tk with
     | none=>simp[fO]at iH
     | some key=>
      simp only[fO]at iH
      obtain rfl:=Nat.eq_of_beq_eq_true iH
      simp only[ZvL]
      show LC (λK=>match Zes E (some d)with
       | []=>_
       | ids=>bif (E.fixed f).fix.isSome then False else _) (λK=>match Zes E (some d)with
       | []=>_
       | ids=>_) _
      cases tY:Zes E (some d)with
      | cons i l=>exact LC.false
      | nil=>
      refine Zda hs λv=>Zda hs λv'=>?_
      have z:=Zqg (E:=E) (rs:=[]) (tk:=some (E.tokOf d)) (key:=E.tokOf d) (S1:=S1) (S2:=S2) (f:=f) (T:=T) (xT:=xT) (vs:=v) (vx:=v') hm rfl (λk hk=>cA k (fO.trans hk))
      refine LC.map z (f:=λy:Value×(St×Mem)=>(y.2.1.put (some d) (some (.v y.1)),y.2.2)) (g:=λy:Value×(St×Mem)=>(y.2.1.put (some d) (some (.v y.1)),y.2.2)) ?_ ?_
      ·rintro⟨v1,y1⟩ ⟨v2,y2⟩ ⟨rfl,h2⟩
       exact h2.put (some d) (λsv h=>h)
      ·exact λh=>Zij (λv t m' _=>h _)
    ·exact LC.false
   | copy=>
    simp only[opW,Zus]at *
    split
    ·rename_i d s T xT _ _
     have hq:ZfO (E.fixed f) d=ZfO E d:=rfl
     simp only[hq]
     cases ZfO E d with
     | none=>exact LC.false
     | some id=>
      refine Zda hs λv=>Zda hs λv'=>?_
      have z:=Zuq (E:=E) (rs:=rs) (tk:=tk) (g:=false) (S1:=S1) (S2:=S2) (f:=f) (T:=T) (id:=id) (vd:=v) (vs:=v') hs iv hm
      refine LC.map z (f:=λy:Int×(St×Mem)=>(y.2.1.put dst (some (.v (.int .i64 y.1))),m)) (g:=λy:Int×(St×Mem)=>(y.2.1.put dst (some (.v (.int .i64 y.1))),M)) ?_ ?_
      ·rintro⟨n1,y1⟩ ⟨n2,y2⟩ ⟨rfl,h2,h3,h4⟩
       have:=h2.put dst (x1:=some (.v (.int .i64 n1))) (x2:=some (.v (.int .i64 n1))) (λsv h=>h)
       rw[h3,h4]at this;exact this
      ·exact λh=>Zmn (λn S' _=>h _)
    ·exact LC.false
   | _=>
    simp only[opW]
    exact eJ _ _ ⟨dst,_,type,pos,after,guard⟩
 | _=>
  simp only[opW]
  exact eJ _ _ ⟨dst,_,type,pos,after,guard⟩
theorem Zxv{E:Env}(w:World)(hE:E.fix=none){f:List Value->Mem->Value->Mem->List (List Value)->Prop}(hs:Less S1 S2)(iv:∀id x,S1.L id=some x->id∈rs)(hL:∀id∈rs,S1.L id=S2.L id)
  (cA:∀k,tk=some k->S1.tok k=S2.tok k) (hm:m.le M) {ops:Array Oper} {o:Oper} (iH:Zus E rs tk o=true):
  LC (λK:St×Mem->Prop=>opG (E.fixed f) ops o S1 m λS' m'=>K (S',m')) (λK:St×Mem->Prop=>opG E ops o S2 M λS' m'=>K (S',m')) (Out (ZoM rs o) tk (Zeu o) m M o.dst S1 S2):=by
 have h1:=Zxu w hE (f:=f) hs iv hL cA hm iH
 have h0:LC (λK:St×Mem->Prop=>K (S1.put o.dst (some (.v undef)),m)) (λK:St×Mem->Prop=>K (S2.put o.dst (some (.v undef)),M)) (Out (ZoM rs o) tk (Zeu o) m M o.dst S1 S2):=LC.ret (Out.put0 hm _ (λsv h=>h))
 unfold opG
 cases hg:o.guard with
 | none=>exact h1
 | some jw=>
  obtain⟨j,want⟩:=jw
  simp only
  cases ops.toList[j]? with
  | none=>exact LC.false
  | some oj=>
   simp only
   cases oj.dst with
   | none=>exact LC.false
   | some t=>
    simp only
    cases he:S1.env t with
    | none=>exact LC.false
    | some sv=>
     simp only[hs.env t sv he]
     cases sv with
     | loc id off=>exact LC.false
     | sl id n c=>exact LC.false
     | v u=>
      simp only
      cases Zet u with
      | true=>exact h0
      | false=>
       refine LC.chk λ_=>?_
       cases want
       ·exact LC.br h0 h1
       ·exact LC.br h1 h0
end
def mem(l:List Nat)(i:Nat):Bool:=l.any (Nat.beq i ·)
theorem Za9{l:List Nat}{i:Nat}:mem l i=true↔i∈l:=Zgb
def Zsu(t:Option Nat)(k:Nat):Bool:=match t with
 | some q=>Nat.beq k q
 | none=>false
theorem ZbU{t:Option Nat}{k:Nat}:Zsu t k=true↔t=some k:=by
 cases t with
 | none=>simp[Zsu]
 | some q=>
  simp only[Zsu,Option.some.injEq]
  exact⟨λh=>(Nat.eq_of_beq_eq_true h).symm,λh=>by subst h;exact Nat.beq_refl _⟩
def ZgP(o:Oper)(t:Nat):Bool:=Zsu o.dst t
def Zqh(ops:Array Oper)(d:DOp)(o:Oper)(S:St):St:=
 {env:=λt=>bif mem (o.looksAt ops) t then S.env t else none
  L:=λid=>bif mem d.rs id then S.L id else none
  ids:=S.ids
  tok:=λk=>bif Zsu d.tk k then S.tok k else none
  tkeys:=S.tkeys
  gh:=S.gh }
def ZoN(d:DOp)(o:Oper)(S S':St):St:=
 {env:=λt=>bif ZgP o t then S'.env t else S.env t
  L:=λid=>bif mem d.ws id then S'.L id else S.L id
  ids:=S.ids
  tok:=λk=>bif Zsu d.tk k then S'.tok k else S.tok k
  tkeys:=S.tkeys
  gh:=S.gh }
def upd(μ:Nat->Mem)(i:Nat)(m:Mem):Nat->Mem:=λj=>bif Nat.beq j i then m else μ j
def ZpW(μ:Nat->Mem)(M:Mem):List Nat->Prop->Prop
 | [],p=>p
 | j::l,p=>(μ j).le M->ZpW μ M l p
def Zq9(μ:Nat->Mem)(m0:Mem):List Nat->(Mem->Prop)->Prop
 | [],k=>k m0
 | [j],k=>k (μ j)
 | l,k=>∀V:Mem,m0.le V->ZpW μ V l (k V)
abbrev Fx:=Nat->List Value->Mem->Value->Mem->List (List Value)->Prop
def ZtB(E:Env)(ops:Array Oper)(m0:Mem)(f:Fx)(d:DOp)(S:St)(μ:Nat->Mem)(K:St->Mem->Prop):Prop:=match ops.toList[d.i]? with
 | none=>False
 | some o=>Zq9 μ m0 d.vw λV=>opG (E.fixed (f d.i)) ops o (Zqh ops d o S) V K
def Zqi(ops:Array Oper)(d:DOp)(S S':St):St:=match ops.toList[d.i]? with
 | none=>S
 | some o=>ZoN d o S S'
def Zld(E:Env)(ops:Array Oper)(m0:Mem)(f:Fx)(d:DOp)(S:St)(μ:Nat->Mem)(K:St->(Nat->Mem)->Prop):Prop:=
 ZtB E ops m0 f d S μ λS' m'=>K (Zqi ops d S S') (upd μ d.i m')
def ZjA(E:Env)(ops:Array Oper)(m0:Mem)(f:Fx):List DOp->(St->(Nat->Mem)->Prop)->St->(Nat->Mem)->Prop
 | [],K,S,μ=>K S μ
 | d::r,K,S,μ=>Zld E ops m0 f d S μ (ZjA E ops m0 f r K)
def Zxe(ops:Array Oper)(d:DOp):Option Nat:=match ops.toList[d.i]? with
 | none=>none
 | some o=>ZgI ops o
def ZjB(E:Env)(ops:Array Oper)(m0:Mem)(f:Fx):List DOp->(St->(Nat->Mem)->Prop)->St->(Nat->Mem)->Prop
 | [],K,S,μ=>K S μ
 | d::r,K,S,μ=>match Zxe ops d with
  | none=>Zld E ops m0 f d S μ (ZjB E ops m0 f r K)
  | some t=>match S.env t with
   | some (.v v)=>bif Zet v then Zld E ops m0 f d S μ (ZjB E ops m0 f r K)else chk (ZhK v) (br (ZcZ v) (Zld E ops m0 f d (S.put (some t) (some (.v (.bool true)))) μ (ZjB E ops m0 f r K)) (Zld E ops m0 f d (S.put (some t) (some (.v (.bool false)))) μ (ZjB E ops m0 f r K)))
   | _=>False
def Zxf(m0:Mem)(μ:Nat->Mem):List Nat->(Mem->Prop)->Prop
 | [],k=>k m0
 | l,k=>∀M:Mem,m0.le M->ZpW μ M l (k M)
def ZjC(ops:Array Oper):List DOp->List Nat
 | []=>[]
 | d::r=>match ops.toList[d.i]? with
  | none=>ZjC ops r
  | some o=>bif Zeu o then d.i::ZjC ops r else ZjC ops r
def Zv4:List DOp->List Nat
 | []=>[]
 | d::r=>d.ws++Zv4 r
def ZvD:List DOp->List Nat
 | []=>[]
 | d::r=>match d.tk with
  | none=>ZvD r
  | some k=>k::ZvD r
def Zle(ds:List DOp)(S:St):St:={ S with ids:=Zv4 ds++S.ids,tkeys:=ZvD ds++S.tkeys }
def ZyB(a b:List Nat):Bool:=a.all λi=>!mem b i
def Zyp(a b:List Nat):Bool:=a.all λi=>mem b i
def ZoO(o:Oper)(l:List Nat):Bool:=match o.dst with
 | none=>true
 | some t=>!mem l t
def Zxg(a b:Oper):Bool:=match a.dst with
 | none=>true
 | some t=>!ZgP b t
def Zy2(a b:Option Nat):Bool:=match a with
 | none=>true
 | some k=>!Zsu b k
def Zra(ops:Array Oper)(c d:DOp):Bool:=match ops.toList[c.i]?,ops.toList[d.i]? with
 | some oc,some od=>(ZoO oc (od.looksAt ops)&&ZoO od (oc.looksAt ops)&&Zxg oc od)&&(ZyB c.ws d.rs&&ZyB d.ws c.rs&&Zy2 c.tk d.tk)&&(!mem d.vw c.i&&!mem c.vw d.i&&!Nat.beq c.i d.i)
 | _,_=>false
def Zbs(o:Oper):List Nat:=(o.after.toList.filter (Region.binds .any ·)).map (·.on)
def Zx1:List DOp->Nat->List Nat
 | [],_=>[]
 | d::r,i=>bif Nat.beq d.i i then d.an else Zx1 r i
def Zxh(E:Env)(ops:Array Oper)(d:DOp)(before:List DOp):Bool:=match ops.toList[d.i]? with
 | none=>false
 | some o=>(Zus E d.rs d.tk o&&Zyp (ZoM d.rs o) d.ws&&Zyp d.ws d.rs)&&(Zyp d.vw d.an&&Zyp (Zbs o) (before.map (·.i))) &&
   (d.an.all λj=>mem (Zbs o) j||(Zbs o).any λp=>mem (Zx1 before p) j)&&(before.all λc=>mem d.an c.i||Zra ops c d)&&(before.all λc=>!Nat.beq c.i d.i)
def ZjG(E:Env)(ops:Array Oper):List DOp->List DOp->Bool
 | [],_=>true
 | d::r,before=>Zxh E ops d before&&ZjG E ops r (d::before)
def Zv5(E:Env)(ops:Array Oper)(ds:List DOp)(n:Nat):Bool:=(List.range n).all (λi=>ds.any λd=>Nat.beq d.i i)&&Nat.ble ds.length ops.size&&ZjG E ops ds []&&E.fix.isNone
def ZtM:List Oper->Bool
 | []=>false
 | o::l=>(match o.op with
  | .call c=>(match c.callee with
   | .value _=>true
   | _=>false)
  | _=>false)||ZtM l
def Zzn:Fx:=λ_ _ _ _ _ _=>True
def exF(b:Bool)(p:Fx->Prop):Prop:=match b with
 | true=>∃f,p f
 | false=>p Zzn
theorem Zut{b:Bool}{p:Fx->Prop}(h:exF b p):∃f,p f:=by
 cases b
 ·exact⟨_,h⟩
 ·exact h
theorem Zuu{b:Bool}{p q:Fx->Prop}(h:∀f,p f->q f)(x:exF b p):exF b q:=by
 cases b
 ·exact h _ x
 ·obtain⟨f,x⟩:=x;exact⟨f,h f x⟩
def Zv6(ops:Array Oper)(ds:List DOp)(k:Nat):Bool:=(Nat.ble k ops.size&&(List.range k).all λj=>match ops.toList[ops.size - k+j]? with
 | none=>false
 | some o=>(List.range j).all (λi=>mem (Zbs o) (ops.size - k+i))&&((Zbs o).all (λi=>Nat.ble (i+1) (ops.size - k+j))&&(bif Nat.beq j 0 then(List.range (ops.size - k)).all (λi=>mem (Zbs o) i||(Zbs o).any λp=>mem (Zx1 ds p) i)else true)))&&ds.all λd=>Nat.ble (d.i+1) (ops.size - k)
def Zkx(E:Env)(ops:Array Oper)(K:St->Mem->Prop):List Oper->St->Mem->Prop
 | [],S,m=>K S m
 | o::r,S,m=>Zxr E ops o S m (Zkx E ops K r)
def Zsv(E:Env)(ops:Array Oper)(k:Nat)(K:St->Mem->Prop)(S:St)(m:Mem):Prop:=Zkx E ops K (ops.toList.drop (ops.size - k)) S m
def ZtN(E:Env)(S:St)(ids:List Nat)(T:TypeId)(x:Operand)(k:Value->Prop):Prop:=match E.tt T with
 | none=>False
 | some i=>match S.ev x with
  | some (.loc id off)=>match S.L id with
   | none=>False
   | some bx=>chk (!mem ids id) (ZcR i bx off k)
  | some (.v v)=>match E.m0 with
   | none=>False
   | some m0=>chk (ZkW v&&(ZfO E x).isNone) (Zdd i m0 (Zr2 v) (Zr3 v) k)
  | _=>False
def Znr(E:Env)(S:St)(ids:List Nat):List Oper->St->(St->Prop)->Prop
 | [],S1,k=>k S1
 | o::r,S1,k=>match o.op with
  | .load T x=>ZtN E S ids T x λv=>Znr E S ids r (S1.put o.dst (some (.v v))) k
  | _=>False
def Zsw{α:Type}:List α->Bool
 | []=>true
 | _=>false
def ZoP(l:List Nat):Operand->Bool
 | .tmp t=>!mem l t
 | _=>true
def Zx2:Operand->Bool
 | .func _=>true
 | _=>false
def ZtO(E:Env)(ops:Array Oper)(o:Oper):Bool:=o.guard.isNone&&(Zsw (Zbs o)&&(match o.op with
 | .load _ x=>(ZqZ E o.dst).isNone&&(o.dst.isSome&&ZoP (Zav ops.toList) x)
 | _=>false))
def ZoQ(E:Env)(ops:Array Oper)(c:Nat)(lds:List Oper)(o:Oper):Bool:=o.guard.isNone&&(match o.op with
 | .call q=>(match q.callee with
  | .value f=>(Zfc E o.dst).isSome&&((Zsw (Zes E o.dst)&&!Zq0 E o.dst)&&(o.dst.isSome&&(ZoO o (Zav lds)&&(Zx2 f &&
    ((List.range c).all λj=>mem (Zbs o) j||match ops.toList[j]? with
     | none=>false
     | some oj=>match oj.dst with
      | none=>false
      | some t=>q.args.toList.all (ZoP [t]))))))&&(Zbs o).all λj=>Nat.ble (j+1) c
  | _=>false)
 | _=>false)
def Zxi(E:Env)(ops:Array Oper)(k:Nat):Bool:=
 (Nat.ble k ops.size&&(Nat.ble 1 k&&E.thaw))&&((ops.toList.take (ops.size - k)).all (ZtO E ops)&&(Zbl (Zav (ops.toList.take (ops.size - k))) &&
  ((match ops.toList[ops.size - k]? with
   | none=>false
   | some o=>ZoQ E ops (ops.size - k) (ops.toList.take (ops.size - k)) o) &&
  (List.range k).all λj=>bif Nat.beq j 0 then true else match ops.toList[ops.size - k+j]?,ops.toList[ops.size - k]? with
   | some o,some oc=>(List.range j).all (λi=>mem (Zbs o) (ops.size - k+i))&&((Zbs o).all (λi=>Nat.ble (i+1) (ops.size - k+j)) &&
     (bif Nat.beq j 1 then(List.range (ops.size - k)).all (λi=>mem (Zbs o) i||mem (Zbs oc) i)else true))
   | _,_=>false)))
def Zx3(E:Env)(id:Nat)(ops:Array Oper)(K:St->Mem->Prop)(S:St)(m:Mem):Prop:=
 chk (E.last id&&Zxi E ops (E.lastK id)) (match ops.toList.drop (ops.size - E.lastK id)with
  | []=>False
  | o::r=>match o.op with
   | .call q=>Znr E S (ZdS E o.dst) (ops.toList.take (ops.size - E.lastK id)) S λS1=>chk (Zsw (Zdf S1 q.args.toList)) (opG E ops o S1 m (Zkx E ops K r))
   | _=>False)
def Zlf(E:Env)(id:Nat)(ops:Array Oper)(K:St->Mem->Prop)(S:St)(m:Mem):Prop:=
 bif E.hot id then Zx3 E id ops K S m else
 chk (Zv5 E ops (E.dr id) (bif E.last id then ops.size - E.lastK id else ops.size)&&(bif E.last id then Zv6 ops (E.dr id) (E.lastK id)else true)) (exF (ZtM ops.toList) λf=>bif E.gb then ZjB E ops m f (E.dr id) (λS' μ=>Zxf m μ (ZjC ops (E.dr id)) λM=>bif E.last id then Zsv E ops (E.lastK id) K S' M else K S' M) (Zle (E.dr id) S) (λ_=>m)else ZjA E ops m f (E.dr id) (λS' μ=>Zxf m μ (ZjC ops (E.dr id)) λM=>bif E.last id then Zsv E ops (E.lastK id) K S' M else K S' M) (Zle (E.dr id) S) (λ_=>m))
def Zyq(S:St)(y:Option SV):Option SV:=match y with
 | some (.loc i off)=>(match S.L i with
  | some x=>some (.v (.pointer (some ⟨x.b,off,none⟩)))
  | none=>none)
 | y=>y
def ptrS(S:St)(ts:List Nat):St:={ S with env:=λt=>bif mem ts t then Zyq S (S.env t)else S.env t }
def ZjH(S S':St):List Nat->Prop->Prop
 | [],p=>p
 | t::l,p=>match S.env t with
  | some (.loc i _)=>S'.L i=S.L i/\ZjH S S' l p
  | some (.v _)=>ZjH S S' l p
  | _=>False
def Zv7(S S':St)(ts:List Nat):St:={ S' with env:=λt=>bif mem ts t then S.env t else S'.env t }
def Zx4(ts ds:List Nat)(f:(St->Mem->Prop)->St->Mem->Prop)(K:St->Mem->Prop)(S:St)(m:Mem):Prop:=match ts with
 | []=>f K S m
 | _::_=>chk (ZyB ts ds) (f (λS' m'=>ZjH S S' ts (K (Zv7 S S' ts) m')) (ptrS S ts) m)
def Zbd(E:Env)(id:Nat)(ops:Array Oper)(K:St->Mem->Prop)(S:St)(m:Mem):Prop:=ZvL E (some (1000000+id)) S m λS m=>ZvT E (bif E.last id then E.acq id else none) (Zx4 (E.ptrAt id) (Zav ops.toList) (Zlf E id ops)) K S m
theorem Zjn{μ:Nat->Mem}{M:Mem}{p q:Prop}(h:p->q):∀{l:List Nat},ZpW μ M l p->ZpW μ M l q
 | [],x=>h x
 | j::l,x=>λy=>Zjn h (x y)
theorem Zjo{μ:Nat->Mem}{M:Mem}{p:Prop}:∀{l:List Nat},ZpW μ M l p->(∀j∈l,(μ j).le M)->p
 | [],x,_=>x
 | j::l,x,h=>Zjo (x (h j (by simp))) (λi hi=>h i (by simp[hi]))
theorem Zqj{μ:Nat->Mem}{m0:Mem}{k k':Mem->Prop}(h:∀V,k V->k' V):∀{l:List Nat},Zq9 μ m0 l k->Zq9 μ m0 l k'
 | [],x=>h _ x
 | [j],x=>h _ x
 | i::j::l,x=>λV hV=>Zjn (h V) (x V hV)
theorem Zqk{μ:Nat->Mem}{m0 A:Mem}{l:List Nat}(h0:m0.le A)(hl:∀j∈l,(μ j).le A):∃V:Mem,V.le A/\∀k:Mem->Prop,Zq9 μ m0 l k->k V:=by
 match l with
 | []=>exact⟨m0,h0,λk x=>x⟩
 | [j]=>exact⟨μ j,hl j (by simp),λk x=>x⟩
 | i::j::l=>exact⟨A,Mem.le_refl A,λk x=>Zjo (x A h0) hl⟩
theorem Zsx{μ:Nat->Mem}{m0:Mem}{i:Nat}{m:Mem}{l:List Nat}(h:i ∉ l)(k:Mem->Prop):Zq9 (upd μ i m) m0 l k=Zq9 μ m0 l k:=by
 have one:∀{j},j∈l->upd μ i m j=μ j:=λ{j} hj=>by
  have:j≠i:=λe=>h (e ▸ hj)
  simp[upd,Zas this]
 have all:∀{l':List Nat},(∀j∈l',j∈l)->∀(M:Mem)(p:Prop),ZpW (upd μ i m) M l' p=ZpW μ M l' p:=by
  intro l'
  induction l' with
  | nil=>intro _ M p;rfl
  | cons j l' ih=>
   intro hs M p
   simp only[ZpW]
   rw[one (hs j (by simp)),ih (λx hx=>hs x (by simp[hx]))]
 match l with
 | []=>rfl
 | [j]=>simp only[Zq9];rw[one (by simp)]
 | a::b::l=>
  simp only[Zq9]
  exact propext ⟨λx V hV=>by have:=x V hV;rwa [all (λj hj=>hj)]at this,λx V hV=>by rw[all (λj hj=>hj)];exact x V hV⟩
theorem Zsy{m0:Mem}{μ:Nat->Mem}{l:List Nat}{k:Mem->Prop}{A:Mem}(h:Zxf m0 μ l k)(h0:m0.le A)(he:l=[]->A=m0)(hl:∀j∈l,(μ j).le A):k A:=by
 match l with
 | []=>rw[he rfl];exact h
 | i::l=>exact Zjo (h A h0) hl
theorem ZoR{m0:Mem}{μ:Nat->Mem}{l:List Nat}{k k':Mem->Prop}(h:∀M:Mem,m0.le M->k M->k' M)(x:Zxf m0 μ l k):Zxf m0 μ l k':=by
 match l with
 | []=>exact h _ (Mem.le_refl _) x
 | i::l=>exact λM hM=>Zjn (h M hM) (x M hM)
theorem Zfg{E:Env}{ops:Array Oper}{m0:Mem}{f:Fx}{d:DOp}{S:St}{μ:Nat->Mem}{K K':St->Mem->Prop}(h:∀S' m',K S' m'->K' S' m')(hx:ZtB E ops m0 f d S μ K):ZtB E ops m0 f d S μ K':=by
 unfold ZtB at *
 split at hx
 ·exact hx.elim
 ·exact Zqj (λV y=>Zhi (th:=true) (.inl rfl) (λS' m' _ _=>h S' m') y) hx
theorem Zmu{E:Env}{ops:Array Oper}{m0:Mem}{f:Fx}:∀{r:List DOp} {K K':St->(Nat->Mem)->Prop} {S:St} {μ:Nat->Mem},(∀S' μ',SameOut (Zav ops.toList) S S'->K S' μ'->K' S' μ')->ZjA E ops m0 f r K S μ->ZjA E ops m0 f r K' S μ
 | [],K,K',S,μ,h,hx=>h _ _ (SameOut.refl _ S) hx
 | d::r,K,K',S,μ,h,hx=>by
  refine Zfg (λS' m' y=>Zmu (λS'' μ'' hs y=>h _ _ (SameOut.trans ?_ hs) y) y) hx
  intro t ht
  unfold Zqi
  cases ho:ops.toList[d.i]? with
  | none=>rfl
  | some o=>
   have:ZgP o t=false:=by
    cases hd:ZgP o t with
    | false=>rfl
    | true=>exact absurd (Zbb ho (ZbU.1 hd)) ht
   simp[ZoN,this]
theorem Zsz{ops:Array Oper}{d:DOp}{S S':St}:SameOut (Zav ops.toList) S (Zqi ops d S S'):=by
 intro t ht
 unfold Zqi
 cases ho:ops.toList[d.i]? with
 | none=>rfl
 | some o=>
  have:ZgP o t=false:=by
   cases hd:ZgP o t with
   | false=>rfl
   | true=>exact absurd (Zbb ho (ZbU.1 hd)) ht
  simp[ZoN,this]
theorem ZsA{ops:Array Oper}{d:DOp}{t:Nat}(h:Zxe ops d=some t):t∈Zav ops.toList:=by
 unfold Zxe ZgI at h
 split at h
 ·cases h
 ·split at h
  ·cases h
  ·split at h
   ·cases h
   ·rename_i oj hj
    exact Zbb hj h
theorem Zmv{E:Env}{ops:Array Oper}{m0:Mem}{f:Fx}:∀{r:List DOp} {K K':St->(Nat->Mem)->Prop} {S:St} {μ:Nat->Mem},(∀S' μ',SameOut (Zav ops.toList) S S'->K S' μ'->K' S' μ')->ZjB E ops m0 f r K S μ->ZjB E ops m0 f r K' S μ
 | [],K,K',S,μ,h,hx=>h _ _ (SameOut.refl _ S) hx
 | d::r,K,K',S,μ,h,hx=>by
  have step:∀{S1:St},SameOut (Zav ops.toList) S S1->Zld E ops m0 f d S1 μ (ZjB E ops m0 f r K)->Zld E ops m0 f d S1 μ (ZjB E ops m0 f r K'):=λhs y=>
   Zfg (λS' m' y=>Zmv (λS'' μ'' jX y=>h _ _ (SameOut.trans (SameOut.trans hs Zsz) jX) y) y) y
  unfold ZjB at hx ⊢
  split at hx
  ·exact step (SameOut.refl _ S) hx
  ·rename_i t ht
   have iw:∀x,SameOut (Zav ops.toList) S (S.put (some t) x):=λx=>(SameOut.refl _ S).put (λt' e=>by cases e;exact ZsA ht) x
   split at hx
   ·rename_i v hv
    cases hu:Zet v with
    | true=>simp only[hu,cond_true]at hx ⊢;exact step (SameOut.refl _ S) hx
    | false=>
     simp only[hu,cond_false]at hx ⊢
     refine Zaj (λy=>?_) hx
     cases hb:ZcZ v with
     | true=>rw[hb]at y;exact step (iw _) y
     | false=>rw[hb]at y;exact step (iw _) y
   ·exact hx.elim
theorem Zrb{S:St}{t:Nat}{x:SV}(h:S.env t=some x):S.put (some t) (some x)=S:=by
 cases S with
 | mk env L ids tok tkeys gh=>
  simp only[St.put]
  congr 1
  funext i
  by_cases e:i=t
  ·subst e;simp at h ⊢;exact h.symm
  ·simp[Zas e]
theorem Zky{E:Env}{ops:Array Oper}{m0:Mem}{f:Fx}:∀{r:List DOp} {K:St->(Nat->Mem)->Prop} {S:St} {μ:Nat->Mem},ZjB E ops m0 f r K S μ->ZjA E ops m0 f r K S μ
 | [],K,S,μ,hx=>hx
 | d::r,K,S,μ,hx=>by
  have step:∀{S1:St},Zld E ops m0 f d S1 μ (ZjB E ops m0 f r K)->Zld E ops m0 f d S1 μ (ZjA E ops m0 f r K):=λy=>Zfg (λS' m' y=>Zky y) y
  unfold ZjB at hx
  show Zld E ops m0 f d S μ (ZjA E ops m0 f r K)
  split at hx
  ·exact step hx
  ·split at hx
   ·rename_i v hv
    cases hu:Zet v with
    | true=>simp only[hu,cond_true]at hx;exact step hx
    | false=>
     simp only[hu,cond_false]at hx
     obtain⟨h1,h2⟩:=Zag hx
     have he:=Zb3 h1
     cases hb:ZcZ v with
     | true=>
      rw[hb]at he h2
      subst he
      have h3:Zld E ops m0 f d (S.put (some _) (some (.v (.bool true)))) μ (ZjB E ops m0 f r K):=h2
      rw[Zrb hv]at h3;exact step h3
     | false=>
      rw[hb]at he h2
      subst he
      have h3:Zld E ops m0 f d (S.put (some _) (some (.v (.bool false)))) μ (ZjB E ops m0 f r K):=h2
      rw[Zrb hv]at h3;exact step h3
   ·exact hx.elim
theorem Zmw{E:Env}{id:Nat}{ops:Array Oper}{K K':St->Mem->Prop}{S:St}{m:Mem}(h:∀S' m',SameOut (Zav ops.toList) S S'->leD E id m m'->K S' m'->K' S' m'){S':St}{M:Mem}(hs:SameOut (Zav ops.toList) S S')(hM:m.le M)(y:bif E.last id then Zsv E ops (E.lastK id) K S' M else K S' M):bif E.last id then Zsv E ops (E.lastK id) K' S' M else K' S' M:=by
 cases hl:E.last id with
 | false=>
  rw[hl]at y
  exact h _ _ hs (by unfold leD;rw[hl];exact hM) y
 | true=>
  rw[hl]at y
  simp only[cond_true]at y ⊢
  unfold Zsv at y ⊢
  have key:∀(r:List Oper),(∀o∈r,o∈ops.toList)->∀(S':St)(M:Mem),SameOut (Zav ops.toList) S S'->leT E.thaw m M->Zkx E ops K r S' M->Zkx E ops K' r S' M:=by
   intro r
   induction r with
   | nil=>exact λ_ S' M hs hM y=>h _ _ hs (by unfold leD;rw[hl];exact hM) y
   | cons o r ih=>
    intro hr S' M hs hM y
    simp only[Zkx]at y ⊢
    obtain⟨i,ho⟩:=List.getElem?_of_mem (hr o (by simp))
    exact Zk9 (λt ht=>Zbb ho ht) (λS2 m2 jX aY y=>ih (λo ho=>hr o (by simp[ho])) _ _ (hs.trans jX) (leT.trans hM aY) y) y
  exact key _ (λo ho=>List.mem_of_mem_drop ho) _ _ hs (.of hM) y
theorem Zmx{E:Env}{ops:Array Oper}{K K':St->Mem->Prop}{S:St}{m:Mem}(h:∀S' m',SameOut (Zav ops.toList) S S'->leT E.thaw m m'->K S' m'->K' S' m'):∀(r:List Oper),(∀o∈r,o∈ops.toList)->∀(S':St)(M:Mem),SameOut (Zav ops.toList) S S'->leT E.thaw m M->Zkx E ops K r S' M->Zkx E ops K' r S' M
 | [],_,S',M,hs,hM,y=>h _ _ hs hM y
 | o::r,hr,S',M,hs,hM,y=>by
  simp only[Zkx]at y ⊢
  obtain⟨i,ho⟩:=List.getElem?_of_mem (hr o (by simp))
  exact Zk9 (λt ht=>Zbb ho ht) (λS2 m2 jX aY y=>Zmx h r (λo ho=>hr o (by simp[ho])) _ _ (hs.trans jX) (leT.trans hM aY) y) y
theorem Zql{E:Env}{S:St}{ids:List Nat}{T:TypeId}{x:Operand}{k k':Value->Prop}(h:∀v,k v->k' v)(hx:ZtN E S ids T x k):ZtN E S ids T x k':=by
 unfold ZtN at *
 split at hx
 ·exact hx
 ·split at hx
  ·split at hx
   ·exact hx
   ·exact Zaj (Zd3 h) hx
  ·split at hx
   ·exact hx
   ·exact Zaj (Zii h) hx
  ·exact hx
theorem Zkz{E:Env}{S:St}{ids:List Nat}{D:List Nat}:∀{r:List Oper} {S1:St} {k k':St->Prop},(∀o∈r,∀t,o.dst=some t->t∈D)->(∀S',SameOut D S1 S'->k S'->k' S')->Znr E S ids r S1 k->Znr E S ids r S1 k'
 | [],S1,k,k',_,h,hx=>h _ (SameOut.refl _ S1) hx
 | o::r,S1,k,k',hd,h,hx=>by
  unfold Znr at *
  split at hx
  ·refine Zql (λv y=>Zkz (λo ho=>hd o (by simp[ho])) (λS' hs y=>h _ (SameOut.trans ?_ hs) y) y) hx
   exact(SameOut.refl _ S1).put (λt e=>hd o (by simp) t e) _
  ·exact hx
theorem Zv8{E:Env}{id:Nat}{ops:Array Oper}{K K':St->Mem->Prop}{S:St}{m:Mem}(h:∀S' m',SameOut (Zav ops.toList) S S'->leD E id m m'->K S' m'->K' S' m')(hx:Zx3 E id ops K S m):Zx3 E id ops K' S m:=by
 unfold Zx3 at *
 obtain⟨h1,h2⟩:=Zag hx
 refine Zaa h1 ?_
 simp only[Bool.and_eq_true]at h1
 have iu:E.thaw=true:=by
  have:=h1.2
  simp only[Zxi,Bool.and_eq_true]at this
  exact this.1.2.2
 split at h2
 ·exact h2
 ·rename_i o r mr
  split at h2
  ·rename_i q hq
   have cD:∀o'∈ops.toList.drop (ops.size - E.lastK id),o'∈ops.toList:=λo' ho'=>List.mem_of_mem_drop ho'
   rw[mr]at cD
   have inD:∀o'∈ops.toList,∀t,o'.dst=some t->t∈Zav ops.toList:=λo' ho' t ht=>by
    obtain⟨i,hi⟩:=List.getElem?_of_mem ho'
    exact Zbb hi ht
   refine Zkz (D:=Zav ops.toList) (λo' ho' t ht=>inD o' (List.mem_of_mem_take ho') t ht) (λS1 hs y=>Zaj (λy=>?_) y) h2
   refine Zhi (th:=true) (.inl rfl) (λS2 m2 jX _ y=>?_) y
   refine Zmx (S:=S) (m:=m) (λS3 m3 t3 _ y=>h _ _ t3 (by unfold leD;rw[h1.1,iu];trivial) y) r (λo' ho'=>cD o' (by simp[ho'])) _ _ (hs.trans ?_) (by rw[iu];trivial) y
   exact jX.mono λt ht=>by
    cases hd:o.dst with
    | none=>simp[hd,dl]at ht
    | some d=>simp[hd,dl]at ht;subst ht;exact inD o (cD o (by simp)) _ hd
  ·exact h2
theorem Zlg(E:Env):ZeX E (Zlf E):=by
 intro id ops K K' S m h hx
 unfold Zlf at *
 cases hh:E.hot id with
 | true=>simp only[hh,cond_true]at hx ⊢;exact Zv8 h hx
 | false=>
 simp only[hh,cond_false]at hx ⊢
 refine Zaj (λy=>?_) hx
 refine Zuu (λf y=>?_) y
 cases nm:E.gb with
 | false=>
  simp only[nm,cond_false]at y ⊢
  exact Zmu (λS' μ hs y=>ZoR (λM hM y=>Zmw h hs hM y) y) y
 | true=>
  simp only[nm,cond_true]at y ⊢
  exact Zmv (λS' μ hs y=>ZoR (λM hM y=>Zmw h hs hM y) y) y
theorem Zhl{S S':St}{p q:Prop}(h:p->q):∀{l:List Nat},ZjH S S' l p->ZjH S S' l q
 | [],x=>h x
 | t::l,x=>by
  unfold ZjH at *
  split at x
  ·exact⟨x.1,Zhl h x.2⟩
  ·exact Zhl h x
  ·exact x
theorem Zhm{S S':St}{p:Prop}:∀{l:List Nat},ZjH S S' l p->p/\∀t∈l,(∃i off,S.env t=some (.loc i off)/\S'.L i=S.L i)\/∃v,S.env t=some (.v v)
 | [],x=>⟨x,by simp⟩
 | t::l,x=>by
  unfold ZjH at x
  split at x
  ·rename_i i off he
   obtain⟨h1,h2⟩:=Zhm x.2
   refine⟨h1,λt' ht=>?_⟩
   rcases List.mem_cons.1 ht with rfl|ht
   ·exact .inl ⟨i,off,he,x.1⟩
   ·exact h2 t' ht
  ·rename_i v he
   obtain⟨h1,h2⟩:=Zhm x
   refine⟨h1,λt' ht=>?_⟩
   rcases List.mem_cons.1 ht with rfl|ht
   ·exact .inr ⟨v,he⟩
   ·exact h2 t' ht
  ·exact x.elim
theorem ZsB{S S':St}{ts ds:List Nat}(h:SameOut ds (ptrS S ts) S'):SameOut ds S (Zv7 S S' ts):=by
 intro t ht
 show(bif mem ts t then S.env t else S'.env t)=_
 cases hm:mem ts t with
 | true=>rfl
 | false=>
  rw[cond_false,h t ht]
  show(bif mem ts t then _ else S.env t)=_
  rw[hm];rfl
theorem Zrc{E:Env}{id:Nat}{ops:Array Oper}{ts:List Nat}{K K':St->Mem->Prop}{S:St}{m:Mem}(h:∀S' m',SameOut (Zav ops.toList) S S'->leD E id m m'->K S' m'->K' S' m')
  (y:Zx4 ts (Zav ops.toList) (Zlf E id ops) K S m):Zx4 ts (Zav ops.toList) (Zlf E id ops) K' S m:=by
 unfold Zx4 at *
 split at y
 ·exact Zlg E id ops K K' S m h y
 ·exact Zaj (λy=>Zlg E id ops _ _ _ m (λS' m' hs hl y=>Zhl (λy=>h _ m' (ZsB hs) hl y) y) y) y
theorem Zlh(E:Env):ZeX E (Zbd E):=by
 intro id ops K K' S m h hx
 refine Zk2 (λS1 m1 he hm y=>?_) hx
 have up:∀{m'},leD E id m1 m'->leD E id m m':=λhl=>by
  unfold leD at hl ⊢
  cases hl':E.last id with
  | true=>rw[hl']at hl;exact leT.trans (.of hm) hl
  | false=>rw[hl']at hl;exact mLt hm hl
 cases hl:E.last id with
 | false=>
  simp only[hl,cond_false,ZvT]at y ⊢
  exact Zrc (λS' m' hs hl y=>h S' m' ((ZdK he).trans hs) (up hl) y) y
 | true=>
  simp only[hl,cond_true]at y ⊢
  unfold ZvT at *
  split at y
  ·exact Zrc (λS' m' hs hl y=>h S' m' ((ZdK he).trans hs) (up hl) y) y
  ·obtain⟨y1,y2⟩:=Zag y
   refine Zaa y1 ?_
   simp only[Bool.and_eq_true]at y1
   split at y2
   ·exact y2
   ·obtain⟨a,n,c,z1,z2,z3⟩:=y2
    refine⟨a,n,c,z1,z2,Zrc (λS' m' hs _ z=>?_) z3⟩
    split at z
    ·exact z
    ·exact Zaj (λz zs hz=>h _ _ ((ZdK he).trans (λt ht=>hs t ht)) (by unfold leD;rw[hl,y1.1];trivial) (z zs hz)) z
theorem St.ext'{a b:St}(h1:a.env=b.env)(h2:a.L=b.L)(h3:a.ids=b.ids)(h4:a.tok=b.tok)(h5:a.tkeys=b.tkeys)(h6:a.gh=b.gh):a=b:=by
 cases a;cases b;simp at *;exact⟨h1,h2,h3,h4,h5,h6⟩
structure Ind (ops:Array Oper)(c d:DOp)(oc od:Oper):Prop where
 hc:ops.toList[c.i]?=some oc
 hd:ops.toList[d.i]?=some od
 cd:∀t,ZgP oc t=true->mem (od.looksAt ops) t=false
 dc:∀t,ZgP od t=true->mem (oc.looksAt ops) t=false
 ne:∀t,ZgP oc t=true->ZgP od t=false
 lcd:∀id,mem c.ws id=true->mem d.rs id=false
 ldc:∀id,mem d.ws id=true->mem c.rs id=false
 tk:∀k,Zsu c.tk k=true->Zsu d.tk k=false
 vcd:c.i ∉ d.vw
 vdc:d.i ∉ c.vw
 i:c.i≠d.i
theorem ZoS{a b:List Nat}(h:ZyB a b=true):∀i,mem a i=true->mem b i=false:=λi hi=>by
 have:=List.all_eq_true.1 h i (Za9.1 hi)
 simpa using this
theorem Zio{a b:List Nat}(h:Zyp a b=true):∀i,i∈a->i∈b:=λi hi=>Za9.1 (List.all_eq_true.1 h i hi)
theorem ZkA{o:Oper}{l:List Nat}(h:ZoO o l=true):∀t,ZgP o t=true->mem l t=false:=λt ht=>by
 have:=ZbU.1 ht
 simpa[ZoO,this]using h
theorem Zqm{a b:Oper}(h:Zxg a b=true):∀t,ZgP a t=true->ZgP b t=false:=λt ht=>by
 have:=ZbU.1 ht
 simpa[Zxg,this]using h
theorem ZsC{a b:Option Nat}(h:Zy2 a b=true):∀t,Zsu a t=true->Zsu b t=false:=λt ht=>by
 have:=ZbU.1 ht
 simpa[Zy2,this]using h
theorem Zmy{ops:Array Oper}{c d:DOp}(h:Zra ops c d=true):∃oc od,Ind ops c d oc od:=by
 unfold Zra at h
 split at h
 ·rename_i oc od hc hd
  simp only[Bool.and_eq_true,Bool.not_eq_true']at h
  obtain⟨⟨⟨⟨h1,h2⟩,h3⟩,⟨h4,h5⟩,h6⟩,⟨h7,h8⟩,h9⟩:=h
  refine⟨oc,od,hc,hd,ZkA h1,ZkA h2,Zqm h3,ZoS h4,ZoS h5,ZsC h6,?_,?_,?_⟩
  ·intro hm;rw[Za9.2 hm]at h7;cases h7
  ·intro hm;rw[Za9.2 hm]at h8;cases h8
  ·intro e;rw[e,Zcx]at h9;cases h9
 ·cases h
theorem Ind.symm'{ops:Array Oper}{c d:DOp}{oc od:Oper}(h:Ind ops c d oc od):Ind ops d c od oc:=by
 refine⟨h.hd,h.hc,h.dc,h.cd,?_,h.ldc,h.lcd,?_,h.vdc,h.vcd,h.i.symm⟩
 ·intro t ht
  cases hh:ZgP oc t with
  | false=>rfl
  | true=>rw[h.ne t hh]at ht;cases ht
 ·intro k hk
  cases hh:Zsu c.tk k with
  | false=>rfl
  | true=>rw[h.tk k hh]at hk;cases hk
section
variable {E:Env} {ops:Array Oper} {m0:Mem} {f:Fx} {c d:DOp} {oc od:Oper}
theorem Zuv(h:Ind ops c d oc od)(S S':St):Zqh ops d od (ZoN c oc S S')=Zqh ops d od S:=by
 refine St.ext' (funext λt=>?_) (funext λid=>?_) rfl (funext λk=>?_) rfl rfl
 ·simp only[Zqh,ZoN]
  cases ht:ZgP oc t with
  | true=>simp[h.cd t ht]
  | false=>simp
 ·simp only[Zqh,ZoN]
  cases ht:mem c.ws id with
  | true=>simp[h.lcd id ht]
  | false=>simp
 ·simp only[Zqh,ZoN]
  cases ht:Zsu c.tk k with
  | true=>simp[h.tk k ht]
  | false=>simp
theorem Zuw(h:Ind ops c d oc od)(hw:∀id,id∈d.ws->id∈d.rs)(S Sc Sd:St):ZoN c oc (ZoN d od S Sd) Sc=ZoN d od (ZoN c oc S Sc) Sd:=by
 refine St.ext' (funext λt=>?_) (funext λid=>?_) rfl (funext λk=>?_) rfl rfl
 ·simp only[ZoN]
  cases ht:ZgP oc t with
  | true=>simp[h.ne t ht]
  | false=>simp
 ·simp only[ZoN]
  cases ht:mem c.ws id with
  | true=>
   have:mem d.ws id=false:=by
    cases hh:mem d.ws id with
    | false=>rfl
    | true=>
     have h1:=h.lcd id ht
     rw[Za9.2 (hw id (Za9.1 hh))]at h1;cases h1
   simp[this]
  | false=>simp
 ·simp only[ZoN]
  cases ht:Zsu c.tk k with
  | true=>simp[h.tk k ht]
  | false=>simp
theorem Zux{μ:Nat->Mem}{i j:Nat}(h:i≠j)(a b:Mem):upd (upd μ i a) j b=upd (upd μ j b) i a:=by
 funext k
 simp only[upd]
 by_cases hk:k=j
 ·subst hk;simp[Zas (Ne.symm h)]
 ·simp[Zas hk]
theorem Zjp(h:Ind ops c d oc od)(S S':St)(μ:Nat->Mem)(m':Mem)(K:St->Mem->Prop):ZtB E ops m0 f d (Zqi ops c S S') (upd μ c.i m') K=ZtB E ops m0 f d S μ K:=by
 unfold ZtB Zqi
 simp only[h.hd,h.hc,Zuv h,Zsx h.vcd]
theorem ZoT(S:St)(μ:Nat->Mem)(K:St->(Nat->Mem)->Prop):Zld E ops m0 f d S μ K=ZtB E ops m0 f d S μ λS' m'=>K (Zqi ops d S S') (upd μ d.i m'):=rfl
def Zy9(E:Env)(ops:Array Oper)(m0:Mem)(f:Fx)(d:DOp)(S:St)(μ:Nat->Mem)(S':St)(m':Mem):Prop:=∀K:St->Mem->Prop,ZtB E ops m0 f d S μ K->K S' m'
theorem Zrd{K:St->(Nat->Mem)->Prop}{S':St}{m':Mem}(hw:∀id,id∈d.ws->id∈d.rs):∀{r1 r2:List DOp} {S:St} {μ:Nat->Mem},(∀c∈r1,Zra ops c d=true)->ZjA E ops m0 f (r1++d::r2) K S μ->Zy9 E ops m0 f d S μ S' m'->
  ZjA E ops m0 f (r1++r2) K (Zqi ops d S S') (upd μ d.i m')
 | [],r2,S,μ,_,h,ho=>ho _ h
 | c::r1,r2,S,μ,hi,h,ho=>by
  obtain⟨oc,od,fR⟩:=Zmy (hi c (by simp))
  simp only[List.cons_append,ZjA,ZoT]at h ⊢
  rw[Zjp fR.symm']
  refine Zfg (λSc mc y=>?_) h
  have ih:=Zrd (S':=S') (m':=m') hw (r1:=r1) (r2:=r2) (λc hc=>hi c (by simp[hc])) y (λK hK=>by rw[Zjp fR]at hK;exact ho K hK)
  rw[Zux fR.i]at ih
  have e:Zqi ops c (Zqi ops d S S') Sc=Zqi ops d (Zqi ops c S Sc) S':=by
   simp only[Zqi,fR.hc,fR.hd]
   exact Zuw fR hw S Sc S'
  rw[e];exact ih
end
theorem Zqn{F:Fence}(hF:FOk F){n:Nat}{P:Program}{o:Oper}{a:Act}{w:World}{p:Prop}(h:o.wpIn F n P a w (λ_ _=>p) (λ_ _ _=>p)):p:=by
 have cP:∀k,F.room k:=λk d hd=>by rw[hF.depth]at hd;cases hd
 have h:=h.2
 generalize (o.semAt F.round a.eval).run P w=r at h
 cases r with
 | ok x w'=>
  cases x <;> simp only[Oper.uponIn]at h
  all_goals first
   | exact h
   | exact h.elim
   | (obtain⟨e,w'',fr,h,_⟩:=h.2.2 [] (cP _)
      cases e <;> first
       | exact h
       | (obtain⟨_,_,h⟩:=h;exact h))
   | (obtain⟨v,w'',h,_⟩:=h.2 default [] (cP _)
      exact h)
   | (obtain⟨e,w'',h,_⟩:=h.2.2 default [] (cP _)
      cases e <;> first
       | exact h
       | (obtain⟨_,_,h⟩:=h;exact h))
 | halt x w'=>
  cases x <;> simp only[Oper.uponIn]at h
  all_goals first
   | exact h
   | exact h.elim
theorem ZsD{a b:St}(h:∀id,a.L id=b.L id)(sv:SV):a.den sv=b.den sv:=by
 cases sv <;> simp only[St.den,h]
section
variable {C:Ctx} {E:Env} {ops:Array Oper} {m0:Mem} {f:Fx} {d:DOp} {o:Oper} {S:St} {μ:Nat->Mem} {A:Mem} {a:Act} {w:World}
theorem Zv9(qq:∀i,i∈ZoM d.rs o->i∈d.ws)(mT:∀i,i∈d.ws->i∈d.rs)(dP:∀i,i∈d.ws->i∈S.ids)(fO:∀k,d.tk=some k->k∈S.tkeys)(hr:Rel C S A a w)
  {S2:St} {A2:Mem} {a':Act} {w':World} {y:St×Mem} {g:Bool} {m M:Mem} (h:Rel C S2 A2 a' w') (ho:Out (ZoM d.rs o) d.tk g m M o.dst (Zqh ops d o S) S y (S2,A2)):Rel C (ZoN d o S y.1) A2 a' w':=by
 have hL:∀id,(ZoN d o S y.1).L id=S2.L id:=by
  intro id
  simp only[ZoN]
  cases hm:mem d.ws id with
  | true=>
   simp only[cond_true]
   rcases ho.L id with⟨_,e⟩|⟨e1,e2⟩
   ·exact e
   ·rw[e1,e2]
    simp[Zqh,Za9.2 (mT id (Za9.1 hm))]
  | false=>
   simp only[cond_false]
   rcases ho.L id with⟨hc,_⟩|⟨e1,e2⟩
   ·rw[Za9.2 (qq id hc)]at hm;cases hm
   ·exact e2.symm
 have hT:∀k,(ZoN d o S y.1).tok k=S2.tok k:=by
  intro k
  simp only[ZoN]
  cases hm:Zsu d.tk k with
  | true=>
   simp only[cond_true]
   rcases ho.tok k with⟨_,e⟩|⟨e1,e2⟩
   ·exact e
   ·rw[e1,e2]
    simp[Zqh,hm]
  | false=>
   simp only[cond_false]
   rcases ho.tok k with⟨hc,_⟩|⟨e1,e2⟩
   ·rw[ZbU.2 hc]at hm;cases hm
   ·exact e2.symm
 refine h.restrict ho.gh2.symm (λid x hx=>by rw[<-hL];exact hx) (λk t ht=>.inl (by rw[<-hT];exact ht)) ?_ ?_ ?_
 ·intro i sv he
  have he':S2.env i=some sv:=by
   simp only[ZoN]at he
   cases hd:ZgP o i with
   | true=>
    simp only[hd,cond_true]at he
    exact ho.env1 i sv (ZbU.1 hd) he
   | false=>
    simp only[hd,cond_false]at he
    have:o.dst≠some i:=λe=>by rw[show ZgP o i=true from ZbU.2 e]at hd;cases hd
    exact(ho.env2 i this).trans he
  obtain⟨v,h1,h2⟩:=h.env i sv he'
  exact⟨v,by rw[ZsD hL];exact h1,h2⟩
 ·intro id x hx
  show id∈S.ids
  cases hm:mem d.ws id with
  | true=>exact dP id (Za9.1 hm)
  | false=>simp only[ZoN,hm,cond_false]at hx;exact hr.ids id x hx
 ·intro k t ht
  show k∈S.tkeys
  cases hm:Zsu d.tk k with
  | true=>exact fO k (ZbU.1 hm)
  | false=>simp only[ZoN,hm,cond_false]at ht;exact hr.tkeys k t ht
structure DOk (E:Env)(ops:Array Oper)(d:DOp)(o:Oper):Prop where
 at_:ops.toList[d.i]?=some o
 fp:Zus E d.rs d.tk o=true
 chg:∀i,i∈ZoM d.rs o->i∈d.ws
 ws:∀i,i∈d.ws->i∈d.rs
theorem Zre(hE:E.ok){F:Fence}(hF:FOk F)(hY:YOk E C)(bB:Zmj C.n ops.toList=true)(gA:E.fix=none)(hd:DOk E ops d o)(dP:∀i,i∈d.ws->i∈S.ids)(fO:∀k,d.tk=some k->k∈S.tkeys)
  (hr:Rel C S A a w) (h0:m0.le A) (hv:∀j,j∈d.vw->(μ j).le A) (h:ZtB E ops m0 f d S μ (λ_ _=>True)) {n:Nat} {Q:Exit->Act->World->Prop} {next:Act->World->Prop}
  (hK:∀S' m' A' a' w',Zy9 E ops m0 f d S μ S' m'->Rel C (Zqi ops d S S') A' a' w'->A.le A'->m'.le A'->(Zeu o=false->A'=A)->next a' w'):wpOpIn F n E.P ops Q d.i next a w:=by
 unfold ZtB at h
 simp only[hd.at_]at h
 obtain⟨V,t4,hV⟩:=Zqk (l:=d.vw) h0 hv
 have nn:Less (Zqh ops d o S) S:=⟨λt sv ht=>by
  simp only[Zqh]at ht
  cases hm:mem (o.looksAt ops) t <;> simp[hm]at ht;exact ht,λid x hx=>by
  simp only[Zqh]at hx
  cases hm:mem d.rs id <;> simp[hm]at hx;exact hx⟩
 have h2:opG E ops o S A (λS2 A2=>∃y1:St×Mem,(∀K:St×Mem->Prop,opG (E.fixed (f d.i)) ops o (Zqh ops d o S) V (λS' m'=>K (S',m'))->K y1)/\Out (ZoM d.rs o) d.tk (Zeu o) V A o.dst (Zqh ops d o S) S y1 (S2,A2)):=
  Zxv (rs:=d.rs) (tk:=d.tk) w gA nn (λid x hx=>by
   simp only[Zqh]at hx
   cases hm:mem d.rs id with
   | true=>exact Za9.1 hm
   | false=>simp[hm]at hx) (λid cO=>by simp[Zqh,Za9.2 cO]) (λk hk=>by simp[Zqh,ZbU.2 hk]) t4 hd.fp (hV _ h)
 have h3:=Zhi (th:=false) (.inr (Zmt hd.fp)) (K':=λS2 A2=>A.le A2/\∃y1:St×Mem,(∀K:St×Mem->Prop,opG (E.fixed (f d.i)) ops o (Zqh ops d o S) V (λS' m'=>K (S',m'))->K y1)/\Out (ZoM d.rs o) d.tk (Zeu o) V A o.dst (Zqh ops d o S) S y1 (S2,A2)) (λS' m' _ hm y=>⟨hm,y⟩) h2
 have ho':ops[d.i]?=some o:=by simpa using hd.at_
 have:=Zd2 hE hF hY (Zc4 bB d.i o hd.at_) hr h3 (n:=n) (Q:=Q) (next:=next) (λS2 A2 a' w' ⟨hA,y1,g1,g2⟩ bC=>by
  refine hK y1.1 y1.2 A2 a' w' ?_ ?_ hA g2.le (λhg=>(g2.same hg).2)
  ·intro K qr
   unfold ZtB at qr
   simp only[hd.at_]at qr
   exact g1 (λy=>K y.1 y.2) (hV _ qr)
  ·simp only[Zqi,hd.at_]
   exact Zv9 hd.chg hd.ws dP fO hr bC g2)
 unfold wpOpIn
 simp only[ho']
 exact this
end
theorem Zli(ops:Array Oper)(d:DOp)(S S':St):(Zqi ops d S S').ids=S.ids/\(Zqi ops d S S').tkeys=S.tkeys:=by
 unfold Zqi
 cases ops.toList[d.i]? <;> exact⟨rfl,rfl⟩
theorem Zrf(μ:Nat->Mem)(i:Nat)(m:Mem):upd μ i m i=m:=by simp[upd]
theorem Zwa{μ:Nat->Mem}{i j:Nat}(h:j≠i)(m:Mem):upd μ i m j=μ j:=by simp[upd,Zas h]
def Zxj:(Nat->Prop)->List DOp->Prop
 | _,[]=>True
 | D,c::r=>(∀j,j∈c.vw->D j)/\Zxj (λj=>D j\/j=c.i) r
theorem extract{C:Ctx}{E:Env}(hE:E.ok){F:Fence}(hF:FOk F)(hY:YOk E C){ops:Array Oper}(bB:Zmj C.n ops.toList=true)(gA:E.fix=none){m0:Mem}{f:Fx}{d:DOp}{r2:List DOp}{K:St->(Nat->Mem)->Prop}:
  ∀{r1:List DOp} {D:Nat->Prop} {S:St} {μ:Nat->Mem} {A:Mem} {a:Act} {w:World},Rel C S A a w->m0.le A->(∀j,D j->(μ j).le A)->Zxj D r1->(∀c∈r1,(∃o,DOk E ops c o)/\(∀i,i∈c.ws->i∈S.ids)/\(∀k,c.tk=some k->k∈S.tkeys))->(∀c∈r1,Zra ops c d=true)->
   ZjA E ops m0 f (r1++d::r2) K S μ->ZtB E ops m0 f d S μ (λ_ _=>True)
 | [],D,S,μ,A,a,w,hr,h0,hD,ht,hc,hi,h=>Zfg (λ_ _ _=>trivial) h
 | c::r1,D,S,μ,A,a,w,hr,h0,hD,ht,hc,hi,h=>by
  obtain⟨oc,od,fR⟩:=Zmy (hi c (by simp))
  obtain⟨⟨o,cC⟩,dP,fO⟩:=hc c (by simp)
  simp only[List.cons_append,ZjA,ZoT]at h
  have key:=Zre (n:=0) (next:=λ_ _=>ZtB E ops m0 f d S μ (λ_ _=>True)) (Q:=λ_ _ _=>ZtB E ops m0 f d S μ (λ_ _=>True)) hE hF hY bB gA cC dP fO hr h0 (λj hj=>hD j (ht.1 j hj)) (Zfg (λ_ _ _=>trivial) h) (λS' m' A' a' w' cX bC hA hm _=>by
   have:=extract hE hF hY bB gA (r1:=r1) (D:=λj=>D j\/j=c.i) bC (mLt h0 hA) (λj hj=>by
    by_cases e:j=c.i
    ·subst e;rw[Zrf];exact hm
    ·rw[Zwa e];exact mLt (hD j (hj.resolve_right e)) hA) ht.2 (λc' hc'=>by
     obtain⟨h1,h2,h3⟩:=hc c' (by simp[hc'])
     exact⟨h1,λi hi=>by rw[(Zli ops c S S').1];exact h2 i hi,λk hk=>by rw[(Zli ops c S S').2];exact h3 k hk⟩) (λc' hc'=>hi c' (by simp[hc'])) (cX _ h)
   rwa [Zjp fR]at this)
  unfold wpOpIn at key
  have ho':ops[c.i]?=some o:=by simpa using cC.at_
  simp only[ho']at key
  split at key
  ·exact Zqn hF key
  ·exact key.2
theorem ZcV{l:Array Bool}{i:Nat}(h:i < l.size):(l.setIfInBounds i true).getD i false=true:=by simp[Array.getD,h]
theorem Zrg{E:Env}(hE:E.ok){F:Fence}(hF:FOk F){C:Ctx}(hY:YOk E C){ops:Array Oper}(bB:Zmj C.n ops.toList=true){n:Nat}{Q:Exit->Act->World->Prop}{K:St->Mem->Prop}{i0:Nat}
  (over:∀(fuel:Nat)(listed:Array Bool)(S':St)(m':Mem)(a':Act)(w':World),listed.size=ops.size->(∀j,j < ops.size->listed.getD j false=true)->K S' m'->Rel C S' m' a' w'->wpAnyIn F n E.P .any ops Q fuel listed a' w')
  (gt:∀i,i0<=i->i < ops.size->∃o,ops[i]?=some o/\(∀j,i0<=j->j < i->j∈Zbs o)/\(∀j∈Zbs o,j < i)):
  ∀(r:List Oper)(i:Nat),ops.toList.drop i=r->i0<=i->i<=ops.size->∀(fuel:Nat)(listed:Array Bool)(S':St)(m':Mem)(a':Act)(w':World),r.length<=fuel->listed.size=ops.size->(∀j,j < i->listed.getD j false=true)->(∀j,i<=j->listed.getD j false=false)->Zkx E ops K r S' m'->Rel C S' m' a' w'->wpAnyIn F n E.P .any ops Q fuel listed a' w':=by
 intro r
 induction r with
 | nil=>
  intro i hi h1 h2 fuel listed S' m' a' w' _ bW bR _ hk bC
  have:ops.size<=i:=by
   have:=congrArg List.length hi
   simp at this
   omega
  exact over fuel listed S' m' a' w' bW (λj hj=>bR j (by omega)) hk bC
 | cons o r ih=>
  intro i hi h1 h2 fuel listed S' m' a' w' iV bW bR dH hk bC
  have eU:i < ops.size:=by
   have:=congrArg List.length hi
   simp at this
   omega
  obtain⟨o',ho',sq,fJ⟩:=gt i h1 eU
  have kJ:ops.toList[i]?=some o:=by
   have:=congrArg (λl=>l[0]?) hi
   simpa using this
  have qs:o'=o:=by
   have:ops.toList[i]?=some o':=by simpa using ho'
   rw[kJ]at this;cases this;rfl
  subst qs
  have qt:ops.toList.drop (i+1)=r:=by
   have:=congrArg (List.drop 1) hi
   simpa[List.drop_drop,Nat.add_comm]using this
  obtain⟨fuel,rfl⟩:∃k,fuel=k+1:=⟨fuel - 1,by simp at iV;omega⟩
  have gN:listed.getD i false=false:=dH i (Nat.le_refl _)
  have fD:i < listed.size:=by omega
  refine⟨λcJ=>?_,λq hq=>?_⟩
  ·exfalso
   have:i∈Region.ready .any ops listed:=mem_ready.2 ⟨by simpa[Array.getD,fD]using gN,o',ho',λe he hb=>?_⟩
   ·rw[cJ]at this;simp at this
   ·have hm:e.on∈Zbs o':=by
     simp only[Zbs,List.mem_map,List.mem_filter]
     exact⟨e,⟨by simpa using he,hb⟩,rfl⟩
    exact bR _ (fJ _ hm)
  ·obtain⟨np,o2,fA,fF⟩:=mem_ready.1 hq
   have hq':q < ops.size:=(Array.getElem?_eq_some_iff.1 fA).1
   have:q=i:=by
    by_cases h3:q < i
    ·have h4:=bR q h3
     have hl:q < listed.size:=by omega
     simp[Array.getD,hl]at np h4
     rw[np]at h4;cases h4
    ·by_cases h4:q=i
     ·exact h4
     ·exfalso
      obtain⟨o3,ly,jZ,_⟩:=gt q (by omega) hq'
      rw[ly]at fA;cases fA
      have:=jZ i h1 (by omega)
      simp only[Zbs,List.mem_map,List.mem_filter]at this
      obtain⟨e,⟨he,hb⟩,h5⟩:=this
      have:=fF e (by simpa using he) hb
      rw[h5,gN]at this;cases this
   subst this
   simp only[Zkx]at hk
   have:=Zjk hE hF hY (Zc4 bB _ o' kJ) bC hk (n:=n) (Q:=Q) (next:=wpAnyIn F n E.P .any ops Q fuel (listed.setIfInBounds q true)) (λS2 m2 a2 w2 eB fS=>ih (q+1) qt (by omega) (by omega) fuel _ S2 m2 a2 w2 (by simp at iV;omega) (by simpa using bW) (λj hj=>by
    by_cases e:j=q
    ·subst e;simp[Array.getD,fD]
    ·rw[getD_set_ne false (Ne.symm e)]
     exact bR j (by omega)) (λj hj=>by
    rw[getD_set_ne false (by omega)]
    exact dH j (by omega)) eB fS)
   unfold wpOpIn
   simp only[ho']
   exact this
def St.wenv(S:St)(e:Nat->Option SV):St:={ S with env:=e }
theorem Zip(S:St)(e:Nat->Option SV):∀ids,Zbr (S.wenv e) ids=Zbr S ids
 | []=>rfl
 | id::l=>by simp only[Zbr,Zip S e l];rfl
theorem ZkB(S:St)(e:Nat->Option SV):∀ks,ZeE (S.wenv e) ks=ZeE S ks
 | []=>rfl
 | q::l=>by simp only[ZeE,ZkB S e l];rfl
theorem Zrh(S:St)(e:Nat->Option SV)(b:Nat)(k:Prop):∀l,nfz (S.wenv e) b l k=nfz S b l k
 | []=>rfl
 | id::l=>by simp only[nfz,Zrh S e b k l];rfl
theorem Zri(S:St)(e:Nat->Option SV)(b:Nat)(ks:List Nat):∀l,ntk (S.wenv e) b ks l=ntk S b ks l
 | []=>rfl
 | k::l=>by simp only[ntk,Zri S e b ks l];rfl
theorem Zmz(S:St)(e:Nat->Option SV):∀(ids:List Nat)(bxs:List Box) (css:List (List Value)),Zc9 (S.wenv e) ids bxs css=(Zc9 S ids bxs css).wenv e
 | [],_,_=>by simp[Zc9]
 | id::ids,[],_=>by simp[Zc9]
 | id::ids,x::xs,[]=>by simp[Zc9]
 | id::ids,x::xs,cs::css=>by simp only[Zc9,Zmz S e ids xs css];rfl
theorem Zuy{S:St}{e:Nat->Option SV}{x:Operand}(h:∀t,x=.tmp t->e t=S.env t):(S.wenv e).val x=S.val x:=by
 unfold St.val
 have:(S.wenv e).ev x=S.ev x:=by
  cases x with
  | tmp t=>exact h t rfl
  | _=>rfl
 rw[this]
 cases S.ev x with
 | none=>rfl
 | some sv=>cases sv <;> rfl
theorem Zwb{S:St}{e:Nat->Option SV}{x:Operand}(h:∀t,x=.tmp t->e t=S.env t):(S.wenv e).ev x=S.ev x:=by
 cases x with
 | tmp t=>exact h t rfl
 | _=>rfl
theorem Zrj{S:St}{e:Nat->Option SV}{k:List Value->Prop}:∀{l:List Operand},(∀x∈l,∀t,x=.tmp t->e t=S.env t)->wvs (S.wenv e) l k=wvs S l k
 | [],_=>rfl
 | x::l,h=>by
  simp only[wvs,wv]
  rw[Zuy (h x (by simp))]
  cases S.val x with
  | none=>rfl
  | some v=>exact Zrj λy hy=>h y (by simp[hy])
theorem ZkC{S:St}{e:Nat->Option SV}:∀{l:List Operand},(∀x∈l,∀t,x=.tmp t->e t=S.env t)->Zdf (S.wenv e) l=Zdf S l
 | [],_=>rfl
 | x::l,h=>by
  simp only[Zdf]
  rw[Zwb (h x (by simp)),ZkC λy hy=>h y (by simp[hy])]
  rfl
theorem ZmA:∀{n:Nat} {k k':List (List Value)->Prop},(∀v,v.length=n->k v->k' v)->allL n k->allL n k'
 | 0,k,k',h,hx=>h _ rfl hx
 | n+1,k,k',h,hx=>λcs=>ZmA (λl hl hx=>h _ (by simp[hl]) hx) (hx cs)
theorem ZoU{E:Env}{S:St}{e:Nat->Option SV}{m:Mem}{rt:TypeId}{g:FuncId}{args:List Value}{ids:List Nat}{ks:List (Nat×Nat)}{K:Value->St->Mem->Prop}
  (h:ZjE E (S.wenv e) m rt g args ids ks K):ZjE E S m rt g args ids ks λv S' m'=>K v (S'.wenv e) m'/\S'.env=S.env/\∀id,id ∉ ids->S'.L id=S.L id:=by
 unfold ZjE at *
 rw[Zip]at h
 cases hb:Zbr S ids with
 | none=>simp[hb]at h
 | some bxs=>
  simp only[hb]at h ⊢
  cases hm:E.m0 with
  | none=>simp[hm]at h
  | some m0=>
   simp only[hm]at h ⊢
   obtain⟨h1,Y,R,h2,h3,h4,h5,h6⟩:=Zag h
   rw[ZkB]at h2 h3 h4 h6
   refine Zaa h1 ⟨Y,R,h2,h3,λb hb=>?_,h5,?_⟩
   ·rcases h4 b hb with q|⟨q1,q2,q3⟩
    ·exact .inl q
    ·have e1:∀k,nfz (S.wenv e) b S.ids k=nfz S b S.ids k:=λk=>Zrh S e b k S.ids
     have e2:ntk (S.wenv e) b (ks.map (·.1)) S.tkeys=ntk S b (ks.map (·.1)) S.tkeys:=Zri S e b _ S.tkeys
     refine .inr ⟨q1,q2,?_⟩
     have q3:nfz (S.wenv e) b S.ids (ntk (S.wenv e) b (ks.map (·.1)) S.tkeys):=q3
     rw[e1,e2]at q3;exact q3
   ·simp only[Bool.and_eq_true]at h1
    have dT:=ZaN h1.2.1
    have bS:=(Zcr hb).1
    refine Shape.all_mono _ (λv z m' hm' hn=>?_) h6
    refine ZmA (λcss hc z=>Zjj (λtvs z hR=>⟨?_,?_,λid cO=>?_⟩) z) (z m' hm' hn)
    ·have:=z hR
     rw[Zmz]at this;exact this
    ·rw[Zde]
    ·rcases Zfb (S:=S) dT bS hc id with⟨_,q⟩|⟨i,x,cs,q,_⟩
     ·exact q
     ·exact absurd (List.mem_of_getElem? q) cO
theorem Zuz{l:List Value}{n:Nat}{k:Value->Prop}(h:Zty l n k):∃v,k v/\Zty l n (·=v):=by
 obtain⟨v,h1,h2⟩:=Zh3 h
 exact⟨v,h2,Zah h1 rfl⟩
theorem ZoV{i:TI}{x:Box}{off:Nat}{k:Value->Prop}(h:ZcR i x off k):∃v,k v/\ZcR i x off (·=v):=by
 unfold ZcR at *
 cases ha:i.agg with
 | true=>
  simp only[ha,cond_true]at *
  cases hf:(x.full&&(Nat.beq x.cap i.size&&Nat.beq off 0))with
  | true=>
   simp only[hf,cond_true]at *
   exact⟨_,h,rfl⟩
  | false=>
   simp only[hf,cond_false]at *
   obtain⟨h1,h2⟩:=Zag h
   exact⟨_,h2,Zaa h1 rfl⟩
 | false=>
  simp only[ha,cond_false]at *
  exact Zuz h
theorem ZoW{i:TI}{m:Mem}{b o:Nat}{k:Value->Prop}(h:Zdd i m b o k):∃v,k v/\∀m':Mem,m.le m'->Zdd i m' b o (·=v):=by
 unfold Zdd at *
 cases ha:i.agg with
 | false=>
  simp only[ha,cond_false]at *
  obtain⟨v,h1,h2⟩:=h
  exact⟨v,h2,λm' hm=>⟨v,hm _ _ _ h1,rfl⟩⟩
 | true=>
  simp only[ha,cond_true]at *
  cases hb:Nat.ble i.size 16 with
  | true=>
   simp only[hb,cond_true]at *
   obtain⟨vs,h1,h2,h3⟩:=Zjg h
   exact⟨_,h3,λm' hm=>ZkZ vs h1 ⟨λj v hv=>hm _ _ _ (h2 j v hv),rfl⟩⟩
  | false=>
   simp only[hb,cond_false]at *
   obtain⟨vs,h1,h2,h3⟩:=h
   exact⟨_,h3,λm' hm=>⟨vs,h1,λj v hv=>hm _ _ _ (h2 j v hv),rfl⟩⟩
def Zza(E:Env)(S:St)(ids:List Nat)(o:Oper)(X:St):Prop:=
 ∃T x d v,o.op=.load T x/\o.dst=some d/\X.env d=some (.v v)/\∀(S':St)(m':Mem),(∀t,x=.tmp t->S'.env t=S.env t)->(∀id,id ∉ ids->S'.L id=S.L id)->(∀mm:Mem,E.m0=some mm->mm.le m')->ZgH E S' m' T x (·=v)
theorem ZsE{E:Env}{S:St}{ids:List Nat}{T:TypeId}{x:Operand}{k:Value->Prop}(h:ZtN E S ids T x k):
  ∃v,k v/\∀(S':St)(m':Mem),(∀t,x=.tmp t->S'.env t=S.env t)->(∀id,id ∉ ids->S'.L id=S.L id)->(∀mm:Mem,E.m0=some mm->mm.le m')->ZgH E S' m' T x (·=v):=by
 have iZ:∀S':St,(∀t,x=.tmp t->S'.env t=S.env t)->S'.ev x=S.ev x:=λS' h=>by
  cases x with
  | tmp t=>exact h t rfl
  | _=>rfl
 unfold ZtN at h
 cases ht:E.tt T with
 | none=>simp[ht]at h
 | some i=>
  simp only[ht]at h
  split at h
  ·rename_i id off he
   cases hL:S.L id with
   | none=>simp[hL]at h
   | some bx=>
    simp only[hL]at h
    obtain⟨h1,h2⟩:=Zag h
    obtain⟨v,h3,h4⟩:=ZoV h2
    refine⟨v,h3,λS' m' q1 q2 q3=>?_⟩
    have cO:id ∉ ids:=λhm=>by rw[Za9.2 hm]at h1;cases h1
    unfold ZgH
    simp only[ht,iZ S' q1,he,q2 id cO,hL]
    exact h4
  ·rename_i v0 he
   cases hm:E.m0 with
   | none=>simp[hm]at h
   | some m0=>
    simp only[hm]at h
    obtain⟨h1,h2⟩:=Zag h
    simp only[Bool.and_eq_true,Option.isNone_iff_eq_none]at h1
    obtain⟨v,h3,h4⟩:=ZoW h2
    refine⟨v,h3,λS' m' q1 q2 q3=>?_⟩
    unfold ZgH
    simp only[ht,iZ S' q1,he,h1.2]
    exact Zaa h1.1 (h4 m' (q3 m0 rfl))
  ·exact h.elim
theorem ZkD{E:Env}{S:St}{ids:List Nat}:∀{r:List Oper} {S1:St} {k:St->Prop},Zbl (Zav r)=true->(∀o∈r,o.dst.isSome=true)->Znr E S ids r S1 k->
  ∃e:Nat->Option SV,k (S1.wenv e)/\(∀o∈r,Zza E S ids o (S1.wenv e))/\∀t,t ∉ Zav r->e t=S1.env t
 | [],S1,k,_,_,h=>⟨S1.env,h,by simp,λ_ _=>rfl⟩
 | o::r,S1,k,hn,hd,h=>by
  have nq:=hd o (by simp)
  obtain⟨d,nr⟩:=Option.isSome_iff_exists.1 nq
  unfold Znr at h
  split at h
  ·rename_i T x ho
   obtain⟨v,h1,h2⟩:=ZsE h
   have hn':=ZaN hn
   simp only[Zav,nr,List.nodup_cons]at hn'
   have kt:Zbl (Zav r)=true:=by
    simp only[Zav,nr,Zbl,Bool.and_eq_true]at hn
    exact hn.2
   obtain⟨e,g1,g2,g3⟩:=ZkD kt (λo ho=>hd o (by simp[ho])) h1
   rw[nr]at g1 g2 g3
   refine⟨e,g1,λo' ho'=>?_,λt ht=>?_⟩
   ·rcases List.mem_cons.1 ho' with rfl|ho'
    ·refine⟨T,x,d,v,ho,nr,?_,h2⟩
     show e d=_
     rw[g3 d hn'.1]
     simp[St.put,Zcx]
    ·exact g2 o' ho'
   ·simp only[Zav,nr,List.mem_cons,not_or]at ht
    rw[g3 t ht.2]
    simp[St.put,Zas ht.1]
  ·exact h.elim
theorem Zjq{α:Type}{l:List α}(h:Zsw l=true):l=[]:=by
 cases l with
 | nil=>rfl
 | cons=>cases h
theorem ZoX{E:Env}{ops:Array Oper}{o:Oper}{q:Go.Call}{f:Operand}{S:St}{e:Nat->Option SV}{m:Mem}{K:St->Mem->Prop}(hg:o.guard=none)(hq:o.op=.call q)(hf:q.callee=.value f)(il:(Zfc E o.dst).isSome=true)(iY:Zes E o.dst=[])(je:Zq0 E o.dst=false)
  (nq:o.dst.isSome=true) {g0:FuncId} (ua:f=.func g0) (ha:∀x∈q.args.toList,∀t,x=.tmp t->e t=S.env t) (hl:Zdf (S.wenv e) q.args.toList=[]) (h:opG E ops o (S.wenv e) m K):
  opG E ops o S m λS' m'=>∃S2,K S2 m'/\S'.wenv S2.env=S2/\(∀t,o.dst≠some t->S2.env t=e t/\S'.env t=S.env t)/\(∀t,o.dst=some t->S'.env t=S2.env t)/\∀id,id ∉ ZdS E o.dst->S2.L id=S.L id:=by
 unfold opG at *
 simp only[hg]at h ⊢
 unfold opW at *
 simp only[hq,hf]at h ⊢
 unfold ZvL at *
 simp only[iY]at h ⊢
 obtain⟨ks,jT⟩:=Option.isSome_iff_exists.1 il
 obtain⟨d,hd⟩:=Option.isSome_iff_exists.1 nq
 unfold Zvy at *
 subst ua
 simp only[St.ev]at h ⊢
 have hl':Zdf S q.args.toList=[]:=by rw[<-ZkC (e:=e) ha];exact hl
 simp only[jT,je,cond_false]at h ⊢
 cases cI:E.fix with
 | some f=>simp[cI]at h
 | none=>
  simp only[cI,Option.isSome_none,cond_false]at h ⊢
  rw[Zrj ha]at h
  refine Zcz (λvs y=>?_) h
  rw[hl]at y
  rw[hl']
  refine Zkq (λv S' m' _ z=>?_) (ZoU y)
  obtain⟨z1,z2,z3⟩:=z
  rw[hd]at z1 ⊢
  refine⟨_,z1,rfl,λt ht=>?_,λt ht=>?_,λid cO=>?_⟩
  ·have:t≠d:=λe=>ht (by rw[e])
   simp[St.put,Zas this,St.wenv,z2]
  ·cases ht
   simp[St.put,Zcx,St.wenv]
  ·exact z3 id (by simpa[hd]using cO)
theorem ZkE{p q:Nat->Bool}{i:Nat}(hp:p i=true)(hq:∀j,q j=(p j&&!Nat.beq j i)):∀{l:List Nat},l.Nodup->i∈l->l.countP q+1=l.countP p
 | [],_,h=>by cases h
 | x::l,hn,hi=>by
  rw[List.nodup_cons]at hn
  rw[List.countP_cons,List.countP_cons]
  by_cases e:x=i
  ·subst e
   have:l.countP q=l.countP p:=List.countP_congr λj hj=>by
    have:j≠x:=λe=>hn.1 (e ▸ hj)
    rw[hq,Zas this];simp
   rw[this,hq,Zcx,hp];simp
  ·have ih:=ZkE hp hq hn.2 ((List.mem_cons.1 hi).resolve_left λh=>e h.symm)
   rw[hq x,Zas e]
   simp only[Bool.not_false,Bool.and_true]
   omega
def unl(ops:Array Oper)(c:Nat)(listed:Array Bool)(t:Nat):Bool:=(List.range c).any λj=>!listed.getD j false&&match ops.toList[j]? with
 | none=>false
 | some o=>ZgP o t
def Zr4(ops:Array Oper)(c:Nat)(listed:Array Bool)(S X:St):St:=X.wenv λt=>bif unl ops c listed t then S.env t else X.env t
theorem ZmB:∀{l:List Oper},(Zav l).Nodup->∀{i j:Nat} {o o':Oper} {t:Nat},l[i]?=some o->l[j]?=some o'->o.dst=some t->o'.dst=some t->i=j
 | [],_,i,j,o,o',t,h,_,_,_=>by simp at h
 | x::l,hn,0,0,_,_,_,_,_,_,_=>rfl
 | x::l,hn,0,j+1,o,o',t,h1,h2,h3,h4=>by
  simp at h1 h2;subst h1
  simp only[Zav,h3,List.nodup_cons]at hn
  exact absurd (Zbb h2 h4) hn.1
 | x::l,hn,i+1,0,o,o',t,h1,h2,h3,h4=>by
  simp at h1 h2;subst h2
  simp only[Zav,h4,List.nodup_cons]at hn
  exact absurd (Zbb h1 h3) hn.1
 | x::l,hn,i+1,j+1,o,o',t,h1,h2,h3,h4=>by
  simp at h1 h2
  have:(Zav l).Nodup:=by
   unfold Zav at hn
   split at hn
   ·exact hn
   ·exact(List.nodup_cons.1 hn).2
  rw[ZmB this h1 h2 h3 h4]
theorem Zwc{E:Env}(hE:E.ok){F:Fence}(hF:FOk F){C:Ctx}(hY:YOk E C){ops:Array Oper}(bB:Zmj C.n ops.toList=true){id n:Nat}{Q:Exit->Act->World->Prop}{K:St->Mem->Prop}
  (over:∀(fuel:Nat)(listed:Array Bool)(S':St)(m':Mem)(a':Act)(w':World),listed.size=ops.size->(∀j,j < ops.size->listed.getD j false=true)->K S' m'->Rel C S' m' a' w'->wpAnyIn F n E.P .any ops Q fuel listed a' w')
  {S:St} {m:Mem} {a:Act} {w:World} (hr:Rel C S m a w) (h:Zx3 E id ops K S m):wpAnyIn F n E.P .any ops Q ops.size (Array.replicate ops.size false) a w:=by
 unfold Zx3 at h
 obtain⟨h1,h2⟩:=Zag h
 generalize E.lastK id=k at *
 simp only[Bool.and_eq_true]at h1
 have cC:=h1.2
 unfold Zxi at cC
 simp only[Bool.and_eq_true,List.all_eq_true]at cC
 obtain⟨⟨ip,eB,iu⟩,qu,dT,bZ,nt⟩:=cC
 have ip:=Nat.le_of_ble_eq_true ip
 have eB:=Nat.le_of_ble_eq_true eB
 have qv:=ZaN dT
 generalize hc:ops.size - k=c at *
 have sd:c < ops.size:=by omega
 split at h2
 ·exact h2.elim
 rename_i oc r mr
 have ln:ops.toList[c]?=some oc:=by
  have:=congrArg (λl=>l[0]?) mr
  simpa using this
 have nu:ops[c]?=some oc:=by simpa using ln
 rw[ln]at bZ
 simp only at bZ
 split at h2
 rotate_left
 ·exact h2.elim
 rename_i q hq
 unfold ZoQ at bZ
 simp only[hq,Bool.and_eq_true]at bZ
 obtain⟨qw,bZ⟩:=bZ
 cases j0:q.callee with
 | builtin b=>simp[j0]at bZ
 | invoke _ _=>simp[j0]at bZ
 | value f=>
 simp only[j0,Bool.and_eq_true,List.all_eq_true]at bZ
 obtain⟨⟨il,⟨qx,lz⟩,nv,lA,ub,uc⟩,nw⟩:=bZ
 have lz:=(Bool.not_eq_true' _).mp lz
 have qw:=Option.isNone_iff_eq_none.1 qw
 obtain⟨g0,ud⟩:∃g0,f=.func g0:=by
  cases f <;> simp[Zx2]at ub
  exact⟨_,rfl⟩
 obtain⟨dc,nA⟩:=Option.isSome_iff_exists.1 nv
 have ldAt:∀j,j < c->∃o,ops[j]?=some o/\(ops.toList.take c)[j]?=some o:=λj hj=>by
  have:j < ops.toList.length:=by simp;omega
  refine⟨ops[j]'(by omega),by simp[show j < ops.size by omega],?_⟩
  rw[List.getElem?_take_of_lt hj];simp[show j < ops.size by omega]
 have ldOk:∀o∈ops.toList.take c,o.guard=none/\Zbs o=[]/\∃T x d,o.op=.load T x/\o.dst=some d/\ZqZ E o.dst=none/\∀t,x=.tmp t->t ∉ Zav ops.toList:=λo ho=>by
  have:=qu o ho
  unfold ZtO at this
  simp only[Bool.and_eq_true]at this
  obtain⟨q1,q2,q3⟩:=this
  split at q3
  ·rename_i T x kY
   simp only[Bool.and_eq_true]at q3
   obtain⟨q4,q5,q6⟩:=q3
   obtain⟨d,hd⟩:=Option.isSome_iff_exists.1 q5
   refine⟨Option.isNone_iff_eq_none.1 q1,Zjq q2,T,x,d,kY,hd,Option.isNone_iff_eq_none.1 q4,λt e hm=>?_⟩
   subst e
   simp only[ZoP,Bool.not_eq_true']at q6
   rw[Za9.2 hm]at q6;cases q6
  ·cases q3
 have nB:dc ∉ Zav (ops.toList.take c):=λhm=>by
  simp only[ZoO,nA,Bool.not_eq_true']at lA
  rw[Za9.2 hm]at lA;cases lA
 obtain⟨e,h3,hV,he⟩:=ZkD dT (λo ho=>by
  obtain⟨_,_,_,_,d,_,hd,_⟩:=ldOk o ho
  simp[hd]) h2
 obtain⟨h4,h5⟩:=Zag h3
 have h4:=Zjq h4
 have unl_mem:∀{listed:Array Bool} {t:Nat},unl ops c listed t=true->t∈Zav (ops.toList.take c):=λ{listed t} hu=>by
  unfold unl at hu
  simp only[List.any_eq_true,Bool.and_eq_true,List.mem_range]at hu
  obtain⟨j,hj,_,hu⟩:=hu
  obtain⟨o,ho,ho'⟩:=ldAt j hj
  have:ops.toList[j]?=some o:=by simpa using ho
  rw[this]at hu
  exact Zbb ho' (ZbU.1 hu)
 have takeSub:∀t,t∈Zav (ops.toList.take c)->t∈Zav ops.toList:=by
  have:∀(l:List Oper)(k t:Nat),t∈Zav (l.take k)->t∈Zav l:=by
   intro l
   induction l with
   | nil=>intro k t h;simp[Zav]at h
   | cons x l ih=>
    intro k t h
    cases k with
    | zero=>simp[Zav]at h
    | succ k=>
     simp only[List.take_succ_cons,Zav]at h ⊢
     cases hx:x.dst with
     | none=>simp only[hx]at h ⊢;exact ih k t h
     | some d=>
      simp only[hx,List.mem_cons]at h ⊢
      exact h.imp (λh=>h) (ih k t)
  exact this _ c
 have gt:∀i,c+1<=i->i < ops.size->∃o,ops[i]?=some o/\(∀j,c<=j->j < i->j∈Zbs o)/\(∀j∈Zbs o,j < i)/\(i=c+1->∀j,j < c->j∈Zbs o\/j∈Zbs oc):=by
  intro i eO gK
  have:=nt (i - c) (List.mem_range.2 (by omega))
  have cW:Nat.beq (i - c) 0=false:=Zas (by omega)
  rw[cW,cond_false,show c+(i - c)=i by omega,ln]at this
  split at this
  ·rename_i o oc' ho qy
   cases qy
   simp only[Bool.and_eq_true,List.all_eq_true]at this
   refine⟨o,by simpa using ho,λj sr hj=>?_,λj hj=>Nat.le_of_ble_eq_true (this.2.1 j hj),λhi j hj=>?_⟩
   ·have h3:=Za9.1 (this.1 (j - c) (List.mem_range.2 (by omega)))
    rw[show c+(j - c)=j by omega]at h3
    exact h3
   ·have h3:=this.2.2
    rw[hi,show c+1 - c=1 by omega]at h3
    simp only[show Nat.beq 1 1=true from rfl,cond_true,List.all_eq_true,Bool.or_eq_true,List.mem_range]at h3
    exact(h3 j hj).imp Za9.1 Za9.1
  ·cases this
 have lB:ops.toList.drop (c+1)=r:=by
  have:=congrArg (List.drop 1) mr
  simpa[List.drop_drop,Nat.add_comm]using this
 have ss:r.length=ops.size - (c+1):=by rw[<-lB];simp
 have memo:∀mm:Mem,E.m0=some mm->C.m0=mm:=λmm hm=>(hY.m0 mm hm).1
 have prd:∀{o:Oper} {listed:Array Bool},(∀e∈o.after,Region.binds .any e=true->listed.getD e.on false=true)->∀j∈Zbs o,listed.getD j false=true:=λ{o listed} fF j hj=>by
  simp only[Zbs,List.mem_map,List.mem_filter]at hj
  obtain⟨e,⟨he,hb⟩,rfl⟩:=hj
  exact fF e (by simpa using he) hb
 have prd':∀{o:Oper} {listed:Array Bool},(∀j∈Zbs o,listed.getD j false=true)->∀e∈o.after,Region.binds .any e=true->listed.getD e.on false=true:=λ{o listed} fF e he hb=>fF e.on (by
  simp only[Zbs,List.mem_map,List.mem_filter]
  exact⟨e,⟨by simpa using he,hb⟩,rfl⟩)
 have main:∀(fuel:Nat)(listed:Array Bool)(X:St)(m':Mem)(a':Act)(w':World),listed.size=ops.size->(∀j,c+1<=j->listed.getD j false=false)->
   ((List.range (c+1)).countP λj=>!listed.getD j false)+r.length<=fuel->(∀o∈ops.toList.take c,Zza E S (ZdS E oc.dst) o X)->(∀id,id ∉ ZdS E oc.dst->X.L id=S.L id)->SameOut (Zav ops.toList) S X->
   (listed.getD c false=false->m'=m/\X=S.wenv e)->(listed.getD c false=true->Zkx E ops K r X m'/\∀p∈Zbs oc,listed.getD p false=true)->
   Rel C (Zr4 ops c listed S X) m' a' w'->wpAnyIn F n E.P .any ops Q fuel listed a' w':=by
  intro fuel
  induction fuel with
  | zero=>
   intro listed X m' a' w' bW fK iV hX oV oW hA hB bC
   have hz:((List.range (c+1)).countP λj=>!listed.getD j false)=0:=by omega
   have bR:∀j,j < c+1->listed.getD j false=true:=λj hj=>by
    have:=List.countP_eq_zero.1 hz j (List.mem_range.2 hj)
    simpa using this
   have gW:Zr4 ops c listed S X=X:=by
    have:∀t,unl ops c listed t=false:=λt=>by
     cases hu:unl ops c listed t with
     | false=>rfl
     | true=>
      exfalso
      unfold unl at hu
      simp only[List.any_eq_true,Bool.and_eq_true,List.mem_range]at hu
      obtain⟨j,hj,hu,_⟩:=hu
      rw[bR j (by omega)]at hu;cases hu
    unfold Zr4
    simp only[this,cond_false];rfl
   rw[gW]at bC
   exact Zrg hE hF hY bB over (i0:=c+1) (λi h1 h2=>by
    obtain⟨o,q1,q2,q3,_⟩:=gt i h1 h2
    exact⟨o,q1,λj hj=>q2 j (by omega),q3⟩) r (c+1) lB (Nat.le_refl _) (by omega) 0 listed X m' a' w' (by omega) bW bR fK (hB (bR c (by omega))).1 bC
  | succ fuel ih=>
   intro listed X m' a' w' bW fK iV hX oV oW hA hB bC
   by_cases bR:∀j,j < c+1->listed.getD j false=true
   ·have gW:Zr4 ops c listed S X=X:=by
     have:∀t,unl ops c listed t=false:=λt=>by
      cases hu:unl ops c listed t with
      | false=>rfl
      | true=>
       exfalso
       unfold unl at hu
       simp only[List.any_eq_true,Bool.and_eq_true,List.mem_range]at hu
       obtain⟨j,hj,hu,_⟩:=hu
       rw[bR j (by omega)]at hu;cases hu
     unfold Zr4
     simp only[this,cond_false];rfl
    rw[gW]at bC
    exact Zrg hE hF hY bB over (i0:=c+1) (λi h1 h2=>by
     obtain⟨o,q1,q2,q3,_⟩:=gt i h1 h2
     exact⟨o,q1,λj hj=>q2 j (by omega),q3⟩) r (c+1) lB (Nat.le_refl _) (by omega) _ listed X m' a' w' (by omega) bW bR fK (hB (bR c (by omega))).1 bC
   have dec:∀{i:Nat},i < c+1->listed.getD i false=false->((List.range (c+1)).countP λj=>!(listed.setIfInBounds i true).getD j false)+1=((List.range (c+1)).countP λj=>!listed.getD j false):=λ{i} hi gN=>
    ZkE (p:=λj=>!listed.getD j false) (q:=λj=>!(listed.setIfInBounds i true).getD j false) (i:=i) (by simp[gN]) (λj=>by
     by_cases e:j=i
     ·subst e;rw[ZcV (by omega),Zcx];simp
     ·rw[getD_set_ne false (Ne.symm e),Zas e];simp) List.nodup_range (List.mem_range.2 hi)
   refine⟨λcJ=>?_,λi hi=>?_⟩
   ·exfalso
    apply bR
    have hl:∀j,j < c->listed.getD j false=true:=λj hj=>by
     cases hb:listed.getD j false with
     | true=>rfl
     | false=>
      exfalso
      obtain⟨o,ho,ho'⟩:=ldAt j hj
      obtain⟨_,hp,_⟩:=ldOk o (List.mem_of_getElem? ho')
      have fD:j < listed.size:=by omega
      have:j∈Region.ready .any ops listed:=mem_ready.2 ⟨by simpa[Array.getD,fD]using hb,o,ho,prd' (by rw[hp];intro j hj;cases hj)⟩
      rw[cJ]at this;simp at this
    intro j hj
    by_cases e:j=c
    ·subst e
     cases hb:listed.getD j false with
     | true=>rfl
     | false=>
      exfalso
      have fD:j < listed.size:=by omega
      have:j∈Region.ready .any ops listed:=mem_ready.2 ⟨by simpa[Array.getD,fD]using hb,oc,nu,prd' λp hp=>hl p (Nat.le_of_ble_eq_true (nw p hp))⟩
      rw[cJ]at this;simp at this
    ·exact hl j (by omega)
   obtain⟨gN,o,ho,fF⟩:=mem_ready.1 hi
   have hi':i < ops.size:=(Array.getElem?_eq_some_iff.1 ho).1
   have hl:i < listed.size:=by omega
   have jk:listed.getD i false=false:=by simp[Array.getD,hl]at gN ⊢;exact gN
   have fF:=prd fF
   have kJ:ops.toList[i]?=some o:=by simpa using ho
   have gw:∀j,c+1<=j->(i < c+1)->(listed.setIfInBounds i true).getD j false=false:=λj hj hi=>by
    rw[getD_set_ne false (by omega)];exact fK j hj
   have eI:∀mm:Mem,E.m0=some mm->mm.le m':=λmm hm=>by rw[<-memo mm hm];exact bC.le
   unfold wpOpIn
   simp only[ho]
   rcases Nat.lt_trichotomy i c with oX|oX|oX
   ·
    obtain⟨o',i7,fA⟩:=ldAt i oX
    rw[ho]at i7;cases i7
    have fI:=List.mem_of_getElem? fA
    obtain⟨hg,_,T,x,d,kY,hd,ue,uf⟩:=ldOk o fI
    obtain⟨T',x',d',v,q1,q2,q3,q4⟩:=hX o fI
    rw[kY]at q1;cases q1
    rw[hd]at q2;cases q2
    have nC:opG E ops o (Zr4 ops c listed S X) m' λS' m''=>S'=(Zr4 ops c listed S X).put (some d) (some (.v v))/\m''=m':=by
     unfold opG
     simp only[hg]
     unfold opW
     simp only[kY,ue]
     refine ZgK (λu hu=>?_) (q4 (Zr4 ops c listed S X) m' (λt ht=>?_) (λid cO=>oV id cO) eI)
     ·subst hu;rw[hd];first|exact⟨rfl,rfl⟩|exact⟨rfl,trivial⟩
     ·have ug:=uf t ht
      show(bif unl ops c listed t then S.env t else X.env t)=S.env t
      cases unl ops c listed t with
      | true=>rfl
      | false=>exact(oW t ug)
    refine Zd2 hE hF hY (Zc4 bB _ o kJ) bC nC (n:=n) (Q:=Q) (next:=wpAnyIn F n E.P .any ops Q fuel (listed.setIfInBounds i true)) (λS2 m2 a2 w2 eB fS=>?_)
    obtain⟨rfl,rfl⟩:=eB
    have su:(listed.setIfInBounds i true).getD c false=listed.getD c false:=getD_set_ne false (by omega)
    refine ih _ X m2 a2 w2 (by simpa using bW) (λj hj=>gw j hj (by omega)) (by have:=dec (i:=i) (by omega) jk;omega) hX oV oW (λhb=>hA (su ▸ hb)) (λhb=>?_) ?_
    ·obtain⟨q5,q6⟩:=hB (su ▸ hb)
     refine⟨q5,λp hp=>?_⟩
     by_cases e:p=i
     ·subst e;exact ZcV hl
     ·rw[getD_set_ne false (Ne.symm e)];exact q6 p hp
    ·have:(Zr4 ops c listed S X).put (some d) (some (.v v))=Zr4 ops c (listed.setIfInBounds i true) S X:=by
      have lC:∀t,unl ops c (listed.setIfInBounds i true) t=(unl ops c listed t&&!Nat.beq t d):=λt=>by
       by_cases ht:t=d
       ·subst ht
        rw[Zcx]
        simp only[Bool.not_true,Bool.and_false]
        cases hu:unl ops c (listed.setIfInBounds i true) t with
        | false=>rfl
        | true=>
         exfalso
         unfold unl at hu
         simp only[List.any_eq_true,Bool.and_eq_true,List.mem_range]at hu
         obtain⟨j,hj,eM,gB⟩:=hu
         obtain⟨oj,qz,qA⟩:=ldAt j hj
         have:ops.toList[j]?=some oj:=by simpa using qz
         rw[this]at gB
         have:j=i:=ZmB qv qA fA (ZbU.1 gB) hd
         subst this
         rw[ZcV hl]at eM;cases eM
       ·rw[Zas ht]
        simp only[Bool.not_false,Bool.and_true]
        unfold unl
        rw[Bool.eq_iff_iff]
        simp only[List.any_eq_true,Bool.and_eq_true,List.mem_range]
        constructor
        ·rintro⟨j,hj,eM,gB⟩
         refine⟨j,hj,?_,gB⟩
         by_cases e:j=i
         ·subst e;rw[ZcV hl]at eM;cases eM
         ·rw[getD_set_ne false (Ne.symm e)]at eM;exact eM
        ·rintro⟨j,hj,eM,gB⟩
         refine⟨j,hj,?_,gB⟩
         by_cases e:j=i
         ·subst e
          rw[kJ]at gB
          have:=ZbU.1 gB
          rw[hd]at this;cases this
          exact absurd rfl ht
         ·rw[getD_set_ne false (Ne.symm e)];exact eM
      unfold Zr4 St.wenv St.put
      simp only[lC]
      congr 1
      funext t
      by_cases ht:t=d
      ·subst ht;simp[Zcx,q3]
      ·simp[Zas ht]
     rw[<-this];exact fS
   ·
    subst oX
    rw[nu]at ho;cases ho
    obtain⟨rfl,rfl⟩:=hA jk
    have uh:S.wenv e=(Zr4 ops i listed S (S.wenv e)).wenv e:=rfl
    have pv:∀x∈q.args.toList,∀t,x=.tmp t->e t=(Zr4 ops i listed S (S.wenv e)).env t:=λx hx t ht=>by
     show e t=(bif unl ops i listed t then S.env t else e t)
     cases hu:unl ops i listed t with
     | false=>rfl
     | true=>
      exfalso
      unfold unl at hu
      simp only[List.any_eq_true,Bool.and_eq_true,List.mem_range]at hu
      obtain⟨j,hj,eM,gB⟩:=hu
      have:=uc j (List.mem_range.2 hj)
      simp only[Bool.or_eq_true]at this
      rcases this with h6|h6
      ·rw[fF j (Za9.1 h6)]at eM;cases eM
      ·split at h6
       ·cases h6
       ·rename_i oj qz
        rw[qz]at gB
        have ui:=ZbU.1 gB
        simp only[ui,List.all_eq_true]at h6
        have:=h6 x hx
        subst ht
        simp[ZoP,mem,Zcx]at this
    rw[uh]at h5 h4
    have h6:=ZoX qw hq j0 il (Zjq qx) lz nv ud pv h4 h5
    refine Zd2 hE hF hY (Zc4 bB _ _ ln) bC h6 (n:=n) (Q:=Q) (next:=wpAnyIn F n E.P .any ops Q fuel (listed.setIfInBounds i true)) (λS2 m2 a2 w2 eB fS=>?_)
    obtain⟨X2,z1,z2,z3,z4,z5⟩:=eB
    have qB:∀t,t≠dc->X2.env t=e t:=λt ht=>(z3 t (by rw[nA];exact λh=>ht (Option.some.inj h).symm)).1
    refine ih _ X2 m2 a2 w2 (by simpa using bW) (λj hj=>gw j hj (by omega)) (by have:=dec (i:=i) (by omega) jk;omega) (λo' ho'=>?_) (λid cO=>(z5 id cO).trans (oV id cO)) (λt ht=>?_) (λhb=>?_) (λ_=>⟨z1,λp hp=>?_⟩) ?_
    ·obtain⟨T',x',d',v,q1,q2,q3,q4⟩:=hX o' ho'
     refine⟨T',x',d',v,q1,q2,?_,q4⟩
     obtain⟨j,hj⟩:=List.getElem?_of_mem ho'
     rw[qB d' (λe=>nB (e ▸ Zbb hj q2))];exact q3
    ·have:t≠dc:=λe=>ht (e ▸ Zbb ln nA)
     rw[qB t this];exact oW t ht
    ·rw[ZcV hl]at hb;cases hb
    ·have:=fF p hp
     by_cases e:p=i
     ·subst e;exact ZcV hl
     ·rw[getD_set_ne false (Ne.symm e)];exact this
    ·have:S2=Zr4 ops i (listed.setIfInBounds i true) S X2:=by
      have lC:∀t,unl ops i (listed.setIfInBounds i true) t=unl ops i listed t:=λt=>by
       unfold unl
       rw[Bool.eq_iff_iff]
       simp only[List.any_eq_true,Bool.and_eq_true,List.mem_range]
       constructor
       ·rintro⟨j,hj,eM,gB⟩
        rw[getD_set_ne false (by omega)]at eM
        exact⟨j,hj,eM,gB⟩
       ·rintro⟨j,hj,eM,gB⟩
        exact⟨j,hj,by rw[getD_set_ne false (by omega)];exact eM,gB⟩
      have hs:S2=X2.wenv S2.env:=by rw[<-z2];rfl
      rw[hs]
      unfold Zr4
      congr 1
      funext t
      rw[lC]
      by_cases ht:t=dc
      ·subst ht
       have:unl ops i listed t=false:=by
        cases hu:unl ops i listed t with
        | false=>rfl
        | true=>exact absurd (unl_mem hu) nB
       rw[this,cond_false]
       exact z4 t nA
      ·rw[(z3 t (by rw[nA];exact λh=>ht (Option.some.inj h).symm)).2,qB t ht]
       rfl
     rw[<-this];exact fS
   ·exfalso
    obtain⟨o3,ly,jZ,_,qC⟩:=gt i (by omega) hi'
    rw[ly]at ho;cases ho
    by_cases qD:i=c+1
    ·apply bR
     intro j hj
     by_cases e:j=c
     ·subst e;exact fF _ (jZ _ (Nat.le_refl _) (by omega))
     ·rcases qC qD j (by omega)with h6|h6
      ·exact fF j h6
      ·exact(hB (fF c (jZ c (Nat.le_refl _) (by omega)))).2 j h6
    ·have:=fF (c+1) (jZ (c+1) (by omega) (by omega))
     rw[fK (c+1) (Nat.le_refl _)]at this;cases this
 have none0:∀j,(Array.replicate ops.size false).getD j false=false:=λj=>by simp[Array.getD]
 refine main ops.size _ (S.wenv e) m a w (by simp) (λj _=>none0 j) ?_ hV (λ_ _=>rfl) (λt ht=>he t (λhm=>ht (takeSub t hm))) (λ_=>⟨rfl,rfl⟩) (λhb=>?_) ?_
 ·have:=List.countP_le_length (p:=λj=>!(Array.replicate ops.size false).getD j false) (l:=List.range (c+1))
  simp only[List.length_range]at this
  omega
 ·rw[none0]at hb;cases hb
 ·have:Zr4 ops c (Array.replicate ops.size false) S (S.wenv e)=S:=by
   have:∀t,(bif unl ops c (Array.replicate ops.size false) t then S.env t else e t)=S.env t:=λt=>by
    cases hu:unl ops c (Array.replicate ops.size false) t with
    | true=>rfl
    | false=>
     refine he t λhm=>?_
     have:unl ops c (Array.replicate ops.size false) t=true:=by
      have uj:∀{l:List Oper} {t:Nat},t∈Zav l->∃(j:Nat)(o:Oper),l[j]?=some o/\o.dst=some t:=by
       intro l
       induction l with
       | nil=>intro t h;simp[Zav]at h
       | cons x l ih=>
        intro t h
        unfold Zav at h
        split at h
        ·obtain⟨j,o,h1,h2⟩:=ih h
         exact⟨j+1,o,by simpa using h1,h2⟩
        ·rename_i d hd
         rcases List.mem_cons.1 h with rfl|h
         ·exact⟨0,x,by simp,hd⟩
         ·obtain⟨j,o,h1,h2⟩:=ih h
          exact⟨j+1,o,by simpa using h1,h2⟩
      obtain⟨j,o,hj,hd⟩:=uj hm
      have sw:j < c:=by
       have:=(List.getElem?_eq_some_iff.1 hj).1
       simp at this;omega
      have hj':ops.toList[j]?=some o:=by rw[List.getElem?_take_of_lt sw]at hj;exact hj
      unfold unl
      simp only[List.any_eq_true,Bool.and_eq_true,List.mem_range]
      refine⟨j,sw,by rw[none0];rfl,?_⟩
      rw[hj'];exact ZbU.2 hd
     rw[hu]at this;cases this
   unfold Zr4 St.wenv
   cases S
   simp only at this ⊢
   congr 1
   funext t;exact this t
  rw[this];exact hr
theorem Zlj:∀{l:List DOp} {p j:Nat},j∈Zx1 l p->∃c∈l,c.i=p/\j∈c.an
 | [],p,j,h=>by simp[Zx1]at h
 | d::l,p,j,h=>by
  simp only[Zx1]at h
  cases hb:Nat.beq d.i p with
  | true=>simp only[hb,cond_true]at h;exact⟨d,by simp,Nat.eq_of_beq_eq_true hb,h⟩
  | false=>
   simp only[hb,cond_false]at h
   obtain⟨c,hc,h1⟩:=Zlj h
   exact⟨c,by simp[hc],h1⟩
theorem ZoY{E:Env}{ops:Array Oper}:∀{r before l1:List DOp} {d:DOp} {l2:List DOp},ZjG E ops r before=true->r=l1++d::l2->Zxh E ops d (l1.reverse++before)=true
 | [],before,l1,d,l2,h,e=>by simp at e
 | x::r,before,[],d,l2,h,e=>by
  simp only[ZjG,Bool.and_eq_true]at h
  simp at e
  rw[<-e.1];exact h.1
 | x::r,before,y::l1,d,l2,h,e=>by
  simp only[ZjG,Bool.and_eq_true]at h
  simp at e
  obtain⟨rfl,e⟩:=e
  have:=ZoY h.2 e
  simpa using this
structure Fact (E:Env)(ops:Array Oper)(ds:List DOp)(d:DOp)(o:Oper):Prop where
 ok:DOk E ops d o
 vw:∀j,j∈d.vw->j∈d.an
 an:∀j,j∈d.an->j∈Zbs o\/∃p∈Zbs o,∃c∈ds,c.i=p/\j∈c.an
theorem Zlk{E:Env}{ops:Array Oper}{ds:List DOp}(h:ZjG E ops ds []=true){l1 l2:List DOp}{d:DOp}(e:ds=l1++d::l2):
  ∃o,Fact E ops ds d o/\(∀p∈Zbs o,∃c∈l1,c.i=p)/\(∀c∈l1,(c.i∈d.an\/Zra ops c d=true)/\c.i≠d.i):=by
 have h1:=ZoY h e
 simp only[List.append_nil]at h1
 unfold Zxh at h1
 split at h1
 ·cases h1
 ·rename_i o ho
  simp only[Bool.and_eq_true,List.all_eq_true,Bool.or_eq_true,List.any_eq_true]at h1
  obtain⟨⟨⟨⟨⟨⟨g1,g2⟩,g3⟩,g4,g5⟩,g6⟩,g7⟩,g8⟩:=h1
  have fI:∀c∈l1.reverse,c∈ds:=λc hc=>by rw[e];simp at hc ⊢;exact .inl hc
  refine⟨o,⟨⟨ho,g1,Zio g2,Zio g3⟩,Zio g4,λj hj=>?_⟩,λp hp=>?_,λc hc=>⟨?_,?_⟩⟩
  ·rcases g6 j hj with h2|⟨p,hp,h2⟩
   ·exact .inl (Za9.1 h2)
   ·obtain⟨c,hc,h3,h4⟩:=Zlj (Za9.1 h2)
    exact .inr ⟨p,hp,c,fI c hc,h3,h4⟩
  ·have:=Zio g5 p hp
   obtain⟨c,hc,h2⟩:=List.mem_map.1 this
   exact⟨c,by simpa using hc,h2⟩
  ·exact(g7 c (by simpa using hc)).imp Za9.1 id
  ·have:=g8 c (by simpa using hc)
   intro e;rw[e,Zcx]at this;simp at this
theorem Zhn{α:Type}{R:α->α->Prop}:∀{l:List α},(∀l1 d l2,l=l1++d::l2->∀c∈l1,R c d)->l.Pairwise R
 | [],_=>List.Pairwise.nil
 | x::l,h=>by
  refine List.Pairwise.cons (λy hy=>?_) (Zhn λl1 d l2 e c hc=>h (x::l1) d l2 (by simp[e]) c (by simp[hc]))
  obtain⟨s,t,rfl⟩:=List.append_of_mem hy
  exact h (x::s) y t (by simp) x (by simp)
structure Inv (ds:List DOp)(dn:Nat->Bool)(rem:List DOp):Prop where
 rem:rem=ds.filter λc=>!dn c.i
 closed:∀d∈ds,dn d.i=true->∀j,j∈d.an->dn j=true
section
variable {E:Env} {ops:Array Oper} {ds:List DOp} {dn:Nat->Bool}
theorem Inv.an_of{rem:List DOp}(h:Inv ds dn rem){d:DOp}{o:Oper}(hd:Fact E ops ds d o)(hp:∀p,p∈Zbs o->dn p=true):∀j,j∈d.an->dn j=true:=λj hj=>by
 rcases hd.an j hj with h1|⟨p,h1,c,h2,h3,h4⟩
 ·exact hp j h1
 ·exact h.closed c h2 (h3 ▸ hp p h1) j h4
theorem Inv.step{r1 r2:List DOp}{d:DOp}(hp:ds.Pairwise λc d=>c.i≠d.i)(h:Inv ds dn (r1++d::r2))(hd:∀j,j∈d.an->dn j=true):Inv ds (λj=>dn j||Nat.beq j d.i) (r1++r2):=by
 have fF:(r1++d::r2).Pairwise λc d=>c.i≠d.i:=by rw[h.rem];exact hp.sublist List.filter_sublist
 refine⟨?_,λc hc nv j hj=>?_⟩
 ·have e:(ds.filter λc=>!(dn c.i||Nat.beq c.i d.i))=(r1++d::r2).filter λc=>!Nat.beq c.i d.i:=by
   rw[h.rem,List.filter_filter]
   congr 1;funext c
   cases dn c.i <;> simp
  rw[e,List.filter_append,List.filter_cons]
  simp only[Zcx,Bool.not_true,Bool.false_eq_true,if_false]
  rw[List.pairwise_append]at fF
  obtain⟨_,h2,h3⟩:=fF
  rw[List.pairwise_cons]at h2
  rw[List.filter_eq_self.2,List.filter_eq_self.2]
  ·intro c hc
   have:=h2.1 c hc
   simp[Zas (Ne.symm this)]
  ·intro c hc
   have:=h3 c hc d (by simp)
   simp[Zas this]
 ·simp only[Bool.or_eq_true]at nv ⊢
  rcases nv with h1|h1
  ·exact .inl (h.closed c hc h1 j hj)
  ·have:c=d:=by
    have kK:d∈ds:=by
     have:d∈ds.filter λc=>!dn c.i:=by rw[<-h.rem];simp
     exact(List.mem_filter.1 this).1
    have hi:=Nat.eq_of_beq_eq_true h1
    by_cases e:c=d
    ·exact e
    ·exfalso
     obtain⟨s,t,rfl⟩:=List.append_of_mem hc
     rw[List.pairwise_append,List.pairwise_cons]at hp
     simp only[List.mem_append,List.mem_cons]at kK
     rcases kK with kK|kK|kK
     ·exact hp.2.2 d kK c (by simp) hi.symm
     ·exact e kK.symm
     ·exact hp.2.1.1 d kK hi
   subst this
   exact .inl (hd j hj)
theorem Inv.head{d:DOp}{r:List DOp}(cC:ZjG E ops ds []=true)(h:Inv ds dn (d::r)):∃o,Fact E ops ds d o/\∀p,p∈Zbs o->dn p=true:=by
 obtain⟨l1,l2,h1,h2,h3,_⟩:=List.filter_eq_cons_iff.1 h.rem.symm
 obtain⟨o,hf,hp,_⟩:=Zlk cC h1
 refine⟨o,hf,λp mW=>?_⟩
 obtain⟨c,hc,rfl⟩:=hp p mW
 have:=h2 c hc
 simpa using this
theorem Inv.topo(cC:ZjG E ops ds []=true)(hp:ds.Pairwise λc d=>c.i≠d.i):∀{r1 r2:List DOp} {dn:Nat->Bool},Inv ds dn (r1++r2)->Zxj (λj=>dn j=true) r1
 | [],r2,dn,h=>trivial
 | c::r1,r2,dn,h=>by
  obtain⟨o,hf,fF⟩:=h.head cC
  have mt:=h.an_of hf fF
  refine⟨λj hj=>mt j (hf.vw j hj),?_⟩
  have:=Inv.topo cC hp (r1:=r1) (r2:=r2) (Inv.step (r1:=[]) hp h mt)
  have e:(λj=>(dn j||Nat.beq j c.i)=true)=(λj=>dn j=true\/j=c.i):=by
   funext j
   rw[Bool.or_eq_true]
   exact propext ⟨λh=>h.imp id Nat.eq_of_beq_eq_true,λh=>h.imp id λe=>by rw[e];exact Zcx _⟩
  rw[e]at this
  exact this
end
theorem Ziq{ops:Array Oper}:∀{ds:List DOp} {j:Nat},j∈ZjC ops ds->∃d∈ds,d.i=j
 | [],j,h=>by simp[ZjC]at h
 | d::r,j,h=>by
  simp only[ZjC]at h
  split at h
  ·obtain⟨c,hc,e⟩:=Ziq h;exact⟨c,by simp[hc],e⟩
  ·rename_i o _
   cases hg:Zeu o with
   | true=>
    simp only[hg,cond_true,List.mem_cons]at h
    rcases h with h|h
    ·exact⟨d,by simp,h.symm⟩
    ·obtain⟨c,hc,e⟩:=Ziq h;exact⟨c,by simp[hc],e⟩
   | false=>
    simp only[hg,cond_false]at h
    obtain⟨c,hc,e⟩:=Ziq h;exact⟨c,by simp[hc],e⟩
theorem Zll{ops:Array Oper}:∀{ds:List DOp},ZjC ops ds=[]->∀d∈ds,∀o,ops.toList[d.i]?=some o->Zeu o=false
 | [],_,d,hd=>by simp at hd
 | c::r,h,d,hd=>λo ho=>by
  simp only[ZjC]at h
  rcases List.mem_cons.1 hd with rfl|hd
  ·simp only[ho]at h
   cases hg:Zeu o with
   | false=>rfl
   | true=>simp[hg]at h
  ·split at h
   ·exact Zll h d hd o ho
   ·rename_i oc _
    cases hg:Zeu oc with
    | true=>simp[hg]at h
    | false=>simp only[hg,cond_false]at h;exact Zll h d hd o ho
theorem ZoZ{C:Ctx}{E:Env}(hE:E.ok){F:Fence}(hF:FOk F)(hY:YOk E C){ops:Array Oper}(bB:Zmj C.n ops.toList=true)(gA:E.fix=none){m0:Mem}{f:Fx}{ds:List DOp}(cC:ZjG E ops ds []=true)
  {n e:Nat} {Q:Exit->Act->World->Prop} {K:St->Mem->Prop}
  (lD:∀(listed:Array Bool)(rem:List DOp) i,Inv ds (λj=>listed.getD j false) rem->(∀j,listed.getD j false=true->∃d∈ds,d.i=j)->listed.size=ops.size->i∈Region.ready .any ops listed->(∃d∈ds,d.i=i)\/∀d∈ds,listed.getD d.i false=true)
  (ji:∀(fuel:Nat)(listed:Array Bool)(S':St)(m':Mem)(a':Act)(w':World),e<=fuel->listed.size=ops.size->(∀d∈ds,listed.getD d.i false=true)->(∀j,listed.getD j false=true->∃d∈ds,d.i=j)->K S' m'->Rel C S' m' a' w'->wpAnyIn F n E.P .any ops Q fuel listed a' w'):
  ∀(fuel:Nat){listed:Array Bool}{rem:List DOp}{S:St}{μ:Nat->Mem}{A:Mem}{a:Act}{w:World},listed.size=ops.size->Inv ds (λj=>listed.getD j false) rem->rem.length+e<=fuel->Rel C S A a w->m0.le A->
   (∀j,listed.getD j false=true->(μ j).le A)->(∀j,listed.getD j false=true->∃d∈ds,d.i=j)->(ZjC ops ds=[]->A=m0)->(∀d∈ds,(∀i,i∈d.ws->i∈S.ids)/\∀k,d.tk=some k->k∈S.tkeys)->
   ZjA E ops m0 f rem (λS' μ=>Zxf m0 μ (ZjC ops ds) λM=>K S' M) S μ->wpAnyIn F n E.P .any ops Q fuel listed a w:=by
 have kC:ds.Pairwise λc d=>(c.i∈d.an\/Zra ops c d=true)/\c.i≠d.i:=Zhn λl1 d l2 e c hc=>by
  obtain⟨o,_,_,h⟩:=Zlk cC e
  exact h c hc
 have mo:ds.Pairwise λc d=>c.i≠d.i:=kC.imp λh=>h.2
 have factOf:∀d∈ds,∃o,Fact E ops ds d o:=λd hd=>by
  obtain⟨s,t,e⟩:=List.append_of_mem hd
  obtain⟨o,h,_⟩:=Zlk cC e
  exact⟨o,h⟩
 have allOf:∀{listed:Array Bool} {rem:List DOp},Inv ds (λj=>listed.getD j false) rem->rem=[]->∀d∈ds,listed.getD d.i false=true:=λdL he d hd=>by
  subst he
  have:=List.filter_eq_nil_iff.1 dL.rem.symm d hd
  simpa using this
 have fin:∀{fuel:Nat} {listed:Array Bool} {rem:List DOp} {S:St} {μ:Nat->Mem} {A:Mem} {a:Act} {w:World},listed.size=ops.size->Inv ds (λj=>listed.getD j false) rem->Rel C S A a w->m0.le A->(∀j,listed.getD j false=true->(μ j).le A)->(∀j,listed.getD j false=true->∃d∈ds,d.i=j)->(ZjC ops ds=[]->A=m0)->
   ZjA E ops m0 f rem (λS' μ=>Zxf m0 μ (ZjC ops ds) λM=>K S' M) S μ->rem=[]->e<=fuel->wpAnyIn F n E.P .any ops Q fuel listed a w:=by
  intro fuel listed rem S μ A a w bW dL hr h0 hμ hl hg hn he iV
  have bR:=allOf dL he
  subst he
  refine ji fuel listed S A a w iV bW bR hl (Zsy hn h0 hg λj hj=>?_) hr
  obtain⟨d,hd,rfl⟩:=Ziq hj
  exact hμ _ (bR d hd)
 have stuck:∀{listed:Array Bool} {rem:List DOp},listed.size=ops.size->Inv ds (λj=>listed.getD j false) rem->Region.ready .any ops listed=[]->rem=[]:=by
  intro listed rem bW dL cJ
  cases rem with
  | nil=>rfl
  | cons d r=>
   exfalso
   obtain⟨o,hf,hp⟩:=dL.head cC
   have cD:d∈ds.filter λc=>!listed.getD c.i false:=by rw[<-dL.rem];simp
   have h1:=(List.mem_filter.1 cD).2
   have ho':ops[d.i]?=some o:=by simpa using hf.ok.at_
   have aX:d.i < ops.size:=(Array.getElem?_eq_some_iff.1 ho').1
   have:d.i∈Region.ready .any ops listed:=mem_ready.2 ⟨by
    have hl:d.i < listed.size:=by omega
    simpa[Array.getD,hl]using h1,o,ho',λe he hb=>hp e.on (by
     simp only[Zbs,List.mem_map,List.mem_filter]
     exact⟨e,⟨by simpa using he,hb⟩,rfl⟩)⟩
   rw[cJ]at this;simp at this
 intro fuel
 induction fuel with
 | zero=>
  intro listed rem S μ A a w bW dL bS hr h0 hμ j1 hg dP hn
  have he:rem=[]:=List.eq_nil_of_length_eq_zero (by omega)
  exact fin bW dL hr h0 hμ j1 hg hn he (by omega)
 | succ fuel ih=>
  intro listed rem S μ A a w bW dL bS hr h0 hμ j1 hg dP hn
  by_cases lE:rem=[]
  ·exact fin bW dL hr h0 hμ j1 hg hn lE (by omega)
  refine⟨λcJ=>absurd (stuck bW dL cJ) lE,λi hi=>?_⟩
  rcases lD listed rem i dL j1 bW hi with⟨d,hd,rfl⟩|nD
  rotate_left
  ·exfalso
   apply lE
   rw[dL.rem,List.filter_eq_nil_iff]
   intro d hd
   simp[nD d hd]
  obtain⟨gN,o,ho,bR⟩:=mem_ready.1 hi
  have aX:d.i < ops.size:=(Array.getElem?_eq_some_iff.1 ho).1
  have hl:d.i < listed.size:=by omega
  have jk:listed.getD d.i false=false:=by simp[Array.getD,hl]at gN ⊢;exact gN
  obtain⟨o',hf⟩:=factOf d hd
  have:o'=o:=by
   have h1:=hf.ok.at_
   have h2:ops.toList[d.i]?=some o:=by simpa using ho
   rw[h1]at h2;exact Option.some.inj h2
  subst this
  have fF:∀p,p∈Zbs o'->listed.getD p false=true:=λp hp=>by
   simp only[Zbs,List.mem_map,List.mem_filter]at hp
   obtain⟨e,⟨he,hb⟩,rfl⟩:=hp
   exact bR e (by simpa using he) hb
  have mt:=dL.an_of hf fF
  have mr:d∈rem:=by rw[dL.rem];exact List.mem_filter.2 ⟨hd,by simp[jk]⟩
  obtain⟨r1,r2,rfl⟩:=List.append_of_mem mr
  have cF:(r1++d::r2).Sublist ds:=by rw[dL.rem];exact List.filter_sublist
  have nE:=kC.sublist cF
  have fR:∀c∈r1,Zra ops c d=true:=λc hc=>by
   rw[List.pairwise_append]at nE
   rcases(nE.2.2 c hc d (by simp)).1 with h1|h1
   ·have h2:=mt _ h1
    have uk:c∈ds.filter λc=>!listed.getD c.i false:=by rw[<-dL.rem];simp[hc]
    have h3:=(List.mem_filter.1 uk).2
    rw[h2]at h3;cases h3
   ·exact h1
  have fI:∀c∈r1++d::r2,c∈ds:=λc hc=>cF.subset hc
  have hT:=extract hE hF hY bB gA (r1:=r1) (D:=λj=>listed.getD j false=true) hr h0 hμ (dL.topo cC mo) (λc hc=>by
   obtain⟨oc,kv⟩:=factOf c (fI c (by simp[hc]))
   exact⟨⟨oc,kv.ok⟩,dP c (fI c (by simp[hc]))⟩) fR hn
  refine Zre hE hF hY bB gA hf.ok (dP d hd).1 (dP d hd).2 hr h0 (λj hj=>hμ j (mt j (hf.vw j hj))) hT ?_
  intro S' m' A' a' w' cX bC hA hm ul
  have nF:(λj=>(listed.setIfInBounds d.i true).getD j false)=λj=>listed.getD j false||Nat.beq j d.i:=by
   funext j
   by_cases hj:j=d.i
   ·subst hj;simp[Array.getD,hl]
   ·have:Nat.beq j d.i=false:=Zas hj
    rw[getD_set_ne false (Ne.symm hj),this,Bool.or_false]
  refine ih (rem:=r1++r2) (S:=Zqi ops d S S') (μ:=upd μ d.i m') (A:=A') (by simpa using bW) ?_ (by simp at bS ⊢;omega) bC (mLt h0 hA) ?_ ?_ ?_ ?_ (Zrd hf.ok.ws fR hn cX)
  ·rw[nF];exact dL.step mo mt
  ·intro j hj
   have hj':(listed.getD j false||Nat.beq j d.i)=true:=by rw[<-hj];exact(congrFun nF j).symm
   by_cases e:j=d.i
   ·subst e;rw[Zrf];exact hm
   ·rw[Zwa e]
    rw[Zas e,Bool.or_false]at hj'
    exact mLt (hμ j hj') hA
  ·intro j hj
   have hj':(listed.getD j false||Nat.beq j d.i)=true:=by rw[<-hj];exact(congrFun nF j).symm
   rw[Bool.or_eq_true]at hj'
   rcases hj' with h|h
   ·exact j1 j h
   ·exact⟨d,hd,(Nat.eq_of_beq_eq_true h).symm⟩
  ·intro mu
   rw[ul (Zll mu d hd o' hf.ok.at_)]
   exact hg mu
  ·intro c hc
   rw[(Zli ops d S S').1,(Zli ops d S S').2]
   exact dP c hc
theorem Zo0:∀{ds:List DOp} {d:DOp} {i:Nat},d∈ds->i∈d.ws->i∈Zv4 ds
 | [],d,i,hd,_=>by simp at hd
 | c::r,d,i,hd,hi=>by
  simp only[Zv4,List.mem_append]
  rcases List.mem_cons.1 hd with rfl|hd
  ·exact .inl hi
  ·exact .inr (Zo0 hd hi)
theorem Zo1:∀{ds:List DOp} {d:DOp} {k:Nat},d∈ds->d.tk=some k->k∈ZvD ds
 | [],d,k,hd,_=>by simp at hd
 | c::r,d,k,hd,hk=>by
  simp only[ZvD]
  rcases List.mem_cons.1 hd with rfl|hd
  ·simp[hk]
  ·have:=Zo1 hd hk
   cases c.tk <;> simp[this]
theorem Zo2{C:Ctx}{S:St}{m:Mem}{a:Act}{w:World}(h:Rel C S m a w)(ds:List DOp):Rel C (Zle ds S) m a w:=
 h.restrict rfl (λ_ _ hx=>hx) (λ_ _ ht=>.inl ht) (λi sv he=>by
  obtain⟨v,h1,h2⟩:=h.env i sv he
  exact⟨v,by cases sv <;> exact h1,h2⟩) (λid x hx=>by simp only[Zle];exact List.mem_append_right _ (h.ids id x hx)) (λk t ht=>by simp only[Zle];exact List.mem_append_right _ (h.tkeys k t ht))
theorem ZmC{E:Env}(hE:E.ok)(dR:E.P.follows .mixedOrders=true):Zd6 E (Zlf E):=by
 intro C F hF hY n id ops K S m a w Q bB hr h hK
 have over:∀(fuel:Nat)(listed:Array Bool)(S':St)(m':Mem)(a':Act)(w':World),listed.size=ops.size->(∀j,j < ops.size->listed.getD j false=true)->K S' m'->Rel C S' m' a' w'->wpAnyIn F n E.P .any ops Q fuel listed a' w':=by
  intro fuel listed S' m' a' w' bW bR hk bC
  have fK:Region.ready .any ops listed=[]:=by
   cases cJ:Region.ready .any ops listed with
   | nil=>rfl
   | cons i l=>
    exfalso
    have hi:i∈Region.ready .any ops listed:=by rw[cJ];simp
    obtain⟨gN,o,ho,_⟩:=mem_ready.1 hi
    have aX:i < ops.size:=(Array.getElem?_eq_some_iff.1 ho).1
    have h1:=bR i aX
    have hl:i < listed.size:=by omega
    simp[Array.getD,hl]at gN h1
    rw[gN]at h1;cases h1
  cases fuel with
  | zero=>exact⟨fK,hK _ _ _ _ hk bC⟩
  | succ fuel=>exact⟨λ_=>hK _ _ _ _ hk bC,λi hi=>by rw[fK]at hi;simp at hi⟩
 unfold Zlf at h
 cases hh:E.hot id with
 | true=>
  simp only[hh,cond_true]at h
  exact wpIn_region_any dR (Zwc hE hF hY bB over hr.drew h)
 | false=>
 simp only[hh,cond_false]at h
 obtain⟨h1,h2⟩:=Zag h
 obtain⟨f,h2⟩:=Zut h2
 have h2:ZjA E ops m f (E.dr id) (λS' μ=>Zxf m μ (ZjC ops (E.dr id)) λM=>bif E.last id then Zsv E ops (E.lastK id) K S' M else K S' M) (Zle (E.dr id) S) (λ_=>m):=by
  cases nm:E.gb with
  | false=>simp only[nm,cond_false]at h2;exact h2
  | true=>simp only[nm,cond_true]at h2;exact Zky h2
 simp only[Zv5,Bool.and_eq_true,List.all_eq_true,List.any_eq_true]at h1
 obtain⟨⟨⟨⟨lD,bS⟩,cC⟩,gA⟩,dE⟩:=h1
 refine wpIn_region_any dR ?_
 have gI:∀i,i < (bif E.last id then ops.size - E.lastK id else ops.size)->∃d∈E.dr id,d.i=i:=λi hi=>by
  obtain⟨d,hd,e⟩:=lD i (List.mem_range.2 hi)
  exact⟨d,hd,Nat.eq_of_beq_eq_true e⟩
 have bS:(E.dr id).length<=ops.size:=Nat.le_of_ble_eq_true bS
 have inv0:Inv (E.dr id) (λj=>(Array.replicate ops.size false).getD j false) (E.dr id):=by
  refine⟨(List.filter_eq_self.2 λc hc=>?_).symm,λd hd nF=>?_⟩
  ·simp[Array.getD]
  ·simp[Array.getD]at nF
 have none0:∀j,(Array.replicate ops.size false).getD j false=true->False:=λj hj=>by simp[Array.getD]at hj
 have ids0:∀d∈E.dr id,(∀i,i∈d.ws->i∈(Zle (E.dr id) S).ids)/\∀k,d.tk=some k->k∈(Zle (E.dr id) S).tkeys:=λd hd=>
  ⟨λi hi=>List.mem_append_left _ (Zo0 hd hi),λk hk=>List.mem_append_left _ (Zo1 hd hk)⟩
 cases hl:E.last id with
 | false=>
  simp only[hl,cond_false]at h2 gI
  refine ZoZ hE hF hY bB (by simpa using gA) cC (e:=0) (λlisted _ i _ _ _ hi=>.inl ?_) (λfuel listed S' m' a' w' _ bW bR _ hk bC=>over fuel listed S' m' a' w' bW (λj hj=>by obtain⟨d,hd,rfl⟩:=gI j hj;exact bR d hd) hk bC) ops.size (rem:=E.dr id) (A:=m) (by simp) inv0 (by omega) ((Zo2 hr.drew (E.dr id))) (Mem.le_refl m) (λj hj=>(none0 j hj).elim) (λj hj=>(none0 j hj).elim) (λ_=>rfl) ids0 h2
  obtain⟨_,o,ho,_⟩:=mem_ready.1 hi
  exact gI i (Array.getElem?_eq_some_iff.1 ho).1
 | true=>
  simp only[hl,cond_true]at h2 gI dE
  generalize E.lastK id=k at *
  unfold Zv6 at dE
  simp only[Bool.and_eq_true,List.all_eq_true]at dE
  obtain⟨⟨jT,qE⟩,nq⟩:=dE
  have jT:=Nat.le_of_ble_eq_true jT
  have gt:∀i,ops.size - k<=i->i < ops.size->∃o,ops[i]?=some o/\(∀j,ops.size - k<=j->j < i->j∈Zbs o)/\(∀j∈Zbs o,j < i)/\(i=ops.size - k->∀j,j < ops.size - k->j∈Zbs o\/∃p∈Zbs o,∃c∈E.dr id,c.i=p/\j∈c.an):=by
   intro i h1 h2
   have:=qE (i - (ops.size - k)) (List.mem_range.2 (by omega))
   rw[show ops.size - k+(i - (ops.size - k))=i by omega]at this
   split at this
   ·cases this
   ·rename_i o ho
    simp only[Bool.and_eq_true,List.all_eq_true]at this
    refine⟨o,by simpa using ho,λj sr hj=>?_,λj hj=>Nat.le_of_ble_eq_true (this.2.1 j hj),λhi j hj=>?_⟩
    ·have h3:=Za9.1 (this.1 (j - (ops.size - k)) (List.mem_range.2 (by omega)))
     rw[show ops.size - k+(j - (ops.size - k))=j by omega]at h3
     exact h3
    ·have h3:=this.2.2
     rw[hi,Nat.sub_self]at h3
     simp only[show Nat.beq 0 0=true from rfl,cond_true,List.all_eq_true,Bool.or_eq_true,List.any_eq_true]at h3
     rcases h3 j (List.mem_range.2 hj)with h4|⟨p,hp,h4⟩
     ·exact .inl (Za9.1 h4)
     ·obtain⟨c,hc,h5,h6⟩:=Zlj (Za9.1 h4)
      exact .inr ⟨p,hp,c,hc,h5,h6⟩
  have j2:∀d∈E.dr id,d.i < ops.size - k:=λd hd=>Nat.le_of_ble_eq_true (nq d hd)
  have v8:(E.dr id).length+k<=ops.size:=by
   have mo:(E.dr id).Pairwise λc d=>c.i≠d.i:=Zhn λl1 d l2 e c hc=>by
    obtain⟨o,_,_,h⟩:=Zlk cC e
    exact(h c hc).2
   have dT:((E.dr id).map (·.i)).Nodup:=by
    unfold List.Nodup
    rw[List.pairwise_map]
    exact mo
   have:=List.Nodup.length_le_of_subset dT (l₂:=List.range (ops.size - k)) (λj hj=>by
    obtain⟨d,hd,rfl⟩:=List.mem_map.1 hj
    exact List.mem_range.2 (j2 d hd))
   simp at this
   omega
  have tail:∀(r:List Oper)(i:Nat),ops.toList.drop i=r->ops.size - k<=i->i<=ops.size->∀(fuel:Nat)(listed:Array Bool)(S':St)(m':Mem)(a':Act)(w':World),r.length<=fuel->listed.size=ops.size->(∀j,j < i->listed.getD j false=true)->(∀j,i<=j->listed.getD j false=false)->Zkx E ops K r S' m'->Rel C S' m' a' w'->wpAnyIn F n E.P .any ops Q fuel listed a' w':=by
   intro r
   induction r with
   | nil=>
    intro i hi h1 h2 fuel listed S' m' a' w' _ bW bR _ hk bC
    have:ops.size<=i:=by
     have:=congrArg List.length hi
     simp at this
     omega
    exact over fuel listed S' m' a' w' bW (λj hj=>bR j (by omega)) hk bC
   | cons o r ih=>
    intro i hi h1 h2 fuel listed S' m' a' w' iV bW bR dH hk bC
    have eU:i < ops.size:=by
     have:=congrArg List.length hi
     simp at this
     omega
    obtain⟨o',ho',sq,fJ,_⟩:=gt i h1 eU
    have kJ:ops.toList[i]?=some o:=by
     have:=congrArg (λl=>l[0]?) hi
     simpa using this
    have qs:o'=o:=by
     have:ops.toList[i]?=some o':=by simpa using ho'
     rw[kJ]at this;cases this;rfl
    subst qs
    have qt:ops.toList.drop (i+1)=r:=by
     have:=congrArg (List.drop 1) hi
     simpa[List.drop_drop,Nat.add_comm]using this
    obtain⟨fuel,rfl⟩:∃k,fuel=k+1:=⟨fuel - 1,by simp at iV;omega⟩
    have gN:listed.getD i false=false:=dH i (Nat.le_refl _)
    have fD:i < listed.size:=by omega
    refine⟨λcJ=>?_,λq hq=>?_⟩
    ·exfalso
     have:i∈Region.ready .any ops listed:=mem_ready.2 ⟨by simpa[Array.getD,fD]using gN,o',ho',λe he hb=>?_⟩
     ·rw[cJ]at this;simp at this
     ·have hm:e.on∈Zbs o':=by
       simp only[Zbs,List.mem_map,List.mem_filter]
       exact⟨e,⟨by simpa using he,hb⟩,rfl⟩
      exact bR _ (fJ _ hm)
    ·obtain⟨np,o2,fA,fF⟩:=mem_ready.1 hq
     have hq':q < ops.size:=(Array.getElem?_eq_some_iff.1 fA).1
     have:q=i:=by
      by_cases h3:q < i
      ·have h4:=bR q h3
       have hl:q < listed.size:=by omega
       simp[Array.getD,hl]at np h4
       rw[np]at h4;cases h4
      ·by_cases h4:q=i
       ·exact h4
       ·exfalso
        obtain⟨o3,ly,jZ,_⟩:=gt q (by omega) hq'
        rw[ly]at fA;cases fA
        have:=jZ i h1 (by omega)
        simp only[Zbs,List.mem_map,List.mem_filter]at this
        obtain⟨e,⟨he,hb⟩,h5⟩:=this
        have:=fF e (by simpa using he) hb
        rw[h5,gN]at this;cases this
     subst this
     simp only[Zkx]at hk
     have:=Zjk hE hF hY (Zc4 bB _ o' kJ) bC hk (n:=n) (Q:=Q) (next:=wpAnyIn F n E.P .any ops Q fuel (listed.setIfInBounds q true)) (λS2 m2 a2 w2 eB fS=>ih (q+1) qt (by omega) (by omega) fuel _ S2 m2 a2 w2 (by simp at iV;omega) (by simpa using bW) (λj hj=>by
      by_cases e:j=q
      ·subst e;simp[Array.getD,fD]
      ·rw[getD_set_ne false (Ne.symm e)]
       exact bR j (by omega)) (λj hj=>by
      rw[getD_set_ne false (by omega)]
      exact dH j (by omega)) eB fS)
     unfold wpOpIn
     simp only[ho']
     exact this
  refine ZoZ hE hF hY bB (by simpa using gA) cC (e:=k) (λlisted rem i dL j1 bW hi=>?_) (λfuel listed S' m' a' w' iV bW bR j1 hk bC=>?_) ops.size (rem:=E.dr id) (A:=m) (by simp) inv0 (by omega) ((Zo2 hr.drew (E.dr id))) (Mem.le_refl _) (λj hj=>(none0 j hj).elim) (λj hj=>(none0 j hj).elim) (λ_=>rfl) ids0 h2
  ·obtain⟨_,o2,fA,bR⟩:=mem_ready.1 hi
   have hi':i < ops.size:=(Array.getElem?_eq_some_iff.1 fA).1
   by_cases gK:i < ops.size - k
   ·exact .inl (gI i gK)
   ·right
    obtain⟨o3,ly,jZ,_,qC⟩:=gt i (by omega) hi'
    have um:o2=o3:=by rw[ly]at fA;cases fA;rfl
    subst um
    have qF:∀j∈Zbs o2,listed.getD j false=true:=λj hj=>by
     simp only[Zbs,List.mem_map,List.mem_filter]at hj
     obtain⟨e,⟨he,hb⟩,h3⟩:=hj
     have:=bR e (by simpa using he) hb
     rw[h3]at this
     exact this
    intro d hd
    by_cases qD:i=ops.size - k
    ·rcases qC qD d.i (j2 d hd)with h3|⟨p,hp,c,hc,h3,h4⟩
     ·exact qF _ h3
     ·exact dL.closed c hc (h3 ▸ qF p hp) d.i h4
    ·exfalso
     have h3:=qF _ (jZ (ops.size - k) (Nat.le_refl _) (by omega))
     obtain⟨d',hd',h4⟩:=j1 _ h3
     have:=j2 d' hd'
     omega
  ·unfold Zsv at hk
   refine tail _ (ops.size - k) rfl (Nat.le_refl _) (Nat.sub_le _ _) fuel listed S' m' a' w' (by simp;omega) bW (λj hj=>?_) (λj hj=>?_) hk bC
   ·obtain⟨d,hd,rfl⟩:=gI j hj
    exact bR d hd
   ·cases hb:listed.getD j false with
    | false=>rfl
    | true=>
     obtain⟨d,hd,h3⟩:=j1 _ hb
     have:=j2 d hd
     omega
theorem Rel.ptrS{C:Ctx}{S:St}{m:Mem}{a:Act}{w:World}(h:Rel C S m a w)(ts:List Nat):Rel C (ptrS S ts) m a w:=by
 refine h.restrict rfl (λ_ _ hx=>hx) (λ_ _ ht=>.inl ht) (λt sv he=>?_) h.ids h.tkeys
 have den:∀sv,(Eng.ptrS S ts).den sv=S.den sv:=λsv=>by cases sv <;> rfl
 rw[den]
 have he:(bif mem ts t then Zyq S (S.env t)else S.env t)=some sv:=he
 cases hm:mem ts t with
 | false=>rw[hm]at he;exact h.env t sv he
 | true=>
  rw[hm,cond_true]at he
  unfold Zyq at he
  split at he
  ·rename_i i off hi
   cases hx:S.L i with
   | none=>simp[hx]at he
   | some x=>
    simp only[hx,Option.some.injEq]at he
    subst he
    obtain⟨v,h1,h2⟩:=h.env t _ hi
    simp only[St.den,hx]at h1
    cases h1
    exact⟨_,rfl,h2⟩
  ·exact h.env t sv he
theorem Zrk{E:Env}(hE:E.ok)(dR:E.P.follows .mixedOrders=true){C:Ctx}{F:Fence}(hF:FOk F)(hY:YOk E C)(n:Nat)(id:Nat)(ops:Array Oper){K:St->Mem->Prop}{S2:St}{m2:Mem}{a:Act}{w:World}{Q:Exit->Act->World->Prop}
  (bB:Zmj C.n ops.toList=true) (eT:Rel C S2 m2 a w) (h2:Zx4 (E.ptrAt id) (Zav ops.toList) (Zlf E id ops) K S2 m2) (hK:∀S' m' a' w',K S' m'->Rel C S' m' a' w'->Q .normal a' w'):(Code.region id ops true).wpIn F n E.P Q a w:=by
 unfold Zx4 at h2
 split at h2
 ·exact ZmC hE dR hF hY n id ops bB eT h2 hK
 ·rename_i t0 tl jU
  obtain⟨h3,h4⟩:=Zag h2
  generalize E.ptrAt id=ts at *
  have h5:=Zlg E id ops _ (λS' m'=>SameOut (Zav ops.toList) (ptrS S2 ts) S'/\ZjH S2 S' ts (K (Zv7 S2 S' ts) m')) _ m2 (λS' m' hs _ y=>⟨hs,y⟩) h4
  refine ZmC hE dR hF hY n id ops bB (eT.ptrS ts) h5 (λS' m' a' w' hk bC=>?_)
  obtain⟨hs,hk⟩:=hk
  obtain⟨hk,hp⟩:=Zhm hk
  refine hK _ m' a' w' hk (bC.restrict rfl (λ_ _ hx=>hx) (λ_ _ ht=>.inl ht) (λt sv he=>?_) bC.ids bC.tkeys)
  have den:∀sv,(Zv7 S2 S' ts).den sv=S'.den sv:=λsv=>by cases sv <;> rfl
  rw[den]
  have he:(bif mem ts t then S2.env t else S'.env t)=some sv:=he
  cases hm:mem ts t with
  | false=>rw[hm]at he;exact bC.env t sv he
  | true=>
   rw[hm,cond_true]at he
   have lu:=Za9.1 hm
   have dT:t ∉ Zav ops.toList:=λhd=>by
    have:=List.all_eq_true.1 h3 t lu
    simp[Za9.2 hd]at this
   have h6:=hs t dT
   have h7:(ptrS S2 ts).env t=Zyq S2 (S2.env t):=by show(bif mem ts t then _ else _)=_;rw[hm];rfl
   rcases hp t lu with⟨i,off,q1,q2⟩|⟨v,q1⟩
   ·rw[q1]at he;cases he
    obtain⟨v,r1,r2⟩:=eT.env t _ q1
    simp only[St.den]at r1
    cases hx:S2.L i with
    | none=>simp[hx]at r1
    | some x=>
     rw[q1]at h7
     simp only[Zyq,hx]at h7
     obtain⟨u,r3,r4⟩:=bC.env t _ (h6.trans h7)
     simp only[St.den]at r3;cases r3
     refine⟨_,?_,r4⟩
     simp only[St.den,q2,hx]
   ·rw[q1]at he;cases he
    rw[q1]at h7
    exact bC.env t _ (h6.trans h7)
theorem Zir{E:Env}(hE:E.ok)(dR:E.P.follows .mixedOrders=true):Zd6 E (Zbd E):=by
 intro C F hF hY n id ops K S m a w Q bB hr h hK
 obtain⟨S2,m2,eT,h2⟩:=Zjh hr h
 unfold ZvT at h2
 split at h2
 ·exact Zrk hE dR hF hY n id ops bB eT h2 hK
 ·rename_i key esz _
  obtain⟨h3,h4⟩:=Zag h2
  cases eI:E.m0 with
  | none=>simp[eI]at h4
  | some mm=>
   simp only[eI]at h4
   obtain⟨p,n',c,z1,z2,z3⟩:=h4
   refine Zrk hE dR hF hY n id ops bB (eT.acq hY eI z1 z2) z3 (λS' m' a' w' hk bC=>?_)
   split at hk
   ·exact hk.elim
   ·rename_i t ht
    obtain⟨ip,eB⟩:=Zag hk
    obtain⟨zs,pZ,p6⟩:=bC.unacq ht
    exact hK _ _ _ _ (eB zs pZ) p6
def Zis(fn:Func):Code:=match fn.body with
 | some c=>c
 | none=>.skip
def Env.at(E:Env)(m:Mem):Env:={ E with m0:=some m }
def FW(E:Env)(fn:Func)(svs:List SV)(xs:List Box)(m:Mem)(R:Value->Mem->List (List Value)->Prop):Prop:=
 W (E.at m) (Zbd (E.at m)) (Zis fn) (Zy8 (E.at m) fn.results.toList m xs R) (S0 svs xs) m
def Zx5(E:Env)(fn:Func)(svs:List SV)(xs:List Box):Bool:=
 !(fn.name == "runtime.NumGoroutine")&&fn.body.isSome&&ZaD E (Zis fn)&&ZbC fn.ntmps (Zis fn)&&ZvC E.frz&&E.yl.isNone&&Nat.ble svs.length fn.ntmps&&Zmq xs svs
theorem Zfh{fn:Func}(h:fn.body.isSome=true):fn.body=some (Zis fn):=by
 unfold Zis
 cases hb:fn.body with
 | none=>rw[hb]at h;cases h
 | some c=>rfl
theorem Zbq(E:Env)(m:Mem):∀c:Code,ZaD (E.at m) c=ZaD E c
 | .region _ _ _=>rfl
 | .seq a b=>by simp only[ZaD,Zbq E m a,Zbq E m b];rfl
 | .cond _ a b=>by simp only[ZaD,Zbq E m a,Zbq E m b]
 | .block _ a=>by simp only[ZaD,Zbq E m a]
 | .loop a=>by simp only[ZaD,Zbq E m a];rfl
 | .rangeFunc _ _ a b=>by simp only[ZaD,Zbq E m a,Zbq E m b]
 | .scope a=>by simp only[ZaD,Zbq E m a]
 | .skip=>rfl
 | .label _=>rfl
 | .goto _=>rfl
 | .exit _=>rfl
 | .ret=>rfl
 | .refuse _=>rfl
theorem Zae{E:Env}(hE:E.ok)(dR:E.P.follows .mixedOrders=true){g:FuncId}{fn:Func}(hf:E.P.funcs[g]?=some fn){m:Mem}{R:Value->Mem->List (List Value)->Prop}(svs:List SV)(xs:List Box)
  (cC:Zx5 E fn svs xs=true) (h:FW E fn svs xs m R):CX E.P g (svs.map (Zqd xs)).toArray m xs R:=by
 simp only[Zx5,Bool.and_eq_true,Bool.not_eq_true']at cC
 obtain⟨⟨⟨⟨⟨⟨⟨h1,h2⟩,h3⟩,h4⟩,h5⟩,h8⟩,h6⟩,h7⟩:=cC
 exact ZvX (E:=E.at m) hE (Zlh _) (Zir (E:=E.at m) hE dR) hf h1 (Zfh h2) (by rw[Zbq];exact h3) h4 h5 (show E.yl=none by simpa using h8) (λmm fE=>Option.some.inj fE) svs xs h6 h7 h
theorem ZaX(E:Env)(l:Nat)(xs:List (List Value)):∀c:Code,ZaD (E.yields l xs) c=ZaD E c
 | .region _ _ _=>rfl
 | .seq a b=>by simp only[ZaD,ZaX E l xs a,ZaX E l xs b];rfl
 | .cond _ a b=>by simp only[ZaD,ZaX E l xs a,ZaX E l xs b]
 | .block _ a=>by simp only[ZaD,ZaX E l xs a]
 | .loop a=>by simp only[ZaD,ZaX E l xs a];rfl
 | .rangeFunc _ _ a b=>by simp only[ZaD,ZaX E l xs a,ZaX E l xs b]
 | .scope a=>by simp only[ZaD,ZaX E l xs a]
 | .skip=>rfl
 | .label _=>rfl
 | .goto _=>rfl
 | .exit _=>rfl
 | .ret=>rfl
 | .refuse _=>rfl
def FWI(E:Env)(fn:Func)(first captured:List Value)(m:Mem)(xs:List (List Value)):Prop:=
 ∀l,W (E.yields l xs) (Zbd (E.yields l xs)) (Zis fn) (Zx0 E fn.results.toList xs.length) (S0 ((first++.func (.yield l) #[] #[]::captured).map .v) []) m
def Zx6(E:Env)(fn:Func)(k:Nat):Bool:=
 !(fn.name == "runtime.NumGoroutine")&&fn.body.isSome&&ZaD E (Zis fn)&&ZbC fn.ntmps (Zis fn)&&Nat.ble (k+1) fn.ntmps
theorem Zo3{E:Env}(hE:E.ok)(dR:E.P.follows .mixedOrders=true){g:FuncId}{fn:Func}(hf:E.P.funcs[g]?=some fn){m:Mem}(first captured:List Value)(xs:List (List Value))
  (cC:Zx6 E fn (first.length+captured.length)=true) (h:FWI E fn first captured m xs):IX E.P g first captured m xs:=by
 simp only[Zx6,Bool.and_eq_true,Bool.not_eq_true']at cC
 obtain⟨⟨⟨⟨h1,h2⟩,h3⟩,h4⟩,h5⟩:=cC
 exact ZvY (Zbd:=Zbd) hE hf h1 (Zfh h2) h4 first captured xs h5 λl=>
  ⟨Zlh _,Zir (E:=E.yields l xs) hE dR,by rw[ZaX];exact h3,h l⟩
end Go.Eng
namespace Go.Eng
open Go Go.RowKit
set_option maxRecDepth 100000
def Zwd:List ResultVar->Nat
 | [.tmp d]=>d
 | _=>0
def Zy3(E:Env)(rs:List ResultVar)(m0:Mem)(esz:Nat)(R:Value->Mem->List (List Value)->Prop)(S:St)(m:Mem):Prop:=
 Zxd E S m rs λvs=>(match S.tok (E.tokOf (Zwd rs))with
  | none=>ZtA vs=.slice none 0 0
  | some t=>some t=some ⟨ZtA vs,esz⟩)/\R (ZtA vs) m []
def Zx7(E:Env)(rs:List ResultVar)(m0:Mem)(esz:Nat)(R:Value->Mem->List (List Value)->Prop):KT:=λe S m=>match e with
 | .normal=>Zy3 E rs m0 esz R S m
 | .ret=>Zy3 E rs m0 esz R S m
 | _=>False
theorem ZuA{E:Env}(hE:E.ok){Zbd:Nat->Array Oper->(St->Mem->Prop)->St->Mem->Prop}(hD:ZeX E Zbd)(gz:Zd6 E Zbd){g:FuncId}{fn:Func}{c:Code}
  (hf:E.P.funcs[g]?=some fn) (hn:(fn.name == "runtime.NumGoroutine")=false) (hb:fn.body=some c) (hc:ZaD E c=true) (hl:ZbC fn.ntmps c=true) (gG:E.yl=none)
  {m:Mem} (eI:∀mm,E.m0=some mm->m=mm) {esz:Nat} {R:Value->Mem->List (List Value)->Prop} (svs:List SV) (bS:Nat.ble svs.length fn.ntmps=true) (cC:Zmq [] svs=true)
  (h:W E Zbd c (Zx7 E fn.results.toList m esz R) (S0 svs []) m):CXT E.P g (svs.map (Zqd [])).toArray m esz R:=by
 refine⟨Zh5 hf hn (by simp[hb]),λw hs=>?_⟩
 have bC:=ZoK (n:=fn.ntmps) (xs:=[]) hs (λx hx=>by cases hx) List.nodup_nil cC (Nat.le_of_ble_eq_true bS)
 refine callsIn_wide.1 (callsIn_of_wp_marks (F:=Fence.wide) (n:=0) hf hb trivial ?_)
 refine ZcH hE hD gz c hc (.inl rfl) (YOk.none gG (λmm fE=>⟨eI mm fE,λg M w' hp k hk=>ZtK (λk hk=>by cases hk) hp k hk⟩)) (λl hl=>by cases hl) 0 hl bC h ?_
 have key:∀S' m' a' w',Zy3 E fn.results.toList m esz R S' m'->Rel (Zyo fn.ntmps m w (([]:List Box).map (·.b))) S' m' a' w'->LeavesInM Fence.wide 0 E.P fn a'.tmps (λe w'=>
   ∃v m',e=Ending.returned v/\m.le m'/\Sub m' w'/\Zh2 m m' w.heap.size/\Keep w.heap.size [] w w'/\TokOk m' w' ⟨v,esz⟩/\(∀b,(Tok.mk v esz).blk=some b->w.heap.size<=b)/\R v m' []) a'.defers .returning w':=by
  intro S' m' a' w' hk hr
  obtain⟨ms,q1,_,_⟩:=hr.defers
  refine Rel.leave ?_ ms a' w' rfl q1 hr
  clear hr q1
  intro a2 w2 ht hr
  rw[<-ht]
  obtain⟨vs,⟨cA,hk⟩,bM⟩:=Ze5 hE hr hk
  obtain⟨M,hd⟩:=hr.dom
  have gV:∀b o v,m' b o=some v->m b o=some v\/w.heap.size<=b:=λb o v hv=>by
   rcases hd.new b o v hv with h6|h6
   ·exact .inl h6
   ·rcases hd.p.2 b h6 with h6|h6
    ·exact .inr h6
    ·cases h6
  split at cA
  ·refine⟨ZtA vs,ZdN bM,ZtA vs,m',rfl,hr.le,hr.sub,gV,hd.p.1,.inl cA,λb hb=>?_,hk⟩
   rw[cA]at hb;simp[Tok.blk]at hb
  ·rename_i t ht
   cases cA
   refine⟨ZtA vs,ZdN bM,ZtA vs,m',rfl,hr.le,hr.sub,gV,hd.p.1,(hr.toks _ _ ht).1,λb hb=>?_,hk⟩
   rcases hd.p.2 b (hd.tok _ _ _ ht hb)with h6|h6
   ·exact h6
   ·cases h6
 intro e S' m' a' w' hk hr
 cases e with
 | normal=>exact key S' m' a' w' hk hr
 | ret=>exact key S' m' a' w' hk hr
 | exit _=>exact hk.elim
 | goto _=>exact hk.elim
 | panic _=>exact hk.elim
 | outgrown=>exact hk.elim
def FWT(E:Env)(fn:Func)(svs:List SV)(m:Mem)(esz:Nat)(R:Value->Mem->List (List Value)->Prop):Prop:=
 W (E.at m) (Zbd (E.at m)) (Zis fn) (Zx7 (E.at m) fn.results.toList m esz R) (S0 svs []) m
theorem ZmD{E:Env}(hE:E.ok)(dR:E.P.follows .mixedOrders=true){g:FuncId}{fn:Func}(hf:E.P.funcs[g]?=some fn){m:Mem}{esz:Nat}{R:Value->Mem->List (List Value)->Prop}(svs:List SV)
  (cC:Zx5 E fn svs []=true) (h:FWT E fn svs m esz R):CXT E.P g (svs.map (Zqd [])).toArray m esz R:=by
 simp only[Zx5,Bool.and_eq_true,Bool.not_eq_true']at cC
 obtain⟨⟨⟨⟨⟨⟨⟨h1,h2⟩,h3⟩,h4⟩,h5⟩,h8⟩,h6⟩,h7⟩:=cC
 exact ZuA (E:=E.at m) hE (Zlh _) (Zir (E:=E.at m) hE dR) hf h1 (Zfh h2) (by rw[Zbq];exact h3) h4 (show E.yl=none by simpa using h8) (λmm fE=>Option.some.inj fE) svs h6 h7 h
theorem CXT.toCX{P:Program}{g:FuncId}{args:Array Value}{m:Mem}{esz:Nat}{R:Value->Mem->List (List Value)->Prop}(h:CXT P g args m esz R):CX P g args m [] R:=
 ⟨h.1,λw h1 _ _=>(h.2 w h1).mono λ_ _ ⟨v,m',a1,a2,a3,a4,a5,_,_,a8⟩=>⟨v,m',[],a1,a2,a3,a4,a5,rfl,λi x cs hi=>by simp at hi,a8⟩⟩
theorem CXT.mono{P:Program}{g:FuncId}{args:Array Value}{m:Mem}{esz:Nat}{R R':Value->Mem->List (List Value)->Prop}(h:CXT P g args m esz R)(k:∀v m' css,m.le m'->R v m' css->R' v m' css):CXT P g args m esz R':=
 ⟨h.1,λw h1=>(h.2 w h1).mono λ_ _ ⟨v,m',a1,a2,a3,a4,a5,a6,a7,a8⟩=>⟨v,m',a1,a2,a3,a4,a5,a6,a7,k _ _ _ a2 a8⟩⟩
def Zxw(m m':Mem)(esz:Nat)(v:Value):Prop:=v=.slice none 0 0\/∃b o n c,v=.slice (some ⟨b,o,none⟩) n c/\n<=c/\m.free b/\∀q,n*esz<=q->q < c*esz->∃u,m' b (o+q)=some u
theorem CXT.room{P:Program}{g:FuncId}{args:Array Value}{m:Mem}{esz:Nat}{R:Value->Mem->List (List Value)->Prop}(h:CXT P g args m esz R):CX P g args m [] (λv m' _=>∃m1:Mem,m.le m1/\m1.le m'/\R v m1 []/\Zxw m m' esz v):=by
 refine⟨h.1,λw h1 _ _=>(h.2 w h1).mono ?_⟩
 rintro e w' ⟨v,m',a1,a2,a3,a4,a5,a6,a7,a8⟩
 rcases a6 with h6|⟨b,o0,n,c,cur,T,fr,hv,gQ,hh,bW,_,cP⟩
 ·exact⟨v,m',[],a1,a2,a3,a4,a5,rfl,λi x cs hi=>by simp at hi,m',a2,Mem.le_refl _,a8,.inl h6⟩
 ·have hv:v=.slice (some ⟨b,o0,none⟩) n c:=hv
  have hb:w.heap.size<=b:=a7 b (by simp[Tok.blk,hv])
  have bT:m.free b:=λo=>by
   cases he:m b o with
   | none=>rfl
   | some u=>have:=h1.lt he;omega
  have tL:c*esz=n*esz+(c - n)*esz:=by rw[<-Nat.add_mul];congr 1;omega
  have cP:∀o,o0+n*esz<=o->o < o0+c*esz->m' b o=none:=cP
  have bW:o0+c*esz<=cur.size:=bW
  obtain⟨P0,mR⟩:∃P0,P0=o0+n*esz:=⟨_,rfl⟩
  obtain⟨zs,ml⟩:∃zs,zs=(cur.toList.drop P0).take ((c - n)*esz):=⟨_,rfl⟩
  have gR:zs.length=(c - n)*esz:=by rw[ml];simp;omega
  have pY:∀q v,zs[q]?=some v->cur[P0+q]?=some v:=λq v hq=>by
   rw[ml,List.getElem?_take]at hq
   split at hq
   ·rw[List.getElem?_drop]at hq;simpa using hq
   ·cases hq
  have cL:m'.le (m'.addAt b P0 zs):=λb' o v hv'=>by
   simp only[Mem.addAt]
   split
   ·rename_i hc
    obtain⟨rfl,ho⟩:=hc
    cases hz:zs[o - P0]? with
    | none=>simp only[hz];exact hv'
    | some u=>
     have hq:=(List.getElem?_eq_some_iff.1 hz).1
     rw[cP o (by omega) (by omega)]at hv';cases hv'
   ·exact hv'
  have cS:∀b' o u,m'.addAt b P0 zs b' o=some u->m' b' o=some u\/(b'=b/\w'.cell? ⟨b',o,none⟩=some u):=λb' o u hu=>by
   simp only[Mem.addAt]at hu
   split at hu
   ·rename_i hc
    obtain⟨rfl,ho⟩:=hc
    cases hz:zs[o - P0]? with
    | none=>simp only[hz]at hu;exact .inl hu
    | some x=>
     simp only[hz]at hu;cases hu
     have:=pY _ _ hz
     rw[show P0+(o - P0)=o by omega]at this
     refine .inr ⟨rfl,?_⟩
     simp only[World.cell?,hh]
     simpa using this
   ·exact .inl hu
  refine⟨v,m'.addAt b P0 zs,[],a1,mLt a2 cL,λb' o u hu=>(cS b' o u hu).elim (a3 b' o u) (·.2),λb' o u hu=>(cS b' o u hu).elim (a4 b' o u) (λh=>.inr (h.1 ▸ hb)),a5,rfl,λi x cs hi=>by simp at hi,m',a2,cL,a8,.inr ⟨b,o0,n,c,hv,gQ,bT,λq iL me=>?_⟩⟩
  have bB:o0+q - P0 < zs.length:=by omega
  refine⟨zs[o0+q - P0],?_⟩
  simp only[Mem.addAt]
  rw[if_pos ⟨trivial,by omega⟩,List.getElem?_eq_getElem bB]
def Zns:List Nat->List Tok->Nat->Option Tok
 | k::ks,t::ts=>λi=>bif Nat.beq i k then some t else Zns ks ts i
 | _,_=>λ_=>none
theorem ZkF:∀{ks:List Nat} {ts:List Tok} {i:Nat} {t:Tok},Zns ks ts i=some t->∃q:Nat,ks[q]?=some i/\ts[q]?=some t
 | [],ts,i,t,h=>by simp[Zns]at h
 | k::ks,[],i,t,h=>by simp[Zns]at h
 | k::ks,t0::ts,i,t,h=>by
  by_cases hi:i=k
  ·subst hi;simp[Zns]at h;subst h;exact⟨0,rfl,rfl⟩
  ·simp only[Zns,Zas hi,cond_false]at h
   obtain⟨q,h1,h2⟩:=ZkF h
   exact⟨q+1,by simpa using h1,by simpa using h2⟩
def S0Y(svs:List SV)(xs:List Box)(ks:List Nat)(ts:List Tok):St:={ S0 svs xs with tok:=Zns ks ts,tkeys:=ks }
def Zlm(S:St):List Nat->List Tok->(List Value->Prop)->Prop
 | k::ks,t::ts,r=>match S.tok k with
  | none=>False
  | some t'=>chk (Nat.beq t'.esz t.esz) (Zlm S ks ts λtvs=>r (t'.v::tvs))
 | [],[],r=>r []
 | _,_,_=>False
theorem Zgc{S:St}:∀{ks:List Nat} {ts:List Tok} {r:List Value->Prop},Zlm S ks ts r->∃tvs,tvs.length=ts.length/\ks.length=ts.length/\(∀(i:Nat)(t:Tok)(tv:Value),ts[i]?=some t->tvs[i]?=some tv->∃k:Nat,ks[i]?=some k/\S.tok k=some ⟨tv,t.esz⟩)/\r tvs
 | [],[],r,h=>⟨[],rfl,rfl,λi t tv h=>by simp at h,h⟩
 | [],_::_,r,h=>h.elim
 | _::_,[],r,h=>h.elim
 | k::ks,t::ts,r,h=>by
  unfold Zlm at h
  cases ht:S.tok k with
  | none=>simp[ht]at h
  | some t'=>
   simp only[ht]at h
   obtain⟨h1,h2⟩:=Zag h
   have he:=Nat.eq_of_beq_eq_true h1
   obtain⟨tvs,g1,g2,g3,g4⟩:=Zgc h2
   refine⟨t'.v::tvs,by simp[g1],by simp[g2],λi t0 tv hi hv=>?_,g4⟩
   cases i with
   | zero=>
    simp at hi hv;subst hi hv
    exact⟨k,rfl,by rw[ht,<-he]⟩
   | succ i=>simpa using g3 i t0 tv (by simpa using hi) (by simpa using hv)
def Zxk(E:Env)(rs:List ResultVar)(xs:List Box)(ks:List Nat)(ts:List Tok)(R:Value->Mem->List (List Value)->List Value->Prop)(S:St)(m:Mem):Prop:=
 Zxd E S m rs λvs=>ZvB S 0 xs λcss=>Zlm S ks ts λtvs=>R (ZtA vs) (ZtE S E.frz m) css tvs
def Zx8(E:Env)(rs:List ResultVar)(xs:List Box)(ks:List Nat)(ts:List Tok)(R:Value->Mem->List (List Value)->List Value->Prop):KT:=λe S m=>match e with
 | .normal=>Zxk E rs xs ks ts R S m
 | .ret=>Zxk E rs xs ks ts R S m
 | _=>False
def Zxl(n:Nat)(m:Mem)(w:World)(B:Nat->Prop):Ctx where
 n:=n
 m0:=m
 p:=λ_ M w'=>Upd B w w'/\∀k,M k->w.heap.size<=k\/B k
 st:=by
  rintro g M M' w1 w2 ⟨h1,h2⟩ hu hg
  refine⟨⟨hu.os.trans h1.os,hu.tape.trans h1.tape,hu.output.trans h1.output,Nat.le_trans h1.size hu.size,λk hk hn=>?_,λk hk=>hu.wr k (h1.wr k hk)⟩,λk hk=>?_⟩
  ·rw[hu.block k (Nat.lt_of_lt_of_le hk h1.size) λhm=>?_,h1.block k hk hn]
   rcases h2 k hm with h|h
   ·omega
   ·exact hn h
  ·rcases hg k hk with h|h
   ·exact h2 k h
   ·have:=h1.size;exact .inl (by omega)
theorem Zqo{n:Nat}{w:World}{m:Mem}{Y:Nat->Prop}{xs:List Box}{svs:List SV}{ks:List Nat}{ts:List Tok}(hs:Sub m w)(hx:∀x∈xs,Own m w x/\x.fz=false/\¬Y x.b)(dT:(xs.map (·.b)).Nodup)(cC:Zmq xs svs=true)(hn:svs.length<=n)
  (ht:∀t∈ts,TokOk m w t/\∀b,t.blk=some b->Y b) (kC:Zvx ts) (hY:∀b,Y b->b < w.heap.size/\Wr w b):
  Rel (Zxl n (m.off Y) w (λk=>k∈xs.map (·.b)\/Y k)) (S0Y svs xs ks ts) m { tmps:=(svs.map (Zqd xs)).toArray++Array.replicate (n - (svs.map (Zqd xs)).toArray.size) undef,defers:=[] } w:=by
 have hL:∀id x,(S0Y svs xs ks ts).L id=some x->100000<=id/\xs[id - 100000]?=some x:=λid x h=>by
  simp only[S0Y,S0]at h
  cases hb:Nat.ble 100000 id with
  | false=>simp[hb]at h
  | true=>simp only[hb,cond_true]at h;exact⟨Nat.le_of_ble_eq_true hb,h⟩
 have hT:∀k t,(S0Y svs xs ks ts).tok k=some t->∃q:Nat,ks[q]?=some k/\ts[q]?=some t:=λk t h=>ZkF h
 refine⟨⟨[],rfl,List.nodup_nil,by simp⟩,by simp[Zxl];omega,?_,?_,?_,?_,?_,?_,?_,hs,Mem.off_le m Y,⟨λk=>k∈xs.map (·.b)\/Y k,⟨Upd.refl _ _,λk hk=>.inr hk⟩,λk hk=>?_,λid x hx=>?_,λk t b h1 h2=>?_,by simp,λb o v hv=>?_⟩⟩
 ·intro i sv he
  simp only[S0Y,S0]at he
  have bB:=(List.getElem?_eq_some_iff.1 he).1
  have h1:=Zjm cC i sv he
  refine⟨Zqd xs sv,?_,?_⟩
  ·cases sv with
   | v x=>rfl
   | loc id off=>
    simp only[Zxt,Bool.and_eq_true]at h1
    have h2:id - 100000 < xs.length:=Znq h1.2
    simp[St.den,S0Y,S0,Zqd,h1.1,List.getElem?_eq_getElem h2]
   | sl id n c=>
    simp only[Zxt,Bool.and_eq_true]at h1
    have h2:id - 100000 < xs.length:=Znq h1.2
    simp[St.den,S0Y,S0,Zqd,h1.1,List.getElem?_eq_getElem h2]
  ·rw[Array.getElem?_append_left (by simpa using bB)]
   simp[he]
 ·intro id x hx'
  exact(hx x (List.mem_of_getElem? (hL id x hx').2)).1
 ·intro id id' x x' h1 h2 hb
  obtain⟨g1,g2⟩:=hL _ _ h1
  obtain⟨g3,g4⟩:=hL _ _ h2
  have hi:=(List.getElem?_eq_some_iff.1 g2).1
  have:=(List.getElem?_inj (l:=xs.map (·.b)) (i:=id - 100000) (j:=id' - 100000) (by simpa using hi) dT).1 (by simp[g2,g4,hb])
  omega
 ·intro id x h1
  obtain⟨g1,g2⟩:=hL _ _ h1
  have hi:=(List.getElem?_eq_some_iff.1 g2).1
  simp only[S0Y,S0,List.mem_map,List.mem_range,bid]
  exact⟨id - 100000,hi,by omega⟩
 ·intro k t h1
  obtain⟨q,_,h2⟩:=hT k t h1
  obtain⟨g1,g2⟩:=ht t (List.mem_of_getElem? h2)
  exact⟨g1,λb hb=>⟨λid x nj e=>(hx x (List.mem_of_getElem? (hL id x nj).2)).2.2 (e ▸ g2 b hb),Mem.off_free (g2 b hb)⟩⟩
 ·intro k t h1
  obtain⟨q,h2,_⟩:=hT k t h1
  exact List.mem_of_getElem? h2
 ·intro k k' t t' b h1 h2 h3 h4
  obtain⟨q,g1,g2⟩:=hT k t h1
  obtain⟨q',g3,g4⟩:=hT k' t' h2
  have:=kC q q' t t' b g2 g4 h3 h4
  subst this
  rw[g1]at g3;exact Option.some.inj g3
 ·rcases hk with hk|hk
  ·obtain⟨x,h1,h2⟩:=List.mem_map.1 hk
   exact h2 ▸ (hx x h1).1.lt
  ·exact(hY k hk).1
 ·exact .inl (List.mem_map.2 ⟨x,List.mem_of_getElem? (hL id x hx).2,rfl⟩)
 ·obtain⟨q,_,g2⟩:=hT k t h1
  exact .inr ((ht t (List.mem_of_getElem? g2)).2 b h2)
 ·by_cases gm:Y b
  ·exact .inr (.inr gm)
  ·exact .inl (by show m.off Y b o=some v;rw[Mem.off_at gm];exact hv)
theorem TokOk.sl{m:Mem}{w:World}{t:Tok}(h:TokOk m w t):Zcf t.v=true:=by
 rcases h with h|⟨b,o0,n,c,_,_,_,h,_⟩
 ·rw[h];rfl
 ·rw[h];rfl
theorem ZuB{E:Env}(hE:E.ok){Zbd:Nat->Array Oper->(St->Mem->Prop)->St->Mem->Prop}(hD:ZeX E Zbd)(gz:Zd6 E Zbd){g:FuncId}{fn:Func}{c:Code}
  (hf:E.P.funcs[g]?=some fn) (hn:(fn.name == "runtime.NumGoroutine")=false) (hb:fn.body=some c) (hc:ZaD E c=true) (hl:ZbC fn.ntmps c=true) (hz:ZvC E.frz=true) (gG:E.yl=none)
  {m:Mem} {Y:Nat->Prop} (eI:∀mm,E.m0=some mm->m.off Y=mm) {R:Value->Mem->List (List Value)->List Value->Prop} (svs:List SV) (xs:List Box) (ks:List Nat) (ts:List Tok) (jT:Zbl ks=true) (bS:Nat.ble svs.length fn.ntmps=true) (cC:Zmq xs svs=true)
  (h:W E Zbd c (Zx8 E fn.results.toList xs ks ts R) (S0Y svs xs ks ts) m):CXY E.P g (svs.map (Zqd xs)).toArray m Y xs ts R:=by
 refine⟨Zh5 hf hn (by simp[hb]),λw hs hx dT ht kC hY=>?_⟩
 have bC:=Zqo (n:=fn.ntmps) (ks:=ks) hs hx dT cC (Nat.le_of_ble_eq_true bS) ht kC hY
 refine callsIn_wide.1 (callsIn_of_wp_marks (F:=Fence.wide) (n:=0) hf hb trivial ?_)
 refine ZcH hE hD gz c hc (.inl rfl) (YOk.none gG (λmm fE=>⟨eI mm fE,λg M w' hp k hk=>?_⟩)) (λl hl=>by cases hl) 0 hl bC h ?_
 ·rcases hp.2 k hk with h1|h1|h1
  ·exact hp.1.wr k (Wr.of_none h1)
  ·obtain⟨x,h2,rfl⟩:=List.mem_map.1 h1
   exact hp.1.wr _ (hx x h2).1.wr
  ·exact hp.1.wr k (hY k h1).2
 have key:∀S' m' a' w',Zxk E fn.results.toList xs ks ts R S' m'->Rel (Zxl fn.ntmps (m.off Y) w (λk=>k∈xs.map (·.b)\/Y k)) S' m' a' w'->LeavesInM Fence.wide 0 E.P fn a'.tmps (λe w'=>
   ∃v m' css tvs,e=.returned v/\(m.off Y).le m'/\Sub m' w'/\(∀b o u,m' b o=some u->m b o=some u\/Y b\/w.heap.size<=b)/\Upd (λk=>k∈xs.map (·.b)\/Y k) w w'/\
   css.length=xs.length/\(∀(i:Nat)(x:Box)(cs:List Value),xs[i]?=some x->css[i]?=some cs->Own m' w' { x with cs:=cs })/\
   tvs.length=ts.length/\(∀(i:Nat)(t:Tok)(tv:Value),ts[i]?=some t->tvs[i]?=some tv->Zcf tv=true/\TokOk m' w' ⟨tv,t.esz⟩/\∀b,(Tok.mk tv t.esz).blk=some b->(Y b\/w.heap.size<=b)/\b ∉ xs.map (·.b))/\
   Zvx ((ts.zip tvs).map λq=>⟨q.2,q.1.esz⟩)/\R v m' css tvs) a'.defers .returning w':=by
  intro S' m' a' w' hk hr
  obtain⟨ms,q1,_,_⟩:=hr.defers
  refine Rel.leave ?_ ms a' w' rfl q1 hr
  clear hr q1
  intro a2 w2 qG hr
  rw[<-qG]
  obtain⟨vs,hk,bM⟩:=Ze5 hE hr hk
  obtain⟨css,h1,h2,hk⟩:=Zhk hk
  obtain⟨tvs,k1,k2,k3,h5⟩:=Zgc hk
  obtain⟨M,hd⟩:=hr.dom
  simp only[ZvC,Bool.and_eq_true]at hz
  have oU:=ZaN hz.1
  have jF:=ZaN jT
  obtain⟨f1,f2,f3⟩:=Zq5 hr oU
  have frzlt:∀id∈E.frz,id < 100000:=λid cO=>Znq (List.all_eq_true.1 hz.2 id cO)
  have boxOf:∀b,b∈xs.map (·.b)->∃(i:Nat)(x:Box)(cs:List Value),xs[i]?=some x/\x.b=b/\S'.L (bid i)=some { x with cs:=cs }:=λb hb=>by
   obtain⟨y,hy,gm⟩:=List.mem_map.1 hb
   obtain⟨i,hi⟩:=List.getElem?_of_mem hy
   obtain⟨cs,_,iG⟩:=h2 i y hi
   exact⟨i,y,cs,hi,gm,by rw[Nat.zero_add]at iG;exact iG⟩
  have tokY:∀(i:Nat)(t:Tok)(tv:Value),ts[i]?=some t->tvs[i]?=some tv->∃k:Nat,ks[i]?=some k/\S'.tok k=some ⟨tv,t.esz⟩:=k3
  have frzNb:∀id∈E.frz,∀x,S'.L id=some x->x.b ∉ xs.map (·.b):=λid cO x eR hm=>by
   obtain⟨i,y,cs,_,gm,iG⟩:=boxOf _ hm
   have:=hr.apart _ _ _ _ eR iG gm.symm
   have:=frzlt id cO
   simp only[bid]at *
   omega
  refine⟨ZtA vs,ZdN bM,ZtA vs,ZtE S' E.frz m',css,tvs,rfl,mLt hr.le f1,f2,?_,hd.p.1,h1,?_,k1,?_,?_,h5⟩
  ·intro b o u hu
   have inM:M b->m b o=some u\/Y b\/w.heap.size<=b\/b∈xs.map (·.b):=λhm=>by
    rcases hd.p.2 b hm with h|h|h
    ·exact .inr (.inr (.inl h))
    ·exact .inr (.inr (.inr h))
    ·exact .inr (.inl h)
   rcases f3 b o u hu with hv|⟨id,cO,x,eR,gu⟩
   ·rcases hd.new b o u hv with h6|h6
    ·exact .inl (Mem.off_le m Y b o u h6)
    ·rcases inM h6 with h|h|h|h
     ·exact .inl h
     ·exact .inr (.inl h)
     ·exact .inr (.inr h)
     ·exfalso
      obtain⟨i,y,cs,hi,gm,iG⟩:=boxOf b h
      have:=(hr.own _ _ iG).free (hx y (List.mem_of_getElem? hi)).2.1 o
      simp only[gm]at this
      rw[this]at hv;cases hv
   ·subst gu
    rcases inM (hd.own id x eR)with h|h|h|h
    ·exact .inl h
    ·exact .inr (.inl h)
    ·exact .inr (.inr h)
    ·exact(frzNb id cO x eR h).elim
  ·intro i x cs hi cV
   obtain⟨cs',h6,h7⟩:=h2 i x hi
   rw[cV]at h6;cases h6
   have ho:=hr.own _ _ h7
   have ni:=(hx x (List.mem_of_getElem? hi)).2.1
   refine⟨ho.cells,λ_ o=>?_,λhz'=>by simp[ni]at hz',ho.whole⟩
   show ZtE S' E.frz m' x.b o=none
   rw[Ze6 S' m' (λid cO y hy e=>frzNb id cO y hy (e ▸ List.mem_map.2 ⟨x,List.mem_of_getElem? hi,rfl⟩))]
   exact ho.free ni o
  ·intro i t tv hi hv
   obtain⟨k,g1,g2⟩:=tokY i t tv hi hv
   obtain⟨g3,g4⟩:=hr.toks k _ g2
   refine⟨g3.sl,g3.same (λ_ _=>rfl) (λb o hb hn=>?_),λb hb=>⟨?_,λhm=>?_⟩⟩
   ·rw[Ze6 S' m' (λid _ y hy e=>(g4 b hb).1 id y hy e)];exact hn
   ·rcases hd.p.2 b (hd.tok _ _ _ g2 hb)with h|h|h
    ·exact .inr h
    ·obtain⟨i,y,cs,_,gm,iG⟩:=boxOf b h
     exact((g4 b hb).1 _ _ iG gm).elim
    ·exact .inl h
   ·obtain⟨i,y,cs,_,gm,iG⟩:=boxOf b hm
    exact(g4 b hb).1 _ _ iG gm
  ·intro i j t t' b hi hj eS dS
   rw[List.getElem?_map]at hi hj
   obtain⟨⟨t0,tv⟩,gK,rfl⟩:=Option.map_eq_some_iff.1 hi
   obtain⟨⟨t0',tv'⟩,sx,rfl⟩:=Option.map_eq_some_iff.1 hj
   obtain⟨a1,a2⟩:=List.getElem?_zip_eq_some.1 gK
   obtain⟨a3,a4⟩:=List.getElem?_zip_eq_some.1 sx
   obtain⟨k,g1,g2⟩:=tokY i t0 tv a1 a2
   obtain⟨k',g3,g4⟩:=tokY j t0' tv' a3 a4
   have:=hr.tapart k k' _ _ b g2 g4 eS dS
   subst this
   have hi':=(List.getElem?_eq_some_iff.1 g1).1
   exact(List.getElem?_inj (l:=ks) (i:=i) (j:=j) hi' jF).1 (by rw[g1,g3])
 intro e S' m' a' w' hk hr
 cases e with
 | normal=>exact key S' m' a' w' hk hr
 | ret=>exact key S' m' a' w' hk hr
 | exit _=>exact hk.elim
 | goto _=>exact hk.elim
 | panic _=>exact hk.elim
 | outgrown=>exact hk.elim
def FWY(E:Env)(fn:Func)(svs:List SV)(xs:List Box)(ks:List Nat)(ts:List Tok)(m:Mem)(Y:Nat->Prop)(R:Value->Mem->List (List Value)->List Value->Prop):Prop:=
 W (E.at (m.off Y)) (Zbd (E.at (m.off Y))) (Zis fn) (Zx8 (E.at (m.off Y)) fn.results.toList xs ks ts R) (S0Y svs xs ks ts) m
theorem Zqp{E:Env}(hE:E.ok)(dR:E.P.follows .mixedOrders=true){g:FuncId}{fn:Func}(hf:E.P.funcs[g]?=some fn){m:Mem}{Y:Nat->Prop}{R:Value->Mem->List (List Value)->List Value->Prop}(svs:List SV)(xs:List Box)(ks:List Nat)(ts:List Tok)(jT:Zbl ks=true)
  (cC:Zx5 E fn svs xs=true) (h:FWY E fn svs xs ks ts m Y R):CXY E.P g (svs.map (Zqd xs)).toArray m Y xs ts R:=by
 simp only[Zx5,Bool.and_eq_true,Bool.not_eq_true']at cC
 obtain⟨⟨⟨⟨⟨⟨⟨h1,h2⟩,h3⟩,h4⟩,h5⟩,h8⟩,h6⟩,h7⟩:=cC
 exact ZuB (E:=E.at (m.off Y)) hE (Zlh _) (Zir (E:=E.at (m.off Y)) hE dR) hf h1 (Zfh h2) (by rw[Zbq];exact h3) h4 h5 (show E.yl=none by simpa using h8) (λmm fE=>Option.some.inj fE) svs xs ks ts jT h6 h7 h
theorem CXY.mono{P:Program}{g:FuncId}{args:Array Value}{m:Mem}{Y:Nat->Prop}{X:List Box}{ts:List Tok}{R R':Value->Mem->List (List Value)->List Value->Prop}(h:CXY P g args m Y X ts R)(k:∀v m' css tvs,(m.off Y).le m'->R v m' css tvs->R' v m' css tvs):CXY P g args m Y X ts R':=
 ⟨h.1,λw h1 h2 h3 h4 h5 h6=>(h.2 w h1 h2 h3 h4 h5 h6).mono λ_ _ ⟨v,m',css,tvs,a1,a2,a3,a4,a5,a6,a7,a8,a9,a10,a11⟩=>⟨v,m',css,tvs,a1,a2,a3,a4,a5,a6,a7,a8,a9,a10,k _ _ _ _ a2 a11⟩⟩
end Go.Eng
namespace Go.Eng
open Go Go.RowKit
def zok(i:TI):Bool:=Nat.beq i.zero.cells.size i.size&&Zcp i.zero.cells.toList&&(i.agg||Nat.beq i.size 1)
structure TRow (P:Program)(t:TypeId)(i:TI):Prop where
 und:P.underlying t=some i.d
 info:(P.info? t).map (λx=>(x.size,x.zero,x.bytes))=some (i.size,some i.zero,i.bytes)
 ok:zok i=true
theorem TRow.tok{P:Program}{t:TypeId}{i:TI}(h:TRow P t i):TOk P t i:=by
 have hz:=h.ok
 simp only[zok,Bool.and_eq_true,Bool.or_eq_true]at hz
 refine⟨h.und,?_,Nat.eq_of_beq_eq_true hz.1.1,ZgG hz.1.2,λha=>?_⟩
 ·obtain⟨x,hx,e⟩:=Option.map_eq_some_iff.1 h.info
  simp only[Prod.mk.injEq]at e
  exact⟨x,hx,e.1,e.2.1,e.2.2⟩
 ·rcases hz.2 with h1|h1
  ·rw[ha]at h1;cases h1
  ·exact Nat.eq_of_beq_eq_true h1
def ZvE:List (Nat×TI)->Nat->Option TI
 | [],_=>none
 | q::l,t=>bif Nat.beq t q.1 then some q.2 else ZvE l t
def Zxm(P:Program):List (Nat×TI)->Prop
 | []=>True
 | q::l=>TRow P q.1 q.2/\Zxm P l
theorem Zrl{P:Program}:∀{l:List (Nat×TI)},Zxm P l->∀t i,ZvE l t=some i->TOk P t i
 | [],_,t,i,h=>by simp[ZvE]at h
 | q::l,hl,t,i,h=>by
  simp only[ZvE]at h
  cases hb:Nat.beq t q.1 with
  | true=>
   simp only[hb,cond_true,Option.some.injEq]at h
   rw[Nat.eq_of_beq_eq_true hb,<-h];exact hl.1.tok
  | false=>simp only[hb,cond_false]at h;exact Zrl hl.2 t i h
abbrev ZaM(l:List (Option Box)):Prop:=l=l
abbrev Ret(u:Value):Value->Mem->List (List Value)->Prop:=λv _ _=>v=u
theorem Zac{m m':Mem}{R:Value->Mem->List (List Value)->Prop}{v:Value}(h:m.le m')(k:R v m []):∃m'':Mem,m.le m''/\m''.le m'/\R v m'' []:=⟨m,Mem.le_refl m,h,k⟩
theorem Zrm{m m':Mem}{R:Value->Mem->List (List Value)->Prop}{v:Value}(h:m.le m')(k:R v m' []):∃m'':Mem,m.le m''/\m''.le m'/\R v m'' []:=⟨m',h,Mem.le_refl _,k⟩
section
variable {P:Program} {g:FuncId} {args:Array Value} {m:Mem}
theorem Zan{K:Bool->Mem->Prop}{x:Bool}(h:CX P g args m [] (Ret (.bool x)))(k:∀m',m.le m'->K x m'):
  ∃R:Value->Mem->List (List Value)->Prop,True/\CX P g args m [] R/\(∀(v:Value)(m':Mem) (css:List (List Value)),R v m' css->Shape.fits .bool v=true)/\∀(b:Bool)(m':Mem),m.le m'->R (.bool b) m' []->K b m':=
 ⟨_,trivial,h,λv _ _ e=>by rw[e];rfl,λb m' hm e=>by cases e;exact k m' hm⟩
theorem ZaC{kk:IntKind}{K:Int->Mem->Prop}{x:Int}(h:CX P g args m [] (Ret (.int kk x)))(k:∀m',m.le m'->K x m'):
  ∃R:Value->Mem->List (List Value)->Prop,True/\CX P g args m [] R/\(∀(v:Value)(m':Mem) (css:List (List Value)),R v m' css->Shape.fits (.int kk) v=true)/\∀(b:Int)(m':Mem),m.le m'->R (.int kk b) m' []->K b m':=
 ⟨_,trivial,h,λv _ _ e=>by rw[e];simp[Shape.fits],λb m' hm e=>by cases e;exact k m' hm⟩
theorem Zal{s:Shape}{R:Value->Mem->List (List Value)->Prop}{Q:(Value->Mem->List (List Value)->Prop)->Prop}(h:CX P g args m [] R)(hs:∀(v:Value)(m':Mem) (css:List (List Value)),R v m' css->s.fits v=true)(k:Q R):
  ∃R:Value->Mem->List (List Value)->Prop,True/\CX P g args m [] R/\(∀(v:Value)(m':Mem) (css:List (List Value)),R v m' css->s.fits v=true)/\Q R:=⟨R,trivial,h,hs,k⟩
end
theorem ZsF{b:Bool}{p q:Prop}:br b p q↔(if b=true then p else q):=by cases b <;> simp[br]
theorem Zln{b x:Bool}{p q:Prop}(h:b=x)(k:bif x then p else q):br b p q:=by subst h;cases b <;> exact k
theorem Zao{n:Int}(h1 : -9223372036854775808<=n)(h2:n<=9223372036854775807):IntKind.i64.wrap n=n:=by
 unfold IntKind.wrap
 simp only[IntKind.bits,IntKind.signed,Bool.true_and]
 have e:(2:Int) ^ 64=18446744073709551616:=by decide
 have e':(2:Int) ^ (64 - 1)=9223372036854775808:=by decide
 simp only[e,e']
 split
 ·rename_i h
  have:=of_decide_eq_true h
  omega
 ·rename_i h
  have:¬(n % 18446744073709551616 ≥ 9223372036854775808):=λhh=>h (decide_eq_true hh)
  omega
theorem Zjr{f f':Nat}{a b a' b':List Value}(h:Value.func (.func f) a.toArray b.toArray=.func (.func f') a'.toArray b'.toArray):f=f'/\a=a'/\b=b':=by
 simpa using h
theorem Zrn{k:IntKind}{a b:Int}(h:[Value.int k a]=[Value.int k b]):a=b:=by simpa using h
theorem ZaU{a b:Bool}(h:a=b):[Value.bool a]=[Value.bool b]:=by rw[h]
end Go.Eng
namespace Go.Eng
open Go Go.RowKit Go.ChangeShapes Go.WideShapes
def Zx9(W:World):Mem:=λb o=>W.cell? ⟨b,o,none⟩
theorem Zho{H:Type}{enc:TypeId×Value->H}{P:Program}(hl:laidOutB P=true){W W':World}{sp:Nat->Bool}:∀{ts:List TypeId} {vs:List Value} {ds:List (DataW H)} {ps:List MemPlace},(∀t∈ts,P.readableRec t=true/\t < P.types.size)->DataW.TrodAll enc P W 0 (λ_=>true) true ts vs ds ps->(∀p∈ps,W.sameAt W' p)->(∀p∈ps,sp p.block=true)->DataW.TrodAll enc P W' 0 sp true ts vs ds ps
 | [],[],[],ps,_,h,_,_=>h
 | t::ts,v::vs,d::ds,ps,ht,h,hs,sy=>by
  obtain⟨p,q,h1,h2,rfl⟩:=h
  exact⟨p,q,WideElems.Trod_stays hl (ht t (by simp)).1 (ht t (by simp)).2 h1 (λx hx=>hs x (by simp[hx])) (λx hx=>sy x (by simp[hx])),Zho hl (λt' h'=>ht t' (by simp[h'])) h2 (λx hx=>hs x (by simp[hx])) (λx hx=>sy x (by simp[hx])),rfl⟩
 | [],[],_::_,_,_,h,_,_=>h.elim
 | [],_::_,_,_,_,h,_,_=>by simp[DataW.TrodAll]at h
 | _::_,[],_,_,_,h,_,_=>by simp[DataW.TrodAll]at h
 | _::_,_::_,[],_,_,h,_,_=>h.elim
theorem ZsG{H:Type}{enc:TypeId×Value->H}{P:Program}{g:FuncId}{f:Func}{s:ChangeSpec}{W:World}{args:Array Value}{ds gs:List (DataW H)}{before:List MemPlace}{tb:TypeId}(hl:laidOutB P=true)
  (jU:∀t∈f.params.toList,P.readableRec t=true/\t < P.types.size) (hW:DataW.Whole enc P f.params.toList s.vars false W args.toList ds gs before) (hv:s.vars=[])
  (hr:(s.fn H (ds++gs)).results=[.lit (.bool true)]) (ha:(s.fn H (ds++gs)).args=ds) (hw:(s.fn H (ds++gs)).vars=[]) (jV:f.resultTypes=#[tb]) (un:P.underlying tb=some .bool)
  (eQ:CX P g args (Zx9 W) [] (Ret (.bool true))):
  Calls P g args W λe W'=>∃v,e=.returned v/\s.post enc P f false true false false W args v W':=by
 refine(eQ.2 W (λ_ _ _ h=>h) (by simp) (by simp)).mono ?_
 rintro e W' ⟨v,m',css,rfl,hm,cF,cU,hk,_,_,rfl⟩
 have hb:Below W.heap.size W W':=hk.below
 have bB:∀p∈before,p.block < W.heap.size:=λp hp=>by simpa using hW.lt p hp
 have hW':=hW
 obtain⟨p,q,hA,hV,rfl,hz,hn⟩:=hW
 rw[hv]at hV
 obtain⟨rfl,rfl⟩:gs=[]/\q=[]:=by
  cases gs with
  | nil=>exact⟨rfl,hV⟩
  | cons g gs=>exact hV.elim
 refine⟨_,rfl,ds,[],p++[],[],p,[],hW',?_,?_,?_,hb.frame _,λh=>by cases h⟩
 ·rw[hr,jV]
  exact trodAll_cons_mk (shut_bool un _) trodAll_mk0
 ·rw[ha]
  exact Zho hl jU hA (λx hx=>hb.same (bB x (by simp[hx]))) (λx hx=>by simpa using bB x (by simp[hx]))
 ·rw[hw,hv];rfl
end Go.Eng