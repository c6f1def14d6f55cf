/- The engine: a reckoner over the code of a program in Lean, with its soundness; it names no program. No condition. -/
import Derived.Test.YtpjepnkiiojgfaaGreatMb
import Derived.OrdersIn
import Derived.ProofKit
import Derived.OpenShut
import Derived.JoinedCond
import Derived.Deep.Slices
set_option linter.unusedVariables false
set_option linter.unusedSimpArgs false
set_option linter.unusedSectionVars false
namespace Go.Eng
open Go Go.RowKit
theorem Zmk{F:Fence}{n:Nat}{P:Program}{c:Code}{Q:Exit->Act->World->Prop}{a:Act}{w:World}(Inv:Nat->Act->World->Prop)(h0:∃q,Inv q a w)
  (round:∀q a w,Inv q a w->c.wpIn F n P (Exit.then (λa' w'=>∃q',q' < q/\Inv q' a' w') Q) a w):(Code.loop c).wpIn F n P Q a w:=by
 classical
 have iR:∀a w,(∃q,Inv q a w)->∃q,Inv q a w/\∀q',Inv q' a w->q<=q':=by
  intro a w ⟨q,hq⟩
  induction q using Nat.strongRecOn with
  | _ q ih=>
   by_cases hh:∃q',q' < q/\Inv q' a w
   ·obtain⟨q',h1,h2⟩:=hh;exact ih q' h1 h2
   ·exact⟨q,hq,λq' hq'=>Nat.le_of_not_lt λaC=>hh ⟨q',aC,hq'⟩⟩
 let μ:Act->World->Nat:=λa w=>if h:∃q,Inv q a w then Classical.choose (iR a w h)else 0
 have hμ:∀a w (h:∃q,Inv q a w),Inv (μ a w) a w/\∀q',Inv q' a w->μ a w<=q':=λa w h=>by
  have:=Classical.choose_spec (iR a w h)
  simp only[μ,h,dif_pos];exact this
 refine wpIn_loop (λa w=>∃q,Inv q a w) μ h0 λa w hI=>?_
 refine wpIn_mono (round _ a w (hμ a w hI).1) λe a' w' he=>?_
 cases e with
 | normal=>
  obtain⟨q',h1,h2⟩:=he
  exact⟨⟨q',h2⟩,Nat.lt_of_le_of_lt ((hμ a' w' ⟨q',h2⟩).2 q' h2) h1⟩
 | _=>exact he
theorem Zcj{P:Program}{b:Frame}{a:Act}{k:List Item}{cs:List Frame}{w:World}{c:Code}:step P (lone (b.atR a (.code (.scope c)::k)) cs w)=.next (lone (b.atR a (.code c::.inScope c::k)) cs w):=
 step_lone_go (by simp[stepG,stepG.exec,Frame.atR])
theorem Zih{P:Program}{b:Frame}{a:Act}{k:List Item}{cs:List Frame}{w:World}{c:Code}:step P (lone (b.atR a (.inScope c::k)) cs w)=.next (lone (b.atR a k) cs w):=
 step_lone_go (by simp[stepG,stepG.exec,Frame.atR])
theorem Zoi{F:Fence}{n:Nat}{P:Program}{a:Act}{w:World}{Q:Exit->Act->World->Prop}{c:Code}(h:c.wpIn F n P (λe a w=>match e with
  | .goto _=>False
  | e=>Q e a w) a w):(Code.scope c).wpIn F n P Q a w:=by
 intro b k cs qN hb hr
 have h0:(lone (b.atR a (.code (.scope c)::k)) cs w).fenced P F:=fenced_calm hb hr rfl
 obtain⟨e,a₁,w₁,hq,dV⟩:=h b (.inScope c::k) cs qN hb hr
 cases e with
 | normal=>exact⟨.normal,a₁,w₁,hq,.head h0 Zcj (StepsIn.trans dV (.one (fenced_calm hb hr rfl) Zih))⟩
 | exit id=>
  have hx:exitTo id (.inScope c::k)=exitTo id k:=by simp[exitTo]
  exact⟨.exit id,a₁,w₁,hq,λk' hk=>.head h0 Zcj (dV.1 k' (by rw[hx];exact hk)),
    λhr' hk=>let ⟨k₁,h1,h2⟩:=dV.2 hr' (by rw[hx];exact hk);⟨k₁,h1,.head h0 Zcj h2⟩⟩
 | goto l=>exact hq.elim
 | ret=>exact⟨_,a₁,w₁,hq,.of_steps (.one h0 Zcj) dV⟩
 | panic ch=>exact⟨_,a₁,w₁,hq,.of_steps (.one h0 Zcj) dV⟩
 | outgrown=>exact⟨_,a₁,w₁,hq,.of_steps (.one h0 Zcj) dV⟩
theorem YOk.cold{E:Env}{C:Ctx}(h:YOk E C):YOk E.cold C:=⟨h.y,h.m0⟩
def Zc3(E:Env)(ZaW:Nat->Array Oper->(St->Mem->Prop)->St->Mem->Prop):Prop:=
 ∀{C:Ctx} {F:Fence} (_:FOk F) (_:YOk E C) (n:Nat) (id:Nat) (ops:Array Oper) {K:St->Mem->Prop} {S:St} {m:Mem} {a:Act} {w:World} {Q:Exit->Act->World->Prop},
  ZnZ C.n ops.toList=true->Rel C S m a w->ZaW id ops K S m->(∀S' m' a' w',K S' m'->Rel C S' m' a' w'->Q .normal a' w')->(Code.region id ops true).wpIn F n E.P Q a w
theorem Zb9{E:Env}(hE:E.ok){ZaW:Nat->Array Oper->(St->Mem->Prop)->St->Mem->Prop}(hD:Zdl E ZaW)(fT:Zc3 E ZaW):
  ∀(c:Code),Zar E c=true->∀{F:Fence} (_:FOk F) {C:Ctx} (_:YOk E C) (_:ROk F C) (n:Nat),Zbi C.n c=true->∀{S:St} {m:Mem} {a:Act} {w:World} {K:KT} {Q:Exit->Act->World->Prop},Rel C S m a w->W E ZaW c K S m->
   (∀e S' m' a' w',K e S' m'->Rel C S' m' a' w'->Q e a' w')->c.wpIn F n E.P Q a w
 | .skip,_,F,hF,C,hY,hR,n,_,S,m,a,w,K,Q,hr,h,hK=>wpIn_skip (hK _ _ _ _ _ h hr)
 | .label _,_,F,hF,C,hY,hR,n,_,S,m,a,w,K,Q,hr,h,hK=>wpIn_label (hK _ _ _ _ _ h hr)
 | .exit _,_,F,hF,C,hY,hR,n,_,S,m,a,w,K,Q,hr,h,hK=>wpIn_exit (hK _ _ _ _ _ h hr)
 | .ret,_,F,hF,C,hY,hR,n,_,S,m,a,w,K,Q,hr,h,hK=>wpIn_ret (hK _ _ _ _ _ h hr)
 | .region id ops draw,hc,F,hF,C,hY,hR,n,hl,S,m,a,w,K,Q,hr,h,hK=>by
  simp only[W]at h
  simp only[Zbi]at hl
  cases hj:E.joins id with
  | none=>
   simp only[hj]at h
   cases draw with
   | true=>exact fT hF hY n id ops hl hr (by simpa using h) (λS' m' a' w' hk aV=>hK _ _ _ _ _ hk aV)
   | false=>
    simp only[cond_false]at h
    exact wpIn_region (ZgN hE hF hY hl _ hr h (λS2 m2 a2 w2 hk aV=>hK _ _ _ _ _ hk aV))
  | some outs=>
   simp only[hj]at h
   obtain⟨xs,_,h1,h2⟩:=Shape.exL_elim _ _ h
   have fin:∀S' m' a' w',((S'.gh=S.gh/\S'.fo=S.fo/\ZbL S' Zfe S.ids=ZbL S Zfe S.ids/\Za1 S' Zfe S.tkeys=Za1 S Zfe S.tkeys/\Zfy S' outs λxs'=>xs'=xs)/\SameOut (Zbe ops.toList) S S'/\m.le m')->Rel C S' m' a' w'->Q .normal a' w':=by
    rintro S' m' a' w' ⟨⟨g0,gf,g1,g2,g3⟩,g4,g5⟩ aV
    obtain⟨xs',_,e2,e3,rfl⟩:=Zcq aV g3
    refine hK _ _ _ _ _ h2 ?_
    have hz:=ZdJ (A:=⟨outs,[],[],false⟩) (css:=[]) (tvs:=[]) hr.ok aV gf g4 (by simpa[ZbL,Zfe]using g1) (by simpa[Za1,Zfe]using g2) e2 rfl (by simp) rfl (by simp)
    have:ZbF S (Zbe ops.toList) ⟨outs,[],[],false⟩ S'.gh xs' [] []={ S with env:=Zbt (λi=>bif (Zbe ops.toList).any (Nat.beq i ·)then none else S.env i) outs xs' }:=by
     simp[ZbF,ZhG,Zep,g0]
    rw[this]at hz
    exact hz.forget g5 hr.le (λid x hx hf=>(hr.own id x hx).known hf)
   cases draw with
   | true=>
    simp only[cond_true]at h1
    cases eO:E.last id with
    | true=>simp only[eO,cond_true]at h1
    | false=>
    simp only[eO,cond_false]at h1
    have h1':=hD id ops _ (λS' m'=>(S'.gh=S.gh/\S'.fo=S.fo/\ZbL S' Zfe S.ids=ZbL S Zfe S.ids/\Za1 S' Zfe S.tkeys=Za1 S Zfe S.tkeys/\Zfy S' outs λxs'=>xs'=xs)/\SameOut (Zbe ops.toList) S S'/\m.le m') S m (λS' m' hs hm y=>⟨by have y':=Zdo y;rw[ZcA,ZcB]at y';exact⟨y'.1 rfl,y'.2⟩,hs,hm.le eO⟩) h1
    exact fT hF hY n id ops hl hr h1' fin
   | false=>
    simp only[cond_false]at h1
    have h1':Zwz E.cold ops (List.range ops.size) (λS' m'=>(S'.gh=S.gh/\S'.fo=S.fo/\ZbL S' Zfe S.ids=ZbL S Zfe S.ids/\Za1 S' Zfe S.tkeys=Za1 S Zfe S.tkeys/\Zfy S' outs λxs'=>xs'=xs)/\SameOut (Zbe ops.toList) S S'/\m.le m') S m:=
     Zif (E:=E.cold) (λS' m' hs hm y=>⟨by have y':=Zdo y;rw[ZcA,ZcB]at y';exact⟨y'.1 rfl,y'.2⟩,hs,hm⟩) h1
    exact wpIn_region (ZgN (E:=E.cold) hE hF hY.cold hl _ hr h1' fin)
 | .seq x y,hc,F,hF,C,hY,hR,n,hl,S,m,a,w,K,Q,hr,h,hK=>by
  simp only[Zar,Zbi,zA7]at hc hl
  simp only[W]at h
  cases jk:E.cuts (ZaM y)with
  | none=>
   simp only[jk]at h
   refine wpIn_seq (Zb9 hE hD fT x hc.1.1 hF hY hR n hl.1 hr h λe S' m' a' w' hk aV=>?_)
   cases e with
   | normal=>exact Zb9 hE hD fT y hc.1.2 hF hY hR n hl.2 aV hk hK
   | _=>exact hK _ _ _ _ _ hk aV
  | some A=>
   simp only[jk]at h hc
   obtain⟨J,h1,h2⟩:=h
   have h1':=Zdi hD x hc.1.1 (K':=λe S' m'=>(match e with
    | .normal=>Zjw A.gh S'.gh S.gh S'.fo S.fo (Zlk (ZbL S' A S.ids) (ZbL S A S.ids) (Zll (Za1 S' A S.tkeys) (Za1 S A S.tkeys) (Zfy S' A.slots λxs=>Zha S' A.boxes λcss=>ZeF S' A.toks λtvs=>J (ghs A.gh S'.gh xs) css tvs m')))
    | e=>K e S' m')/\SameOut (Zg2 x) S S'/\leT E.thaw m m') (λe S' m' hs hm y=>⟨y,hs,hm⟩) h1
   refine wpIn_seq (Zb9 hE hD fT x hc.1.1 hF hY hR n hl.1 hr h1' ?_)
   rintro e S' m' a' w' ⟨hk,hs,fq⟩ aV
   cases e with
   | normal=>
    obtain⟨r0,rf,hk⟩:=Zdo hk
    obtain⟨r1,hk⟩:=ZcA.1 hk
    obtain⟨r2,hk⟩:=ZcB.1 hk
    obtain⟨xs,f1,f2,f3,hk⟩:=Zcq aV hk
    obtain⟨css,g1,g2,hk⟩:=ZcT hk
    obtain⟨tvs,k1,k2,hJ⟩:=Zb1 hk
    have eG:∀v∈tvs,ZbT v=true:=λv hv=>by
     obtain⟨i,hi⟩:=List.getElem?_of_mem hv
     have aC:=(zA0 hi).1
     obtain⟨qe,jp⟩:∃qe,A.toks[i]?=some qe:=⟨_,zA3 (by omega)⟩
     exact(k2 i qe.1 qe.2 v jp hi).1
    exact Zb9 hE hD fT y hc.1.2 hF hY hR n hl.2 (ZdJ hr.ok aV rf hs r1 r2 f2 g1 g2 k1 k2) (Zds (Zdr (Shape.allL_fits _ _ (Zf5 h2 r0) xs f1) css g1) tvs k1 eG m' fq hJ) hK
   | _=>exact hK _ _ _ _ _ hk aV
 | .cond c x y,hc,F,hF,C,hY,hR,n,hl,S,m,a,w,K,Q,hr,h,hK=>by
  simp only[Zar,Zbi,zA7]at hc hl
  obtain⟨v,hv,h⟩:=Zav h
  obtain⟨h1,h2⟩:=Zag h
  obtain⟨b,rfl⟩:∃b,v=.bool b:=⟨_,ZbC h1⟩
  simp only[Zcx]at h2
  refine wpIn_cond (hr.ev hv) ?_
  cases b
  ·exact Zb9 hE hD fT y hc.2 hF hY hR n hl.2 hr h2 hK
  ·exact Zb9 hE hD fT x hc.1 hF hY hR n hl.1 hr h2 hK
 | .block id x,hc,F,hF,C,hY,hR,n,hl,S,m,a,w,K,Q,hr,h,hK=>by
  simp only[Zar,Zbi]at hc hl
  simp only[W]at h
  refine wpIn_block (Zb9 hE hD fT x hc hF hY hR n hl hr h λe S' m' a' w' hk aV=>?_)
  cases e with
  | exit id'=>
   simp only at hk
   simp only[Exit.inBlock]
   cases hb:Nat.beq id' id with
   | true=>
    simp only[hb,cond_true]at hk
    rw[if_pos (Nat.eq_of_beq_eq_true hb)]
    exact hK _ _ _ _ _ hk aV
   | false=>
    simp only[hb,cond_false]at hk
    rw[if_neg (λe=>by subst e;simp at hb)]
    exact hK _ _ _ _ _ hk aV
  | _=>exact hK _ _ _ _ _ hk aV
 | .loop x,hc,F,hF,C,hY,hR,n,hl,S,m,a,w,K,Q,hr,h,hK=>by
  simp only[Zar,Zbi,zA7]at hc hl
  simp only[W]at h
  obtain⟨I,h1,h2⟩:=h
  generalize hA:E.loops (ZaM x)=A at *
  obtain⟨xs,f1,f2,f3,h1⟩:=Zcq hr h1
  obtain⟨css,g1,g2,h1⟩:=ZcT h1
  obtain⟨tvs,k1,k2,q,h1⟩:=Zb1 h1
  have cE:=hr.ok
  refine Zmk (λq a w=>∃g xs css tvs m',(A.gh=false->g=S.gh)/\Shape.fitsL (A.slots.map (·.2)) xs=true/\css.length=A.boxes.length/\tvs.length=A.toks.length/\(∀v∈tvs,ZbT v=true)/\leT E.thaw m m'/\I (ghs A.gh g xs) css tvs m' q/\Rel C (ZbF S (Zg2 x) A g xs css tvs) m' a w) ?_ ?_
  ·refine⟨q,S.gh,xs,css,tvs,m,λ_=>rfl,f1,g1,k1,λv hv=>?_,leT.refl _ m,h1,?_⟩
   ·obtain⟨i,hi⟩:=List.getElem?_of_mem hv
    have aC:=(zA0 hi).1
    obtain⟨qe,jp⟩:∃qe,A.toks[i]?=some qe:=⟨_,zA3 (by omega)⟩
    exact(k2 i qe.1 qe.2 v jp hi).1
   ·exact ZdJ cE hr rfl (SameOut.refl _ _) rfl rfl f2 g1 g2 k1 k2
  ·rintro q a w ⟨g,xs,css,tvs,m',hg,f1,g1,k1,k2,hm,hI,aV⟩
   have hb:=Zds (Zdr (Shape.allL_fits _ _ (Zf5 h2 hg) xs f1) css g1) tvs k1 k2 m' q hm hI
   have hb':=Zdi hD x hc.1 (K':=λe S' m''=>(match e with
    | .normal=>Zjw A.gh S'.gh S.gh S'.fo S.fo (Zlk (ZbL S' A S.ids) (ZbL S A S.ids) (Zll (Za1 S' A S.tkeys) (Za1 S A S.tkeys) (Zfy S' A.slots λxs'=>Zha S' A.boxes λcss'=>ZeF S' A.toks λtvs'=>∃n',n' < q/\I (ghs A.gh S'.gh xs') css' tvs' m'' n')))
    | e=>K e S' m'')/\SameOut (Zg2 x) (ZbF S (Zg2 x) A g xs css tvs) S'/\leT E.thaw m' m'') (λe S' m'' hs hm y=>⟨y,hs,hm⟩) hb
   refine Zb9 hE hD fT x hc.1 hF hY hR n hl aV hb' ?_
   rintro e S' m'' a' w' ⟨hk,hs,fq⟩ jr
   cases e with
   | normal=>
    obtain⟨r0,rf,hk⟩:=Zdo hk
    obtain⟨r1,hk⟩:=ZcA.1 hk
    obtain⟨r2,hk⟩:=ZcB.1 hk
    obtain⟨xs',f1',f2',f3',hk⟩:=Zcq jr hk
    obtain⟨css',g1',g2',hk⟩:=ZcT hk
    obtain⟨tvs',k1',k2',q',aC,hI'⟩:=Zb1 hk
    have hm':leT E.thaw m m'':=leT.trans hm fq
    refine⟨q',aC,S'.gh,xs',css',tvs',m'',r0,f1',g1',k1',λv hv=>?_,hm',hI',?_⟩
    ·obtain⟨i,hi⟩:=List.getElem?_of_mem hv
     have aC:=(zA0 hi).1
     obtain⟨qe,jp⟩:∃qe,A.toks[i]?=some qe:=⟨_,zA3 (by omega)⟩
     exact(k2' i qe.1 qe.2 v jp hi).1
    ·have eM:SameOut (Zg2 x) S S':=SameOut.trans (Zc1 (S':=ZbF S (Zg2 x) A g xs css tvs) hc.2 rfl) hs
     exact ZdJ cE jr rf eM r1 r2 f2' g1' g2' k1' k2'
   | _=>exact hK _ _ _ _ _ hk jr
 | .goto _,_,F,hF,C,hY,hR,n,_,S,m,a,w,K,Q,hr,h,hK=>by simp[W]at h
 | .scope x,hc,F,hF,C,hY,hR,n,hl,S,m,a,w,K,Q,hr,h,hK=>by
  simp only[Zar,Zbi]at hc hl
  simp only[W]at h
  refine Zoi (Zb9 hE hD fT x hc hF hY hR n hl hr h λe S' m' a' w' hk aV=>?_)
  cases e with
  | goto l=>exact hk.elim
  | _=>exact hK _ _ _ _ _ hk aV
 | .rangeFunc f ps x y,hc,F,hF,C,hY,hR,n,hl,S,m,a,w,K,Q,hr,h,hK=>by
  simp only[Zar,Zbi,zA7]at hc hl
  simp only[W]at h
  exact Zmj hF hY hR n (λhF' _ hY' hR' n' hl'=>Zb9 hE hD fT x hc.1 hF' hY' hR' n' hl') (λhF' _ hY' hR' n' hl'=>Zb9 hE hD fT y hc.2 hF' hY' hR' n' hl')
   (λhk=>Zdi hD x hc.1 (λe S' m' _ hm y=>⟨y,hm⟩) hk) (λhk=>Zdi hD y hc.2 (λe S' m' _ hm y=>⟨y,hm⟩) hk) hl.2.1 hl.2.2 hl.1 hr h hK
 | .refuse _,_,F,hF,C,hY,hR,n,_,S,m,a,w,K,Q,hr,h,hK=>by simp[W]at h
def bid(j:Nat):Nat:=100000+j
def Zoj(xs:List Box):SV->Value
 | .v x=>x
 | .loc id off=>match xs[id - 100000]? with
  | some x=>.pointer (some ⟨x.b,off,none⟩)
  | none=>undef
 | .sl id n c=>match xs[id - 100000]? with
  | some x=>.slice (some ⟨x.b,0,none⟩) n c
  | none=>undef
def Zxg(xs:List Box):SV->Bool
 | .v _=>true
 | .loc id _=>Nat.ble 100000 id&&Nat.blt (id - 100000) xs.length
 | .sl id _ _=>Nat.ble 100000 id&&Nat.blt (id - 100000) xs.length
def ZjD(xs:List Box):List SV->Bool
 | []=>true
 | s::l=>Zxg xs s&&ZjD xs l
def S0(svs:List SV)(xs:List Box):St:=
 {env:=λi=>svs[i]?
  L:=λid=>bif Nat.ble 100000 id then xs[id - 100000]? else none
  ids:=(List.range xs.length).map bid
  tok:=λ_=>none
  tkeys:=[]
  gh:=0
  fo:=false }
def Zsn(E:Env)(S:St)(m:Mem):ResultVar->(Value->Prop)->Prop
 | .tmp t,k=>wv S (.tmp t) k
 | .cell t T,k=>ZeB E S m T (.tmp t) k
def Zok(tmps:Array Value):ResultVar->Sem Value
 | .tmp t=>pure (tmps.getD t undef)
 | .cell a t=>do loadVar t (<-asAddr (tmps.getD a undef))
def ZwO(E:Env)(S:St)(m:Mem):List ResultVar->(List Value->Prop)->Prop
 | [],k=>k []
 | r::l,k=>Zsn E S m r λv=>ZwO E S m l λvs=>k (v::vs)
def Zr8:List Value->Value
 | [v]=>v
 | vs=>.tuple vs.toArray
def ZuI(S:St):Nat->List Box->(List (List Value)->Prop)->Prop
 | _,[],k=>k []
 | j,x::xs,k=>match S.L (bid j)with
  | none=>False
  | some y=>{ y with cs:=x.cs }=x/\ZuI S (j+1) xs λcss=>k (y.cs::css)
def ZuJ(l:List Nat):Bool:=ZbK l&&l.all (λi=>Nat.blt i 100000)
def Zso(S:St):List Nat->Mem->Prop->Prop
 | [],_,k=>k
 | id::l,m,k=>match S.L id with
  | none=>Zso S l m k
  | some x=>bif x.fz then Zso S l m k else(m.free x.b->m.k x.b=none->Zso S l m k)
theorem ZeM{C:Ctx}{S:St}{m:Mem}{a:Act}{w:World}(hr:Rel C S m a w):∀{l:List Nat} {k:Prop},Zso S l m k->k
 | [],k,h=>h
 | id::l,k,h=>by
  unfold Zso at h
  cases hx:S.L id with
  | none=>simp only[hx]at h;exact ZeM hr h
  | some x=>
   simp only[hx]at h
   cases hz:x.fz with
   | true=>simp only[hz,cond_true]at h;exact ZeM hr h
   | false=>
    simp only[hz,cond_false]at h
    refine ZeM hr (h ((hr.own id x hx).free hz) ?_)
    cases hk:m.k x.b with
    | none=>rfl
    | some e=>
     exfalso
     obtain⟨c0,T0,f0,h7⟩:=(hr.own _ _ hx).isC
     obtain⟨es,cl,h8,_⟩:=hr.sub.k x.b e hk
     rw[h7]at h8;cases h8
def Zvb(E:Env)(S:St)(m:Mem)(k:Prop):Prop:=bif E.kF then Zso S E.frz m k else k
theorem ZjE{C:Ctx}{E:Env}{S:St}{m:Mem}{a:Act}{w:World}(hr:Rel C S m a w){k:Prop}(h:Zvb E S m k):k:=by
 unfold Zvb at h
 cases hk:E.kF with
 | true=>rw[hk]at h;exact ZeM hr h
 | false=>rw[hk]at h;exact h
def Zy6(E:Env)(rs:List ResultVar)(m0:Mem)(xs:List Box)(R:Value->Mem->List (List Value)->Prop)(S:St)(m:Mem):Prop:=
 ZwO E S m rs λvs=>ZuI S 0 xs λcss=>Zvb E S m (∃m'',m0.le m''/\m''.le (Zqu S E.frz m)/\R (Zr8 vs) m'' css)
def Zzi(E:Env)(rs:List ResultVar)(m0:Mem)(xs:List Box)(R:Value->Mem->List (List Value)->Prop):KT:=λe S m=>match e with
 | .normal=>Zy6 E rs m0 xs R S m
 | .ret=>Zy6 E rs m0 xs R S m
 | _=>False
theorem Zml{P:Program}{T:TypeId}{x v:Value}{w:World}(h:(Instr.loadAt T x).run P w=.ok v w):(do loadVar T (<-asAddr x):Sem Value).run P w=.ok v w:=by
 cases x with
 | pointer p=>
  cases p with
  | none=>simp[Instr.loadAt,Instr.sureAddr]at h
  | some p=>simpa[Instr.loadAt,Instr.sureAddr,asAddr]using h
 | _=>simp[Instr.loadAt,Instr.sureAddr]at h
theorem Zky{a b:Nat}(h:Nat.blt a b=true):a < b:=Nat.le_of_ble_eq_true h
section
variable {C:Ctx} {S:St} {m:Mem} {a:Act} {w:World}
theorem Zii{E:Env}(hE:E.ok)(hr:Rel C S m a w){r:ResultVar}{k:Value->Prop}(h:Zsn E S m r k):∃v,k v/\(Zok a.tmps r).run E.P w=.ok v w:=by
 cases r with
 | tmp t=>
  obtain⟨v,hv,hk⟩:=Zav h
  refine⟨v,hk,?_⟩
  have:=hr.ev hv
  simp only[Act.eval]at this
  simp only[Zok]
  rw[<-this];rfl
 | cell t T=>
  obtain⟨v,hk,aR⟩:=Ze5 hE hr h
  exact⟨v,hk,Zml aR⟩
theorem Zdu{E:Env}(hE:E.ok)(hr:Rel C S m a w):∀{rs:List ResultVar} {k:List Value->Prop},ZwO E S m rs k->∃vs,k vs/\(rs.mapM (Zok a.tmps)).run E.P w=.ok vs w
 | [],k,h=>⟨[],h,by simp⟩
 | r::l,k,h=>by
  obtain⟨v,h,h1⟩:=Zii hE hr h
  obtain⟨vs,hk,h2⟩:=Zdu hE hr h
  refine⟨v::vs,hk,?_⟩
  rw[List.mapM_cons]
  simp only[Sem.run_bind,h1,Result.andThen_ok,h2]
  rfl
theorem ZcW{fn:Func}{tmps:Array Value}{P:Program}{w:World}{vs:List Value}(h:(fn.results.toList.mapM (Zok tmps)).run P w=.ok vs w):(results fn tmps).run P w=.ok (Zr8 vs) w:=by
 have e:results fn tmps=(do
  let vs <-fn.results.mapM (Zok tmps)
  pure (if h:vs.size=1 then vs[0]else .tuple vs)):=rfl
 rw[e,Array.mapM_eq_mapM_toList]
 simp only[Sem.run_bind,Sem.run_map,h,Result.andThen_ok]
 match vs with
 | []=>rfl
 | [v]=>rfl
 | v::u::l=>rfl
theorem Zfi:∀{xs:List Box} {j:Nat} {k:List (List Value)->Prop},ZuI S j xs k->∃css,css.length=xs.length/\(∀(i:Nat)(x:Box),xs[i]?=some x->∃cs,css[i]?=some cs/\S.L (bid (j+i))=some { x with cs:=cs })/\k css
 | [],j,k,h=>⟨[],rfl,by simp,h⟩
 | x::xs,j,k,h=>by
  simp only[ZuI]at h
  cases hL:S.L (bid j)with
  | none=>simp[hL]at h
  | some y=>
   simp only[hL]at h
   obtain⟨h1,h2⟩:=h
   obtain⟨css,g1,g2,g3⟩:=Zfi h2
   refine⟨y.cs::css,by simp[g1],?_,g3⟩
   intro i z hi
   cases i with
   | zero=>
    simp at hi;subst hi
    refine⟨y.cs,by simp,?_⟩
    rw[Nat.add_zero,hL,<-h1]
   | succ i=>
    obtain⟨cs,h3,h4⟩:=g2 i z (by simpa using hi)
    exact⟨cs,by simpa using h3,by rw[<-h4];congr 2;omega⟩
theorem Zdv(S:St)(m:Mem):∀{l:List Nat} {b:Nat},(∀id∈l,∀x,S.L id=some x->x.b≠b)->∀o,Zqu S l m b o=m b o
 | [],b,_,o=>rfl
 | id::l,b,h,o=>by
  have ih:=Zdv S m (l:=l) (b:=b) (λi hi=>h i (by simp[hi])) o
  simp only[Zqu]
  cases hL:S.L id with
  | none=>exact ih
  | some x=>
   simp only
   cases hz:x.fz with
   | true=>exact ih
   | false=>
    simp only[cond_false]
    rw[Mem.add_other _ (Ne.symm (h id (by simp) x hL))];exact ih
theorem Zpf(hr:Rel C S m a w):∀{l:List Nat},l.Nodup->m.le (Zqu S l m)/\Sub (Zqu S l m) w/\(∀b o v,Zqu S l m b o=some v->m b o=some v\/∃id∈l,∃x,S.L id=some x/\x.b=b)
 | [],_=>⟨Mem.le_refl m,hr.sub,λb o v h=>.inl h⟩
 | id::l,hn=>by
  obtain⟨h1,h2⟩:=List.nodup_cons.1 hn
  obtain⟨i1,i2,i3⟩:=Zpf hr h2
  simp only[Zqu]
  cases hL:S.L id with
  | none=>exact⟨i1,i2,λb o v h=>(i3 b o v h).imp_right λ⟨id',h,x⟩=>⟨id',by simp[h],x⟩⟩
  | some x=>
   simp only
   cases hz:x.fz with
   | true=>exact⟨i1,i2,λb o v h=>(i3 b o v h).imp_right λ⟨id',h,x⟩=>⟨id',by simp[h],x⟩⟩
   | false=>
    simp only[cond_false]
    have dK:=(hr.own id x hL)
    have aU:(Zqu S l m).free x.b:=λo=>by
     rw[Zdv S m (λi hi y hy e=>h1 (hr.apart _ _ _ _ hy hL e ▸ hi))]
     exact dK.free hz o
    refine⟨mLt i1 (Mem.le_add aU x.cs),?_,?_⟩
    ·exact i2.add λo v hv=>dK.cell hv
    ·intro b o v hv
     by_cases hb:b=x.b
     ·exact .inr ⟨id,by simp,x,hL,hb.symm⟩
     ·rw[Mem.add_other _ hb]at hv
      exact(i3 b o v hv).imp_right λ⟨id',h,x⟩=>⟨id',by simp[h],x⟩
end
theorem Zol(S:St)(m:Mem):∀l:List Nat,(Zqu S l m).k=m.k
 | []=>rfl
 | id::l=>by
  simp only[Zqu]
  cases hL:S.L id with
  | none=>exact Zol S m l
  | some x=>
   simp only
   cases hz:x.fz with
   | true=>exact Zol S m l
   | false=>exact Zol S m l
theorem ZgP{xs:List Box}:∀{l:List SV},ZjD xs l=true->∀(i:Nat) s,l[i]?=some s->Zxg xs s=true
 | [],_,i,s,h=>by simp at h
 | x::l,h,i,s,hs=>by
  simp only[ZjD,zA7]at h
  cases i with
  | zero=>simp at hs;subst hs;exact h.1
  | succ i=>exact ZgP h.2 i s (by simpa using hs)
def Zyt(n:Nat)(m:Mem)(w:World)(bs:List Nat):Ctx where
 n:=n
 m0:=m
 me:=m
 mle:=Mem.le_refl m
 p:=λ_ M w'=>Keep w.heap.size bs w w'/\∀k,M k->(w.heap.size<=k/\k < w'.heap.size/\Wr w' k)\/k∈bs
 st:=by
  rintro g M M' w1 w2 ⟨h1,h2⟩ hu hg
  refine⟨h1.trans ⟨hu.os,hu.tape,hu.output,hu.size,λk hk hn=>hu.block k (Nat.lt_of_lt_of_le hk h1.size) λhm=>?_,hu.wr⟩,λk hk=>?_⟩
  ·rcases h2 k hm with h|h
   ·omega
   ·exact hn h
  ·rcases hg k hk with h|h
   ·exact(h2 k h).imp_left λh=>⟨h.1,Nat.lt_of_lt_of_le h.2.1 hu.size,hu.wr k h.2.1 h.2.2⟩
   ·have:=h1.size;exact .inl ⟨by omega,h.2⟩
theorem Zsp{n:Nat}{m:Mem}{w:World}{bs:List Nat}(hb:∀k∈bs,k < w.heap.size/\Wr w k){g:Int}{M:Nat->Prop}{w':World}(h:(Zyt n m w bs).p g M w')(k:Nat)(hk:M k):Wr w' k:=by
 rcases h.2 k hk with h1|h1
 ·exact h1.2.2
 ·exact h.1.wr k (hb k h1).1 (hb k h1).2
theorem ZjF{C:Ctx}{w:World}{xs:List Box}{svs:List SV}(fm:C.me=C.m0)(hs:Sub C.m0 w)(hx:∀x∈xs,Own C.m0 w x/\x.fz=false)(eJ:(xs.map (·.b)).Nodup)(cE:ZjD xs svs=true)(hn:svs.length<=C.n)(hp:C.p 0 (λk=>k∈xs.map (·.b)) w):
  Rel C (S0 svs xs) C.m0 { tmps:=(svs.map (Zoj xs)).toArray++Array.replicate (C.n - (svs.map (Zoj xs)).toArray.size) undef,defers:=[] } w:=by
 have hL:∀id x,(S0 svs xs).L id=some x->100000<=id/\xs[id - 100000]?=some x:=λid x h=>by
  simp only[S0]at h
  cases hb:Nat.ble 100000 id with
  | false=>simp[hb]at h
  | true=>simp only[hb,cond_true]at h;exact⟨Nat.le_of_ble_eq_true hb,h⟩
 refine⟨⟨[],rfl,List.nodup_nil,by simp⟩,by simp;omega,?_,?_,?_,?_,by simp[S0],by simp[S0],by simp[S0],hs,fm ▸ Mem.le_refl _,⟨_,hp,λk hk=>?_,λid x hx=>?_,λk t b ht=>by simp[S0]at ht,by simp,fm ▸ NewM.refl _ _⟩,λ_=>fm⟩
 ·intro i sv he
  simp only[S0]at he
  have aC:=(zA0 he).1
  have h1:=ZgP cE i sv he
  refine⟨Zoj xs sv,?_,?_⟩
  ·cases sv with
   | v x=>rfl
   | loc id off=>
    simp only[Zxg,zA7]at h1
    have h2:id - 100000 < xs.length:=Zky h1.2
    simp[St.den,S0,Zoj,h1.1,zA3 h2]
   | sl id n c=>
    simp only[Zxg,zA7]at h1
    have h2:id - 100000 < xs.length:=Zky h1.2
    simp[St.den,S0,Zoj,h1.1,zA3 h2]
  ·rw[Array.getElem?_append_left (by simpa using aC)]
   simp[he]
 ·intro id x hx'
  have:=zA2 (hL id x hx').2
  exact(hx x this).1
 ·intro id id' x x' h1 h2 hb
  obtain⟨g1,g2⟩:=hL _ _ h1
  obtain⟨g3,g4⟩:=hL _ _ h2
  have hi:=(zA0 g2).1
  have hi':=(zA0 g4).1
  have:=(List.getElem?_inj (l:=xs.map (·.b)) (i:=id - 100000) (j:=id' - 100000) (by simpa using hi) eJ).1 (by simp[g2,g4,hb])
  omega
 ·intro id x h1
  obtain⟨g1,g2⟩:=hL _ _ h1
  have hi:=(zA0 g2).1
  simp only[S0,List.mem_map,List.mem_range,bid]
  exact⟨id - 100000,hi,by omega⟩
 ·obtain⟨x,h1,h2⟩:=List.mem_map.1 hk
  exact h2 ▸ (hx x h1).1.lt
 ·exact List.mem_map.2 ⟨x,zA2 (hL id x hx).2,rfl⟩
theorem Zmm{n:Nat}{w:World}{m:Mem}{xs:List Box}{svs:List SV}(hs:Sub m w)(hx:∀x∈xs,Own m w x/\x.fz=false)(eJ:(xs.map (·.b)).Nodup)(cE:ZjD xs svs=true)(hn:svs.length<=n):
  Rel (Zyt n m w (xs.map (·.b))) (S0 svs xs) m { tmps:=(svs.map (Zoj xs)).toArray++Array.replicate (n - (svs.map (Zoj xs)).toArray.size) undef,defers:=[] } w:=
 ZjF (C:=Zyt n m w (xs.map (·.b))) rfl hs hx eJ cE hn ⟨Keep.refl _ _ _,λk hk=>.inr hk⟩
theorem Rel.leave{P:Program}{C:Ctx}{S:St}{m:Mem}{fn:Func}{tmps:Array Value}{R:Ending->World->Prop}(h:∀a' w',a'.tmps=tmps->Rel C S m a' w'->∃v,(results fn tmps).run P w'=.ok v w'/\R (.returned v) w'):
  ∀(ms:List Nat)(a:Act)(w:World),a.tmps=tmps->a.defers=ms.map Zg8->Rel C S m a w->LeavesInM Fence.wide 0 P fn tmps R a.defers .returning w
 | [],a,w,ht,hm,hr=>by
  rw[hm]
  simp only[List.map_nil,LeavesInM,LeavesIn]
  exact h a w ht hr
 | D::ms,a,w,ht,hm,hr=>by
  obtain⟨ms',q1,q2,q3⟩:=hr.defers
  have fq:ms'=D::ms:=by
   rw[hm]at q1
   have inj:∀(l l':List Nat),l.map Zg8=l'.map Zg8->l=l':=by
    intro l
    induction l with
    | nil=>intro l' h;cases l' <;> simp_all
    | cons x l ih=>
     intro l' h
     cases l' with
     | nil=>simp at h
     | cons y l'=>simp only[List.map_cons,List.cons.injEq]at h;rw[ih l' h.2];simpa[Zg8]using h.1
   exact(inj _ _ q1).symm
  subst fq
  have hD:=q3 D (by simp)
  rw[hm]
  simp only[List.map_cons,LeavesInM]
  refine⟨by simp,.inl ⟨D,_,rfl,run_takeDeferred hD,?_⟩⟩
  have hr':Rel C S m { a with defers:=ms.map Zg8 } (w.putObj D (.deferred none)):=by
   obtain⟨M,hd⟩:=hr.dom
   have vn:M D:=hd.mks D (by rw[hm];simp)
   have cS:∀k,k≠D->(w.putObj D (.deferred none)).heap[k]?=w.heap[k]?:=λk hk=>World.putObj_heap_other hk
   refine hr.swap rfl hr.le rfl rfl rfl rfl hr.env hr.size ⟨ms,rfl,(List.nodup_cons.1 q2).2,λD' hD'=>?_⟩ (λk o hk hm=>cS k (λe=>by rw[e,hD]at hk;cases hk;cases hm)) (λk t b ht hb=>((hr.toks k t ht).2 b hb).2) hr.fo ?_
   ·rw[cS D' (λe=>(List.nodup_cons.1 q2).1 (e ▸ hD'))];exact q3 D' (by simp[hD'])
   ·have h1:=hd.step (m':=m) (ZeK (o:=.deferred none) rfl vn) (NewM.refl _ _)
    exact⟨_,h1.p,h1.lt,h1.own,h1.tok,λD' hD'=>h1.mks D' (by rw[hm];exact List.mem_cons_of_mem _ hD'),h1.new⟩
  exact Rel.leave h ms { a with defers:=ms.map Zg8 } _ ht rfl hr'
theorem Zvc{E:Env}(hE:E.ok){ZaW:Nat->Array Oper->(St->Mem->Prop)->St->Mem->Prop}(hD:Zdl E ZaW)(fT:Zc3 E ZaW){g:FuncId}{fn:Func}{c:Code}
  (hf:E.P.funcs[g]?=some fn) (hn:(fn.name == "runtime.NumGoroutine")=false) (hb:fn.body=some c) (hc:Zar E c=true) (hl:Zbi fn.ntmps c=true) (hz:ZuJ E.frz=true) (fA:E.yl=none)
  {m:Mem} (eD:∀mm,E.m0=some mm->m=mm) {R:Value->Mem->List (List Value)->Prop} (svs:List SV) (xs:List Box) (aH:Nat.ble svs.length fn.ntmps=true) (cE:ZjD xs svs=true)
  (h:W E ZaW c (Zzi E fn.results.toList m xs R) (S0 svs xs) m):CX E.P g (svs.map (Zoj xs)).toArray m xs R:=by
 refine⟨ZfU hf hn (by simp[hb]),λw hs hx eJ=>?_⟩
 have aV:=Zmm (n:=fn.ntmps) hs hx eJ cE (Nat.le_of_ble_eq_true aH)
 refine callsIn_wide.1 (callsIn_of_wp_marks (F:=Fence.wide) (n:=0) hf hb trivial ?_)
 refine Zb9 hE hD fT c hc (.inl rfl) (YOk.none fA (λmm fq=>⟨eD mm fq,λg M w' hp k hk=>Zsp (λk hk=>by
  obtain⟨x,h1,rfl⟩:=List.mem_map.1 hk
  exact⟨(hx x h1).1.lt,(hx x h1).1.wr⟩) hp k hk⟩)) (λl hl=>by cases hl) 0 hl aV h ?_
 have key:∀S' m' a' w',Zy6 E fn.results.toList m xs R S' m'->Rel (Zyt fn.ntmps m w (xs.map (·.b))) S' m' a' w'->LeavesInM Fence.wide 0 E.P fn a'.tmps (λe w'=>
   ∃v_1 m'_1 css,e=Ending.returned v_1/\m.le m'_1/\Sub m'_1 w'/\Zej m m'_1 w w'/\Keep w.heap.size (xs.map (·.b)) w w'/\css.length=xs.length/\(∀(i:Nat)(x:Box)(cs:List Value),xs[i]?=some x->css[i]?=some cs->Own m'_1 w' { x with cs:=cs })/\R v_1 m'_1 css) a'.defers .returning w':=by
  intro S' m' a' w' hk hr
  obtain⟨ms,q1,_,_⟩:=hr.defers
  refine Rel.leave ?_ ms a' w' rfl q1 hr
  clear hr q1
  intro a2 w2 ht hr
  rw[<-ht]
  obtain⟨vs,hk,aR⟩:=Zdu hE hr hk
  obtain⟨css,h1,h2,hk⟩:=Zfi hk
  obtain⟨m'',h3,h4,h5⟩:=ZjE hr hk
  obtain⟨M,hd⟩:=hr.dom
  refine⟨Zr8 vs,ZcW aR,Zr8 vs,m'',css,rfl,h3,?_,?_,hd.p.1,h1,?_,h5⟩
  all_goals simp only[ZuJ,zA7]at hz
  all_goals have rh:=ZaS hz.1
  all_goals obtain⟨f1,f2,f3⟩:=Zpf hr rh
  ·exact f2.less h4
  ·refine⟨λb o v hv=>?_,λb e he=>?_⟩
   rotate_left
   ·have he':=h4.k b e he
    rw[Zol]at he'
    rcases hd.new.k b e he' with h6|h6
    ·exact .inl h6
    ·rcases hd.p.2 b h6 with h6|h6
     ·exact .inr ⟨h6.1,h6.2.2⟩
     ·exfalso
      obtain⟨y,hy,eL⟩:=List.mem_map.1 h6
      obtain⟨i,hi⟩:=List.getElem?_of_mem hy
      obtain⟨cs,_,ft⟩:=h2 i y hi
      obtain⟨c0,T0,f0,h7⟩:=(hr.own _ _ ft).isC
      obtain⟨es,cl,h8,_⟩:=hr.sub.k b e he'
      simp only[eL]at h7
      rw[h7]at h8;cases h8
   rcases f3 b o v (h4 b o v hv)with hv|⟨id,cZ,x,eh,gD⟩
   ·rcases hd.new b o v hv with h6|h6
    ·exact .inl h6
    ·rcases hd.p.2 b h6 with h6|h6
     ·exact .inr ⟨h6.1,h6.2.2⟩
     ·exfalso
      obtain⟨y,hy,eL⟩:=List.mem_map.1 h6
      obtain⟨i,hi⟩:=List.getElem?_of_mem hy
      obtain⟨cs,_,ft⟩:=h2 i y hi
      have:=(hr.own _ _ ft).free (hx y hy).2 o
      simp only[eL]at this
      rw[this]at hv;cases hv
   ·right
    have h6:=hd.p.2 _ (hd.own id x eh)
    subst gD
    rcases h6 with h6|h6
    ·exact⟨h6.1,h6.2.2⟩
    ·exfalso
     obtain⟨y,hy,eL⟩:=List.mem_map.1 h6
     obtain⟨i,hi⟩:=List.getElem?_of_mem hy
     obtain⟨cs,_,ft⟩:=h2 i y hi
     have:=hr.apart _ _ _ _ eh ft eL.symm
     have aC:id < 100000:=by
      have:=List.all_eq_true.1 hz.2 id cZ
      exact Zky this
     simp only[bid]at this
     omega
  ·intro i x cs hi bL
   obtain⟨cs',h6,h7⟩:=h2 i x hi
   rw[bL]at h6;cases h6
   have ho:=hr.own _ _ h7
   have ko:=(hx x (zA2 hi)).2
   refine⟨ho.cells,λ_ o=>?_,λhz'=>by simp[ko]at hz',ho.whole⟩
   cases hv:m'' x.b o with
   | none=>rfl
   | some v=>
    have h8:=h4 _ _ _ hv
    rw[Zdv S' m' (λid cZ y hy e=>?_)]at h8
    ·have:=ho.free ko o
     simp only at this
     rw[this]at h8;cases h8
    ·have:=hr.apart _ _ _ _ hy h7 e
     have aC:id < 100000:=by
      have:=List.all_eq_true.1 hz.2 id cZ
      exact Zky this
     simp only[bid]at this
     omega
 intro e S' m' a' w' hk hr
 cases e with
 | normal=>exact key S' m' a' w' hk hr
 | ret=>exact key S' m' a' w' hk hr
 | exit _=>exact hk.elim
 | goto _=>exact hk.elim
 | panic _=>exact hk.elim
 | outgrown=>exact hk.elim
def Zx1(E:Env)(rs:List ResultVar)(n:Nat):KT:=λe S m=>match e with
 | .normal=>ZwO E S m rs λ_=>S.gh=n\/S.gh=-1
 | .ret=>ZwO E S m rs λ_=>S.gh=n\/S.gh=-1
 | _=>False
def Env.yields(E:Env)(l:Nat)(xs:List (List Value)):Env:={ E with yl:=some λl' g v=>l'=l/\0<=g/\xs[g.toNat]?=some v,m0:=none }
theorem Zvd(vs:List Value):(vs.map SV.v).map (Zoj [])=vs:=by
 induction vs with
 | nil=>rfl
 | cons v vs ih=>simp only[List.map_cons,ih];rfl
theorem Zve{E:Env}(hE:E.ok){ZaW:(E:Env)->Nat->Array Oper->(St->Mem->Prop)->St->Mem->Prop}{g:FuncId}{fn:Func}{c:Code}
  (hf:E.P.funcs[g]?=some fn) (hn:(fn.name == "runtime.NumGoroutine")=false) (hb:fn.body=some c) (hl:Zbi fn.ntmps c=true)
  {m:Mem} (first captured:List Value) (xs:List (List Value)) (aH:Nat.ble (first.length+captured.length+1) fn.ntmps=true)
  (h:∀l,Zdl (E.yields l xs) (ZaW (E.yields l xs))/\Zc3 (E.yields l xs) (ZaW (E.yields l xs))/\Zar (E.yields l xs) c=true/\W (E.yields l xs) (ZaW (E.yields l xs)) c (Zx1 E fn.results.toList xs.length) (S0 ((first++.func (.yield l) #[] #[]::captured).map .v) []) m):
  IX E.P g first captured m xs:=by
 refine⟨ZfU hf hn (by simp[hb]),λp hp l w hs qI hy=>?_⟩
 obtain⟨hD,fT,hc,h⟩:=h l
 have hE':(E.yields l xs).ok:=hE
 let C:Ctx:=⟨fn.ntmps,m,m,Mem.le_refl m,p,hp⟩
 have cE:∀vs:List Value,ZjD [] (vs.map .v)=true:=λvs=>by
  induction vs with
  | nil=>rfl
  | cons v vs ih=>simp[ZjD,Zxg,ih]
 have aV:=ZjF (C:=C) (xs:=[]) (svs:=(first++.func (.yield l) #[] #[]::captured).map .v) rfl hs (by simp) (by simp) (cE _) (by have:=Nat.le_of_ble_eq_true aH;simp;omega) (by
  have e:(λk=>k∈([]:List Box).map (·.b))=(λ_:Nat=>False):=by funext k;simp
  rw[e];exact qI)
 rw[Zvd]at aV
 refine callsIn_wide.1 (callsIn_of_wp_marks (F:=Fence.wide) (n:=0) hf hb trivial ?_)
 refine Zb9 hE' hD fT c hc (.inl rfl) (C:=C) ⟨λY hY=>by
  simp only[Env.yields,Option.some.injEq]at hY
  subst hY;exact hy,λmm fq=>by cases fq⟩ (λl hl=>by cases hl) 0 hl aV h ?_
 have key:∀S' m' a' w',ZwO E S' m' fn.results.toList (λ_=>S'.gh=xs.length\/S'.gh=-1)->Rel C S' m' a' w'->LeavesInM Fence.wide 0 E.P fn a'.tmps (λe w'=>∃v M,e=.returned v/\(∀k,M k->k < w'.heap.size)/\(p xs.length M w'\/p (-1) M w')) a'.defers .returning w':=by
  intro S' m' a' w' hk hr
  obtain⟨ms,q1,_,_⟩:=hr.defers
  refine Rel.leave ?_ ms a' w' rfl q1 hr
  clear hr q1
  intro a2 w2 ht hr
  rw[<-ht]
  obtain⟨vs,hk,aR⟩:=Zdu hE hr hk
  obtain⟨M,hd⟩:=hr.dom
  refine⟨Zr8 vs,ZcW aR,_,M,rfl,hd.lt,?_⟩
  have:=hd.p
  rcases hk with hk|hk
  ·rw[hk]at this;exact .inl this
  ·rw[hk]at this;exact .inr this
 intro e S' m' a' w' hk hr
 cases e with
 | normal=>exact key S' m' a' w' hk hr
 | ret=>exact key S' m' a' w' hk hr
 | exit _=>exact hk.elim
 | goto _=>exact hk.elim
 | panic _=>exact hk.elim
 | outgrown=>exact hk.elim
def LC{α β:Type}(T1:(α->Prop)->Prop)(T2:(β->Prop)->Prop)(ρ:α->β->Prop):Prop:=
 T1 (λ_=>True)->T2 (λy2=>∃y1,(∀K,T1 K->K y1)/\ρ y1 y2)
section comb
variable {α β:Type} {ρ:α->β->Prop}
theorem LC.false{T2:(β->Prop)->Prop}:LC (λ_:α->Prop=>False) T2 ρ:=λh=>h.elim
theorem LC.ret{a:α}{b:β}(h:ρ a b):LC (λK=>K a) (λK=>K b) ρ:=λ_=>⟨a,λ_ hK=>hK,h⟩
theorem LC.chk{c:Bool}{T1:(α->Prop)->Prop}{T2:(β->Prop)->Prop}(h:c=true->LC T1 T2 ρ):LC (λK=>chk c (T1 K)) (λK=>chk c (T2 K)) ρ:=by
 cases c
 ·exact λh=>h.elim
 ·exact h rfl
theorem LC.br{c:Bool}{T1 U1:(α->Prop)->Prop}{T2 U2:(β->Prop)->Prop}(h:LC T1 T2 ρ)(k:LC U1 U2 ρ):LC (λK=>br c (T1 K) (U1 K)) (λK=>br c (T2 K) (U2 K)) ρ:=by
 cases c
 ·exact k
 ·exact h
theorem LC.and{p q:Prop}{T1:(α->Prop)->Prop}{T2:(β->Prop)->Prop}(j1:p->q)(h:p->LC T1 T2 ρ)(mono:∀{K K':β->Prop},(∀y,K y->K' y)->T2 K->T2 K'):LC (λK=>p/\T1 K) (λK=>q/\T2 K) ρ:=λ⟨h1,h2⟩=>
 ⟨j1 h1,mono (λy ⟨y1,g1,g2⟩=>⟨y1,λK hK=>g1 K hK.2,g2⟩) (h h1 h2)⟩
theorem LC.map{γ δ:Type}{σ:γ->δ->Prop}{T1:(α->Prop)->Prop}{T2:(β->Prop)->Prop}(h:LC T1 T2 ρ)(f:α->γ)(g:β->δ)(nV:∀a b,ρ a b->σ (f a) (g b))(mono:∀{K K':β->Prop},(∀y,K y->K' y)->T2 K->T2 K'):
  LC (λK=>T1 λa=>K (f a)) (λK=>T2 λb=>K (g b)) σ:=λh1=>
 mono (λb ⟨a,g1,g2⟩=>⟨f a,λK hK=>g1 _ hK,nV _ _ g2⟩) (h h1)
end comb
abbrev LE{α:Type}(T1 T2:(α->Prop)->Prop):Prop:=LC T1 T2 Eq
theorem Zmn{l:List Value}{n:Nat}{α β:Type}{ρ:α->β->Prop}{f:Value->α}{g:Value->β}(h:∀v,ρ (f v) (g v)):LC (λK=>Zsd l n λv=>K (f v)) (λK=>Zsd l n λv=>K (g v)) ρ:=by
 unfold Zsd
 cases hl:l[n]? with
 | none=>exact LC.false
 | some v=>simp only;exact LC.ret (h v)
theorem Zsq{op:BinOp}{b:Bool}:LE (Zr7 op b) (Zr7 op b):=by
 cases op <;> first
  | exact LC.false
  | exact LC.ret rfl
theorem Zvf{op:BinOp}{k:IntKind}{a b:Int}:LE (ZwH op k a b) (ZwH op k a b):=by
 cases op <;> first
  | exact LC.false
  | exact LC.ret rfl
  | exact LC.and id (λ_=>LC.ret rfl) (λh=>h _)
theorem ZqO{op:BinOp}{k:IntKind}{a b:Int}:LE (Zh1 op k a b) (Zh1 op k a b):=by
 cases op <;> first
  | exact LC.false
  | exact LC.and id (λ_=>LC.ret rfl) (λh=>h _)
theorem Zvg{op:BinOp}{a b:ByteArray}:LE (ZwI op a b) (ZwI op a b):=by
 cases op <;> first
  | exact LC.false
  | exact LC.ret rfl
  | exact LC.and id (λ_=>LC.ret rfl) (λh=>h _)
theorem EqIs.unique{P:Program}{T:TypeId}{x y:Value}{a b:Bool}(w:World)(h:EqIs P T x y a)(k:EqIs P T x y b):a=b:=by
 have h1:=h.1 w
 rw[k.1 w]at h1
 cases h1;rfl
theorem BinIs.unique{P:Program}{op:BinOp}{T:TypeId}{x y a b:Value}(w:World)(h:BinIs P op T x y a)(k:BinIs P op T x y b):a=b:=by
 have h1:=h (.tmp 0) (.tmp 0) w
 rw[k (.tmp 0) (.tmp 0) w]at h1
 cases h1;rfl
theorem ConvIs.unique{P:Program}{s d:TypeId}{x a b:Value}(w:World)(h:ConvIs P s d x a)(k:ConvIs P s d x b):a=b:=by
 have h1:=h w
 rw[k w]at h1
 cases h1;rfl
theorem Zvh{E:Env}(w:World){op:BinOp}{T:TypeId}{x y:Value}:LE (Zwy E op T x y) (Zwy E op T x y):=by
 unfold Zwy
 cases ht:E.tt T with
 | none=>exact LC.false
 | some i=>
  simp only
  cases hd:i.d <;> simp only <;> first
   | exact LC.false
   | exact LC.chk λ_=>Zvg
   | exact LC.chk λ_=>Zsq
   | (refine LC.chk λ_=>?_
      rintro⟨b,hb,h⟩
      exact⟨b,hb,Zic (λv ⟨v1,g1,g2⟩=>⟨v1,λK ⟨b',hb',hK⟩=>g1 K (by rw[EqIs.unique w hb hb'];exact hK),g2⟩) (Zsq h)⟩)
   | (cases hc:ZuZ op
      ·simp only[cond_false];rintro⟨v,hv,_⟩;exact⟨v,hv,v,λK ⟨v',hv',hK⟩=>(by rw[BinIs.unique w hv hv'];exact hK),rfl⟩
      ·simp only[cond_true];rintro⟨v,hv,_⟩;exact⟨v,hv,.bool v,λK ⟨v',hv',hK⟩=>(by rw[BinIs.unique w hv hv'];exact hK),rfl⟩)
   | (cases hs:ZhB op
      ·exact LC.chk λ_=>Zvf
      ·exact LC.chk λ_=>ZqO)
theorem Ztf{E:Env}(w:World){s d:TypeId}{v:Value}:LE (Zqt E s d v) (Zqt E s d v):=by
 unfold Zqt
 cases E.tt s with
 | none=>exact LC.false
 | some i=>
  cases E.tt d with
  | none=>exact LC.false
  | some j=>
   simp only
   cases i.d <;> cases j.d <;> simp only <;> first
    | exact LC.false
    | exact LC.chk λ_=>LC.ret rfl
    | (rintro⟨v,hv,_⟩;exact⟨v,hv,v,λK ⟨v',hv',hK⟩=>(by rw[ConvIs.unique w hv hv'];exact hK),rfl⟩)
theorem Zvi{E:Env}{T:TypeId}{v:Value}:LE (Zxb E T v) (Zxb E T v):=by
 unfold Zxb
 cases E.tt T with
 | none=>exact LC.false
 | some i=>
  simp only
  cases i.d <;> simp only <;> first
   | exact LC.false
   | exact LC.ret rfl
   | exact LC.chk λ_=>LC.ret rfl
theorem ZeN{α β:Type}{ρ:α->β->Prop}{x:Option Value}{d y:Nat}{U1:Nat->(α->Prop)->Prop}{U2:Nat->(β->Prop)->Prop}(h:∀n,LC (U1 n) (U2 n) ρ)(mono:∀n {K K':β->Prop},(∀y,K y->K' y)->U2 n K->U2 n K'):
  LC (λK=>ZfT x d y λn=>U1 n K) (λK=>ZfT x d y λn=>U2 n K) ρ:=by
 cases x with
 | none=>exact h d
 | some v=>exact LC.chk λ_=>LC.and id (λ_=>h _) (mono _)
theorem Zpg{α β:Type}{ρ:α->β->Prop}{place:Nat->Option (Nat×Nat)}{f:List Value->α}{g:List Value->β}(h:∀v,ρ (f v) (g v)):∀{parts:List (Nat×Value)} {cs:List Value},LC (λK=>Zli place cs parts λr=>K (f r)) (λK=>Zli place cs parts λr=>K (g r)) ρ
 | [],cs=>LC.ret (h cs)
 | (i,v)::rest,cs=>by
  simp only[Zli]
  cases place i with
  | none=>exact LC.false
  | some os=>exact LC.chk λ_=>Zpg h
theorem ZqP{E:Env}{T:TypeId}{v:Value}{lo hi mx:Option Value}:LE (Zg9 E T v lo hi mx) (Zg9 E T v lo hi mx):=by
 unfold Zg9
 cases ZgJ E T with
 | some sz=>
  simp only
  exact LC.chk λ_=>ZeN (λm=>ZeN (λh=>ZeN (λl=>LC.chk λ_=>LC.ret rfl) (λl K K' hh=>Zah (hh _))) (λh K K' hh=>Zbk (λl=>Zah (hh _)))) (λm K K' hh=>Zbk (λh=>Zbk (λl=>Zah (hh _))))
 | none=>
  simp only
  cases Zd2 E T with
  | false=>exact LC.false
  | true=>exact LC.chk λ_=>ZeN (λh=>ZeN (λl=>LC.ret rfl) (λl K K' hh=>hh _)) (λh K K' hh=>Zbk (λl=>hh _))
structure Less (S1 S2:St):Prop where
 env:∀t sv,S1.env t=some sv->S2.env t=some sv
 L:∀id x,S1.L id=some x->S2.L id=some x
theorem Less.ev{S1 S2:St}(h:Less S1 S2){x:Operand}{sv:SV}(hx:S1.ev x=some sv):S2.ev x=some sv:=by
 cases x with
 | tmp t=>exact h.env t sv hx
 | _=>exact hx
theorem Less.den{S1 S2:St}(h:Less S1 S2){sv:SV}{v:Value}(hx:S1.den sv=some v):S2.den sv=some v:=by
 cases sv with
 | v u=>exact hx
 | loc id off=>
  simp only[St.den]at *
  cases hb:S1.L id with
  | none=>simp[hb]at hx
  | some b=>simp only[hb]at hx;simp only[h.L id b hb];exact hx
 | sl id n c=>
  simp only[St.den]at *
  cases hb:S1.L id with
  | none=>simp[hb]at hx
  | some b=>simp only[hb]at hx;simp only[h.L id b hb];exact hx
theorem Less.val{S1 S2:St}(h:Less S1 S2){x:Operand}{v:Value}(hx:S1.val x=some v):S2.val x=some v:=by
 unfold St.val at *
 cases he:S1.ev x with
 | none=>simp[he]at hx
 | some sv=>simp only[he]at hx;rw[h.ev he];exact h.den hx
section ops
variable {α β:Type} {ρ:α->β->Prop} {S1 S2:St}
theorem Zca(hs:Less S1 S2){x:Operand}{U1:Value->(α->Prop)->Prop}{U2:Value->(β->Prop)->Prop}(h:∀v,LC (U1 v) (U2 v) ρ):
  LC (λK=>wv S1 x λv=>U1 v K) (λK=>wv S2 x λv=>U2 v K) ρ:=by
 unfold wv
 cases hv:S1.val x with
 | none=>exact LC.false
 | some v=>simp only[hs.val hv];exact h v
theorem Zkz(hs:Less S1 S2):∀{l:List Operand} {U1:List Value->(α->Prop)->Prop} {U2:List Value->(β->Prop)->Prop} (h:∀v,LC (U1 v) (U2 v) ρ),LC (λK=>wvs S1 l λv=>U1 v K) (λK=>wvs S2 l λv=>U2 v K) ρ
 | [],U1,U2,h=>h []
 | x::l,U1,U2,h=>Zca hs (U1:=λv K=>wvs S1 l λvs=>U1 (v::vs) K) (U2:=λv K=>wvs S2 l λvs=>U2 (v::vs) K) λv=>Zkz hs (λvs=>h (v::vs))
theorem Zph(hs:Less S1 S2){x:Option Operand}{U1:Option Value->(α->Prop)->Prop}{U2:Option Value->(β->Prop)->Prop}(h:∀v,LC (U1 v) (U2 v) ρ):
  LC (λK=>ZwK S1 x λv=>U1 v K) (λK=>ZwK S2 x λv=>U2 v K) ρ:=by
 cases x with
 | none=>exact h none
 | some x=>exact Zca hs (U1:=λv K=>U1 (some v) K) (U2:=λv K=>U2 (some v) K) λv=>h (some v)
end ops
theorem Ztg{E:Env}{S1 S2:St}(w:World)(hs:Less S1 S2){o:Oper}:LE (Zcc E S1 o) (Zcc E S2 o):=by
 have hr:∀{a:SV},LE (λK:SV->Prop=>K a) (λK=>K a):=LC.ret rfl
 have gx:∀{c:Bool} {a:SV},LE (λK:SV->Prop=>Eng.chk c (K a)) (λK=>Eng.chk c (K a)):=LC.chk λ_=>LC.ret rfl
 obtain⟨dst,op,type,pos,after,guard⟩:=o
 cases op <;> unfold Zcc <;> simp only <;> try exact LC.false
 case unOp op T x=>
  refine Zca hs λv=>?_
  cases op <;> simp only <;> first
   | exact LC.false
   | exact gx
   | (cases ZbI E T <;> simp only <;> first
     | exact LC.false
     | exact gx)
 case binOp op T x y yT=>
  exact Zca hs λv=>Zca hs λv'=>(Zvh w).map _ _ (λa b e=>by rw[e]) (λh=>Zma h)
 case convert s d x=>exact Zca hs λv=>(Ztf w).map _ _ (λa b e=>by rw[e]) (λh hx=>by
  unfold Zqt at *
  (repeat' split at hx) <;> first|exact(hx:False).elim|exact Zah (h _) hx|exact hx.elim λu z=>⟨u,z.1,h _ z.2⟩)
 case makeFunc=>exact Zkz hs λv=>Zkz hs λv'=>hr
 case fieldAddr T x f=>
  cases ZgH E T f with
  | none=>exact LC.false
  | some fo=>
   simp only
   cases he:S1.ev x with
   | none=>exact LC.false
   | some sv=>
    simp only[hs.ev he]
    cases sv <;> first
     | exact LC.false
     | exact hr
     | exact gx
 case indexAddr T x i=>
  refine Zca hs λvi=>LC.chk λ_=>?_
  cases Zxa E T with
  | none=>exact LC.false
  | some ix=>
   cases he:S1.ev x with
   | none=>
    cases ix <;> simp only
    ·exact λh=>h.2.elim
    ·exact LC.false
   | some sv=>
    simp only[hs.ev he]
    cases ix <;> simp only
    ·cases sv <;> simp only
     ·exact LC.and id (λ_=>gx) (λh=>Zah (h _))
     ·exact LC.and id (λ_=>hr) (λh=>h _)
     ·exact λh=>h.2.elim
    ·cases sv <;> simp only
     ·refine LC.chk λ_=>?_
      rintro⟨b,o,h1,h2,h3⟩
      refine⟨b,o,h1,h2,_,λK ⟨b',o',g1,g2,g3⟩=>?_,rfl⟩
      rw[h1]at g1
      cases g1
      exact g3
     ·exact LC.false
     ·exact LC.and id (λ_=>hr) (λh=>h _)
 case index T x i=>
  refine Zca hs λv=>Zca hs λvi=>LC.chk λ_=>?_
  cases Zd2 E T <;> simp only[cond_true,cond_false]
  ·cases Zn7 E T with
   | none=>exact LC.false
   | some len=>exact LC.chk λ_=>LC.and id (λ_=>Zmn (λ_=>rfl)) (λh=>ZeI (λu=>h _))
  ·exact LC.chk λ_=>LC.and id (λ_=>hr) (λh=>h _)
 case build T parts=>
  cases ZgI E T with
  | none=>exact LC.false
  | some place=>exact Zkz hs λvs=>Zpg (λ_=>rfl)
 case field T x f=>
  cases Zn8 E T f with
  | none=>exact LC.false
  | some fo=>exact Zca hs λv=>LC.chk λ_=>Zmn (λ_=>rfl)
 case extract x n=>exact Zca hs λv=>LC.chk λ_=>Zmn (λ_=>rfl)
 case makeInterface T x=>exact Zca hs λv=>gx
 case nilCheck x=>
  cases he:S1.ev x with
  | none=>exact LC.false
  | some sv=>
   simp only[hs.ev he]
   cases sv <;> first
    | exact LC.false
    | exact hr
    | exact gx
 case slice T x lo hi mx=>exact Zca hs λv=>Zph hs λl=>Zph hs λh=>Zph hs λm=>ZqP.map _ _ (λa b e=>by rw[e]) (λh=>ZhH h)
 case call c=>
  split
  ·split
   ·exact Zca hs λv=>Zvi.map _ _ (λa b e=>by rw[e]) (λh y=>by
     unfold Zxb at *
     (repeat' split at y) <;> first|exact y.elim|exact Zah (h _) y|exact h _ y)
   ·exact LC.false
  ·split
   ·rename_i T _ _ _
    refine Zca hs λv=>Zca hs λv'=>?_
    split
    ·exact gx
    ·exact LC.false
   ·exact LC.false
  ·split
   ·refine Zca hs λv=>Zca hs λv'=>?_
    split
    ·exact gx
    ·exact LC.false
   ·refine Zca hs λv=>Zca hs λv'=>Zca hs λv''=>?_
    split
    ·exact gx
    ·exact LC.false
   ·exact LC.false
  ·exact LC.false
theorem CX.frame2{P:Program}{g:FuncId}{args:Array Value}{m M:Mem}{X:List Box}{R:Value->Mem->List (List Value)->Prop}(h:CX P g args m X R)(hm:m.le M):
  CX P g args M X (λv M' css=>∃m',m.le m'/\m'.le M'/\(∀b o u,M b o=some u->∀o',m' b o'=m b o')/\R v m' css):=by
 refine⟨h.1,λw hs hX eJ=>?_⟩
 have aU:∀{b o},M b o=none->m b o=none:=λ{b o} hb=>by
  cases he:m b o with
  | none=>rfl
  | some v=>rw[hm _ _ _ he]at hb;cases hb
 have hX':∀x∈X,Own m w x/\x.fz=false:=λx hx=>by
  obtain⟨ho,hz⟩:=hX x hx
  exact⟨⟨ho.cells,λ_ o=>aU (ho.free hz o),λhz'=>by simp[hz]at hz',ho.whole⟩,hz⟩
 refine(h.2 w (hs.less hm) hX' eJ).mono ?_
 rintro e w' ⟨v,m',css,rfl,a2,a3,a4,a5,a6,a7,a8⟩
 have bU:m'.le (M.or m'):=⟨λb o u hu=>by
  cases hM:M b o with
  | none=>simp[Mem.or,hM,hu]
  | some u'=>
   rcases a4 b o u hu with h1|h1
   ·rw[hm _ _ _ h1]at hM;cases hM;simp[Mem.or,hm _ _ _ h1]
   ·have:=hs.lt hM;omega,λb u hu=>by
  cases hM:M.k b with
  | none=>simp[Mem.or,hM,hu]
  | some u'=>
   rcases a4.k b u hu with h1|h1
   ·rw[hm.k _ _ h1]at hM;cases hM;simp[Mem.or,hm.k _ _ h1]
   ·have:=(hs.k b u' hM).lt;omega⟩
 have bJ:∀b o u,M b o=some u->∀o',m' b o'=m b o':=λb o u hu o'=>by
  cases hm':m' b o' with
  | none=>
   cases eD:m b o' with
   | none=>rfl
   | some x=>have:=a2 _ _ _ eD;rw[hm']at this;cases this
  | some x=>
   rcases a4 b o' x hm' with h1|h1
   ·exact h1.symm
   ·have:=hs.lt hu;omega
 refine⟨v,M.or m',css,rfl,Mem.le_or _ _,?_,?_,a5,a6,?_,m',a2,bU,bJ,a8⟩
 ·refine⟨λb o u hu=>?_,λb e he=>?_⟩
  rotate_left
  ·rcases Mem.or_k he with h1|⟨h1,h2⟩
   ·refine(hs.k b e h1).same (a5.block b (hs.k b e h1).lt λcH=>?_)
    obtain⟨x,hx,rfl⟩:=List.mem_map.1 cH
    obtain⟨c0,T0,f0,h7⟩:=(hX x hx).1.isC
    obtain⟨es,cl,h8,_⟩:=hs.k _ _ h1
    rw[h7]at h8;cases h8
   ·exact a3.k b e h2
  rcases Mem.or_some hu with h1|⟨h1,h2⟩
  ·have aC:=hs.lt h1
   rw[ZbB (a5.block b aC ?_)]
   ·exact hs b o u h1
   ·intro cH
    obtain⟨x,hx,rfl⟩:=List.mem_map.1 cH
    obtain⟨ho,hz⟩:=hX x hx
    have:=ho.free hz o
    rw[h1]at this;cases this
  ·exact a3 b o u h2
 ·refine⟨λb o u hu=>?_,λb u hu=>?_⟩
  ·rcases Mem.or_some hu with h1|⟨h1,h2⟩
   ·exact .inl h1
   ·rcases a4 b o u h2 with h3|h3
    ·rw[hm _ _ _ h3]at h1;cases h1
    ·exact .inr h3
  ·rcases Mem.or_k hu with h1|⟨h1,h2⟩
   ·exact .inl h1
   ·rcases a4.k b u h2 with h3|h3
    ·rw[hm.k _ _ h3]at h1;cases h1
    ·exact .inr h3
 ·intro i x cs hi bL
  have ho:=a7 i x cs hi bL
  obtain⟨lS,hz⟩:=hX x (zA2 hi)
  refine⟨ho.cells,λ_ o=>?_,λhz'=>by simp[hz]at hz',ho.whole⟩
  simp only[Mem.or,lS.free hz o]
  exact ho.free hz o
theorem CX.frame{P:Program}{g:FuncId}{args:Array Value}{m M:Mem}{X:List Box}{R:Value->Mem->List (List Value)->Prop}(h:CX P g args m X R)(hm:m.le M):
  CX P g args M X (λv M' css=>∃m',m.le m'/\m'.le M'/\R v m' css):=(h.frame2 hm).mono λ_ _ _ _ ⟨m',a1,a2,_,a4⟩=>⟨m',a1,a2,a4⟩
theorem CXT.frame{P:Program}{g:FuncId}{args:Array Value}{m M:Mem}{esz:Nat}{R:Value->Mem->List (List Value)->Prop}(h:CXT P g args m esz R)(hm:m.le M):
  CXT P g args M esz (λv M' _=>∃m',m.le m'/\m'.le M'/\R v m' []):=by
 refine⟨h.1,λw hs=>(h.2 w (hs.less hm)).mono ?_⟩
 rintro e w' ⟨v,m',rfl,a2,a3,a4,a5,a6,a7,a8⟩
 have bU:m'.le (M.or m'):=⟨λb o u hu=>by
  cases hM:M b o with
  | none=>simp[Mem.or,hM,hu]
  | some u'=>
   rcases a4 b o u hu with h1|h1
   ·rw[hm _ _ _ h1]at hM;cases hM;simp[Mem.or,hm _ _ _ h1]
   ·have:=hs.lt hM;omega,λb u hu=>by
  cases hM:M.k b with
  | none=>simp[Mem.or,hM,hu]
  | some u'=>
   rcases a4.k b u hu with h1|h1
   ·rw[hm.k _ _ h1]at hM;cases hM;simp[Mem.or,hm.k _ _ h1]
   ·have:=(hs.k b u' hM).lt;omega⟩
 refine⟨v,M.or m',rfl,Mem.le_or _ _,⟨λb o u hu=>?_,λb e he=>?_⟩,⟨λb o u hu=>?_,λb u hu=>?_⟩,a5,a6.same (λ_ _=>rfl) (λb o hb hn=>?_),a7,m',a2,bU,a8⟩
 ·rcases Mem.or_some hu with h1|⟨h1,h2⟩
  ·have aC:=hs.lt h1
   rw[ZbB (a5.block b aC (by simp))]
   exact hs b o u h1
  ·exact a3 b o u h2
 ·rcases Mem.or_k he with h1|⟨h1,h2⟩
  ·exact(hs.k b e h1).same (a5.block b (hs.k b e h1).lt (by simp))
  ·exact a3.k b e h2
 ·rcases Mem.or_some hu with h1|⟨h1,h2⟩
  ·exact .inl h1
  ·rcases a4 b o u h2 with h3|h3
   ·rw[hm _ _ _ h3]at h1;cases h1
   ·exact .inr h3
 ·rcases Mem.or_k hu with h1|⟨h1,h2⟩
  ·exact .inl h1
  ·rcases a4.k b u h2 with h3|h3
   ·rw[hm.k _ _ h3]at h1;cases h1
   ·exact .inr h3
 ·cases hM:M b o with
  | none=>simp[Mem.or,hM,hn]
  | some u=>have:=a7 b hb;have:=hs.lt hM;omega
theorem Zd8{m:Mem}{b o:Nat}{xs ys:List Value}(h:m.reads b o xs)(k:m.reads b o ys)(hl:xs.length=ys.length):xs=ys:=by
 refine List.ext_getElem hl λi h1 h2=>?_
 have a:=h i _ (zA3 h1)
 have b:=k i _ (zA3 h2)
 rw[a]at b;exact Option.some.inj b
theorem Zd9{m:Mem}{a:Option Addr}{xs ys:List Value}(h:rowRd m a xs)(k:rowRd m a ys)(hl:xs.length=ys.length):xs=ys:=by
 rcases h with h|⟨b,o,h1,h2⟩
 ·subst h;simp at hl;exact(List.eq_nil_of_length_eq_zero hl.symm).symm
 ·rcases k with k|⟨b',o',k1,k2⟩
  ·subst k;simpa using hl
  ·rw[h1]at k1;cases k1
   exact Zd8 h2 k2 hl
theorem Zom{i:TI}{m M:Mem}(hm:m.le M){b o:Nat}:LE (Zem i m b o) (Zem i M b o):=by
 intro h
 unfold Zem at *
 cases ha:i.agg with
 | false=>
  simp only[ha,cond_false]at *
  obtain⟨v,hv,_⟩:=h
  exact⟨v,hm _ _ _ hv,v,λK ⟨v',hv',hK⟩=>by rw[hv]at hv';cases hv';exact hK,rfl⟩
 | true=>
  simp only[ha,cond_true]at *
  cases hb:Nat.ble i.size 16 with
  | true=>
   simp only[hb,cond_true]at *
   obtain⟨vs,hl,hr,_⟩:=Zh3 h
   refine ZlS vs hl ⟨hr.mono hm,_,λK hK=>?_,rfl⟩
   obtain⟨vs',hl',hr',hK⟩:=Zh3 hK
   rw[Zd8 hr hr' (by omega)];exact hK
  | false=>
   simp only[hb,cond_false]at *
   obtain⟨vs,hl,hr,_⟩:=h
   refine⟨vs,hl,hr.mono hm,_,λK ⟨vs',hl',hr',hK⟩=>?_,rfl⟩
   rw[Zd8 hr hr' (by omega)];exact hK
theorem ZjG{i:TI}{x:Box}{off:Nat}:LE (ZdB i x off) (ZdB i x off):=by
 unfold ZdB
 cases i.agg <;> simp only[cond_true,cond_false]
 ·exact Zmn (λ_=>rfl)
 ·cases(x.full&&(Nat.beq x.cap i.size&&Nat.beq off 0)) <;> simp only[cond_true,cond_false]
  ·exact LC.chk λ_=>LC.ret rfl
  ·exact LC.ret rfl
theorem ZqQ{m:Mem}{a:Option Addr}{xs ys:List Value}(hx:rowRd m a xs)(hy:rowRd m a ys)(hl:xs.length=ys.length):xs=ys:=by
 apply List.ext_getElem? λj=>?_
 rcases hx with rfl|⟨b,o,rfl,h1⟩
 ·rw[List.eq_nil_of_length_eq_zero hl.symm]
 ·rcases hy with rfl|⟨b',o',h,h2⟩
  ·rw[List.eq_nil_of_length_eq_zero hl]
  ·cases h
   by_cases hj:j < xs.length
   ·have e1:=zA3 hj
    have e2:=zA3 (hl ▸ hj:j < ys.length)
    have g1:=h1 j _ e1
    have g2:=h2 j _ e2
    rw[g1]at g2
    rw[e1,e2,g2]
   ·rw[List.getElem?_eq_none_iff.2 (by omega),List.getElem?_eq_none_iff.2 (by omega)]
theorem ZkA{s t:ByteArray}(h:ZaT s=ZaT t):s=t:=by
 unfold ZaT at h
 have:s.data.toList=t.data.toList:=by
  refine(List.map_inj_right λx y e=>?_).1 h
  simp only[Value.int.injEq,true_and]at e
  exact UInt8.toNat_inj.1 (by omega)
 have h2:s.data=t.data:=Array.ext' this
 cases s;cases t
 simpa using h2
theorem Zon{S1 S2:St}(hs:Less S1 S2){m M:Mem}(hm:m.le M){x:Operand}:LE (ZdH S1 m x) (Zbs S2 M x):=by
 intro h
 refine ZhF ?_
 unfold ZdH at *
 split at h
 ·rename_i v he
  obtain⟨h1,bs,h2,h3,_⟩:=Zag h
  simp only[hs.ev he]
  refine Zaa h1 ⟨bs,h2,h3.mono hm,.string bs,λK hK=>?_,rfl⟩
  obtain⟨_,bs',h2',h3',hk⟩:=Zag hK
  have:bs=bs':=ZkA (ZqQ h3 h3' (by rw[ZbZ,ZbZ,h2,h2']))
  rw[this];exact hk
 ·exact h.elim
theorem Zpi{E:Env}{S1 S2:St}(hs:Less S1 S2){m M:Mem}(hm:m.le M){T:TypeId}{x:Operand}:LE (ZeB E S1 m T x) (ZeB E S2 M T x):=by
 unfold ZeB
 cases E.tt T with
 | none=>exact LC.false
 | some i=>
  simp only
  cases he:S1.ev x with
  | none=>exact LC.false
  | some sv=>
   simp only[hs.ev he]
   cases sv with
   | v u=>
    simp only
    cases ZeA E x with
    | none=>exact LC.chk λ_=>Zom hm
    | some id=>
     simp only
     cases hx:S1.L id with
     | none=>exact LC.false
     | some bx=>
      simp only[hs.L id bx hx]
      exact LC.chk λ_=>LC.and (λh=>h) (λ_=>ZjG) (λh=>Zd5 h)
   | loc id off=>
    simp only
    cases hx:S1.L id with
    | none=>exact LC.false
    | some bx=>simp only[hs.L id bx hx];exact ZjG
   | sl id n c=>exact LC.false
structure OutB (rs:List Nat)(tk:Option Nat)(g:Bool)(m M:Mem)(S1 S2:St)(y1 y2:St×Mem):Prop where
 env1:y1.1.env=S1.env
 env2:y2.1.env=S2.env
 L:∀id,(id∈rs/\y1.1.L id=y2.1.L id)\/(y1.1.L id=S1.L id/\y2.1.L id=S2.L id)
 tok:∀k,(tk=some k/\y1.1.tok k=y2.1.tok k)\/(y1.1.tok k=S1.tok k/\y2.1.tok k=S2.tok k)
 le:y1.2.le y2.2
 same:g=false->y1.2=m/\y2.2=M
 gh2:(y2.1.gh,y2.1.fo)=(S2.gh,S2.fo)
structure Out (rs:List Nat)(tk:Option Nat)(g:Bool)(m M:Mem)(dst:Option Tmp)(S1 S2:St)(y1 y2:St×Mem):Prop where
 env1:∀t sv,dst=some t->y1.1.env t=some sv->y2.1.env t=some sv
 env2:∀t,dst≠some t->y2.1.env t=S2.env t
 L:∀id,(id∈rs/\y1.1.L id=y2.1.L id)\/(y1.1.L id=S1.L id/\y2.1.L id=S2.L id)
 tok:∀k,(tk=some k/\y1.1.tok k=y2.1.tok k)\/(y1.1.tok k=S1.tok k/\y2.1.tok k=S2.tok k)
 le:y1.2.le y2.2
 same:g=false->y1.2=m/\y2.2=M
 gh2:(y2.1.gh,y2.1.fo)=(S2.gh,S2.fo)
section
variable {rs:List Nat} {tk:Option Nat} {g:Bool} {m M:Mem} {S1 S2:St}
theorem ZyF(S:St)(d:Option Tmp)(x:Option SV):(S.put d x).L=S.L:=by cases d <;> rfl
theorem Zvj(S:St)(d:Option Tmp)(x:Option SV):(S.put d x).tok=S.tok:=by cases d <;> rfl
theorem OutB.put{y1 y2:St×Mem}(h:OutB rs tk g m M S1 S2 y1 y2)(dst:Option Tmp){x1 x2:Option SV}(hx:∀sv,x1=some sv->x2=some sv):Out rs tk g m M dst S1 S2 (y1.1.put dst x1,y1.2) (y2.1.put dst x2,y2.2):=by
 refine⟨?_,?_,by simpa[ZyF]using h.L,by simpa[Zvj]using h.tok,h.le,h.same,by have:=h.gh2;cases dst <;> exact this⟩
 ·intro t sv ht vo
  subst ht
  simp[St.put]at *
  exact hx _ vo
 ·intro t ht
  cases dst with
  | none=>simp[St.put,h.env2]
  | some d=>simp[St.put,Zas (λe=>ht (by rw[e]):t≠d),h.env2]
theorem OutB.refl(hm:m.le M):OutB rs tk g m M S1 S2 (S1,m) (S2,M):=⟨rfl,rfl,λ_=>.inr ⟨rfl,rfl⟩,λ_=>.inr ⟨rfl,rfl⟩,hm,λ_=>⟨rfl,rfl⟩,rfl⟩
theorem Out.put0(hm:m.le M)(dst:Option Tmp){x1 x2:Option SV}(hx:∀sv,x1=some sv->x2=some sv):Out rs tk g m M dst S1 S2 (S1.put dst x1,m) (S2.put dst x2,M):=
 (OutB.refl (rs:=rs) (tk:=tk) (g:=g) (S1:=S1) (S2:=S2) hm).put dst hx
theorem OutB.setL(hm:m.le M){id:Nat}(cZ:id∈rs)(x:Option Box):OutB rs tk g m M S1 S2 (S1.setL id x,m) (S2.setL id x,M):=by
 refine⟨rfl,rfl,λi=>?_,λ_=>.inr ⟨rfl,rfl⟩,hm,λ_=>⟨rfl,rfl⟩,rfl⟩
 by_cases hi:i=id
 ·subst hi;exact .inl ⟨cZ,by simp[St.setL]⟩
 ·exact .inr (by simp[St.setL,Zas hi])
theorem OutB.newL{m' M':Mem}(hm:m'.le M')(hg:g=false->m'=m/\M'=M){id:Nat}(cZ:id∈rs)(x:Box):OutB rs tk g m M S1 S2 (S1.newL id x,m') (S2.newL id x,M'):=by
 refine⟨rfl,rfl,λi=>?_,λ_=>.inr ⟨rfl,rfl⟩,hm,hg,rfl⟩
 by_cases hi:i=id
 ·subst hi;exact .inl ⟨cZ,by simp[St.newL]⟩
 ·exact .inr (by simp[St.newL,Zas hi])
end
mutual
theorem Shape.all_intro:∀(s:Shape){k:Value->Prop},(∀v,k v)->s.all k
 | .any,k,h=>by simpa only[Shape.all]using h
 | .int ki,k,h=>by simp only[Shape.all];exact λn=>h _
 | .bool,k,h=>by simp only[Shape.all];exact λn=>h _
 | .str,k,h=>by simp only[Shape.all];exact λn=>h _
 | .slice,k,h=>by simp only[Shape.all];exact λ_ _ _=>h _
 | .agg l,k,h=>by simp only[Shape.all];exact Shape.allL_intro l (λvs=>h _)
 | .tup l,k,h=>by simp only[Shape.all];exact Shape.allL_intro l (λvs=>h _)
 | .fn,k,h=>by simp only[Shape.all];exact λ_ _ _=>h _
 | .cells,k,h=>by simp only[Shape.all];exact λ_=>h _
 | .ptr,k,h=>by simp only[Shape.all];exact λ_ _=>h _
theorem Shape.allL_intro:∀(l:List Shape){k:List Value->Prop},(∀v,k v)->Shape.allL l k
 | [],k,h=>by simp only[Shape.allL];exact h _
 | s::l,k,h=>by simp only[Shape.allL];exact Shape.all_intro s (λv=>Shape.allL_intro l (λvs=>h _))
end
theorem allL_intro:∀{n:Nat} {k:List (List Value)->Prop},(∀l,l.length=n->k l)->allL n k
 | 0,k,h=>h [] rfl
 | n+1,k,h=>λcs=>allL_intro (λl hl=>h (cs::l) (by simp[hl]))
def Env.fixed(E:Env)(f:List Value->Mem->Value->Mem->List (List Value)->Prop):Env:={ E with fix:=some f }
section
variable {rs:List Nat} {tk:Option Nat} {g:Bool} {S1 S2:St} {m M:Mem}
theorem ZqR{E:Env}{f:List Value->Mem->Value->Mem->List (List Value)->Prop}(hs:Less S1 S2)(eE:∀id x,S1.L id=some x->id∈rs)(hm:m.le M){T:TypeId}{x:Operand}{v:Value}:
  LC (λK:St×Mem->Prop=>Zfx (E.fixed f) S1 T x v λS'=>K (S',m)) (λK:St×Mem->Prop=>Zfx E S2 T x v λS'=>K (S',M)) (OutB rs tk g m M S1 S2):=by
 unfold Zfx
 show LC (λK=>match E.tt T with
  | none=>False
  | some i=>_) _ _
 cases E.tt T with
 | none=>exact LC.false
 | some i=>
  simp only
  cases he:S1.ev x with
  | none=>exact LC.false
  | some sv=>
   simp only[hs.ev he]
   cases sv with
   | loc id off=>
    simp only
    cases hx:S1.L id with
    | none=>exact LC.false
    | some bx=>
     simp only[hs.L id bx hx]
     refine LC.chk λ_=>?_
     cases(bx.full&&(Nat.beq bx.cap i.size&&Nat.beq off 0)) <;> simp only[cond_true,cond_false]
     ·exact LC.chk λ_=>LC.ret (OutB.setL hm (eE id bx hx) _)
     ·exact LC.ret (OutB.setL hm (eE id bx hx) _)
   | v u=>
    simp only
    show LC (λK=>match ZeA E x with
     | none=>False
     | some id=>_) _ _
    cases ZeA E x with
    | none=>exact LC.false
    | some id=>
     simp only
     cases hx:S1.L id with
     | none=>exact LC.false
     | some bx=>
      simp only[hs.L id bx hx]
      refine LC.chk λ_=>?_
      rintro⟨h1,h2,_⟩
      exact⟨h1,h2,_,λK hK=>hK.2.2,OutB.setL hm (eE id bx hx) _⟩
   | sl id n c=>exact LC.false
theorem Zth{E:Env}{f:List Value->Mem->Value->Mem->List (List Value)->Prop}(hs:Less S1 S2)(eE:∀id x,S1.L id=some x->id∈rs)(hm:m.le M){T:TypeId}{id:Nat}{vd vs:Value}:
  LC (λK:Int×(St×Mem)->Prop=>ZnX (E.fixed f) S1 m T id vd vs λn S'=>K (n,(S',m))) (λK:Int×(St×Mem)->Prop=>ZnX E S2 M T id vd vs λn S'=>K (n,(S',M))) (λy1 y2=>y1.1=y2.1/\OutB rs tk g m M S1 S2 y1.2 y2.2/\y1.2.2=m/\y2.2.2=M):=by
 unfold ZnX
 show LC (λK=>match Zau E T with
  | none=>False
  | some (e,j)=>_) _ _
 cases Zau E T with
 | none=>exact LC.false
 | some ej=>
  obtain⟨e,j⟩:=ej
  simp only
  cases hx:S1.L id with
  | none=>exact LC.false
  | some bx=>
   simp only[hs.L id bx hx]
   refine LC.chk λ_=>?_
   intro h vp
   have hf:m.free bx.b:=λo=>by
    cases he:m bx.b o with
    | none=>rfl
    | some u=>have:=hm _ _ _ he;rw[vp o]at this;cases this
   obtain⟨o,xs,h1,h2,h3,h4,h5,_⟩:=h hf
   refine⟨o,xs,h1,h2,h3,h4,h5.imp_left (λh=>h.mono hm),(_,(S1.setL id (some { bx with cs:=ZaC bx.cs o xs }),m)),λK hK=>?_,rfl,OutB.setL hm (eE id bx hx) _,rfl,rfl⟩
   obtain⟨o',xs',g1,g2,g3,g4,g5,g6⟩:=hK hf
   rw[h1]at g1
   obtain rfl:o=o':=by simpa using g1
   have hl:xs.length=xs'.length:=by rw[h2,g2]
   have dY:∀{as:Option Addr} {ys:List Value} {p:Nat},rowRd m as ys->as=some ⟨bx.b,p,none⟩->ys=[]:=λ{as ys p} hy ha=>by
    rcases hy with hy|⟨b1,o1,gw,hy⟩
    ·exact hy
    ·rw[ha]at gw
     simp only[Option.some.injEq,Addr.mk.injEq,and_true]at gw
     obtain⟨rfl,rfl⟩:=gw
     cases mj:ys with
     | nil=>rfl
     | cons u l=>subst mj;have:=hy 0 u rfl;rw[hf]at this;cases this
   have ri:xs=xs':=by
    rcases h5 with h5|⟨p,hp,h5⟩
    ·rcases g5 with g5|⟨p',hp',g5⟩
     ·exact Zd9 h5 g5 hl
     ·have:=dY h5 hp';subst this
      exact(List.eq_nil_of_length_eq_zero hl.symm).symm
    ·rcases g5 with g5|⟨p',hp',g5⟩
     ·have:=dY g5 hp;subst this
      exact List.eq_nil_of_length_eq_zero hl
     ·rw[hp]at hp'
      obtain rfl:p=p':=by simpa using hp'
      apply List.ext_getElem?
      intro i
      by_cases hi:i < xs.length
      ·have e1:=h5 i _ (zA3 hi)
       have e2:=g5 i _ (zA3 (by omega))
       rw[e1]at e2
       rw[zA3 hi,zA3 (by omega)]
       exact e2
      ·rw[List.getElem?_eq_none (by omega),List.getElem?_eq_none (by omega)]
   subst ri
   exact g6
theorem Zf9(hs:Less S1 S2):∀{ids:List Nat} {bxs:List Box},ZbE S1 ids=some bxs->ZbE S2 ids=some bxs
 | [],bxs,h=>h
 | id::l,bxs,h=>by
  simp only[ZbE]at *
  cases hx:S1.L id with
  | none=>simp[hx]at h
  | some x=>
   simp only[hx]at h
   simp only[hs.L id x hx]
   cases hb:ZbE S1 l with
   | none=>simp[hb]at h
   | some xs=>simp only[hb]at h;simp only[Zf9 hs hb];exact h
theorem Zti{E:Env}(hE:E.fix=none){f:List Value->Mem->Value->Mem->List (List Value)->Prop}(hs:Less S1 S2)(eE:∀id x,S1.L id=some x->id∈rs)(hm:m.le M){rt:TypeId}{gg:FuncId}{args:List Value}{ids:List Nat}{γ:Value->St->Option SV}:
  LC (λK:Value×(St×Mem)->Prop=>Zlj (E.fixed f) S1 m rt gg args ids λv S' m'=>K (v,(S',m'))) (λK:Value×(St×Mem)->Prop=>Zlj E S2 M rt gg args ids λv S' m'=>K (v,(S',m'))) (λy1 y2=>y1.1=y2.1/\OutB rs tk true m M S1 S2 y1.2 y2.2):=by
 intro h
 unfold Zlj at *
 cases hb:ZbE S1 ids with
 | none=>simp[hb]at h
 | some bxs=>
  simp only[hb]at h
  simp only[Zf9 hs hb]
  obtain⟨h1,R,h0,fM,dX,_⟩:=Zag h
  have h0':R=f args m:=h0
  obtain⟨aH,cH⟩:=Zcm hb
  simp only[zA7]at h1
  have eJ:=ZaS h1.2
  refine Zaa (by simp[h1.1,h1.2]) ⟨λv M' css=>∃m',m.le m'/\m'.le M'/\R v m' css,by rw[hE];trivial,fM.frame hm,λv m' css ⟨_,_,_,hR⟩=>dX _ _ _ hR,?_⟩
  refine Shape.all_intro _ λv M' hM'=>allL_intro λcss fh ⟨m',g1,g2,hR⟩=>⟨(v,(Zda S1 ids bxs css,m')),λK hK=>?_,rfl,?_⟩
  ·obtain⟨_,R',h0'',_,_,cR⟩:=Zag hK
   have h0''':R'=f args m:=h0''
   have rj:R'=R:=by rw[h0''',h0']
   subst rj
   exact ZfV (Shape.all_fits _ _ cR v (dX _ _ _ hR) m' g1) css fh hR
  ·refine⟨by rw[ZcY],by rw[ZcY],λid=>?_,λk=>.inr ⟨by rw[ZcY],by rw[ZcY]⟩,g2,λh=>(by cases h),by rw[ZcY]⟩
   rcases Zen (S:=S1) eJ aH fh id with⟨a1,a2⟩|⟨i,x,cs,a1,a2,a3,a4⟩
   ·rcases Zen (S:=S2) eJ aH fh id with⟨b1,b2⟩|⟨i',x',cs',b1,b2,b3,b4⟩
    ·exact .inr ⟨a2,b2⟩
    ·exact absurd (zA2 b1) a1
   ·rcases Zen (S:=S2) eJ aH fh id with⟨b1,b2⟩|⟨i',x',cs',b1,b2,b3,b4⟩
    ·exact absurd (zA2 a1) b1
    ·obtain⟨id',c1,c2⟩:=cH i x a2
     rw[a1]at c1;cases c1
     have hi:=(zA0 a1).1
     have:i=i':=(List.getElem?_inj hi eJ).1 (by rw[a1,b1])
     subst this
     rw[a2]at b2;rw[a3]at b3;cases b2;cases b3
     exact .inl ⟨eE _ _ c2,by rw[a4,b4]⟩
theorem ZqS{E:Env}(hE:E.fix=none){f:List Value->Mem->Value->Mem->List (List Value)->Prop}{rt:TypeId}{gg:FuncId}{args:List Value}{key esz:Nat}(eK:tk=some key)(hm:m.le M):
  LC (λK:Value×(St×Mem)->Prop=>Zh7 (E.fixed f) S1 m rt gg args key esz λv S' m'=>K (v,(S',m'))) (λK:Value×(St×Mem)->Prop=>Zh7 E S2 M rt gg args key esz λv S' m'=>K (v,(S',m'))) (λy1 y2=>y1.1=y2.1/\OutB rs tk true m M S1 S2 y1.2 y2.2):=by
 rintro⟨R,h0,fM,dX,_⟩
 have h0':R=f args m:=h0
 refine⟨λv M' _=>∃m',m.le m'/\m'.le M'/\R v m' [],?_⟩
 rw[hE]
 refine⟨fM.frame hm,λv m' css ⟨_,_,_,hR⟩=>dX _ _ _ hR,?_⟩
 refine Shape.all_intro _ λv M' hM' ⟨m',g1,g2,hR⟩=>⟨(v,({ S1 with tok:=λk=>bif Nat.beq k key then some ⟨v,esz⟩ else S1.tok k,tkeys:=key::S1.tkeys },m')),λK hK=>?_,rfl,?_⟩
 ·obtain⟨R',h0'',_,_,cR⟩:=hK
  have h0''':R'=f args m:=h0''
  have rj:R'=R:=by rw[h0''',h0']
  subst rj
  exact Shape.all_fits _ _ cR v (dX _ _ _ hR) m' g1 hR
 ·refine⟨rfl,rfl,λid=>.inr ⟨rfl,rfl⟩,λk=>?_,g2,λh=>(by cases h),rfl⟩
  by_cases hk:k=key
  ·subst hk;exact .inl ⟨eK,by simp⟩
  ·exact .inr (by simp[Zas hk])
theorem Zoo{E:Env}{f:List Value->Mem->Value->Mem->List (List Value)->Prop}(hm:m.le M){T xT:TypeId}{key:Nat}{vs vx:Value}(eK:tk=some key)(aN:∀k,tk=some k->S1.tok k=S2.tok k):
  LC (λK:Value×(St×Mem)->Prop=>ZdF (E.fixed f) S1 m T xT key vs vx λv t m'=>K (v,({ S1 with tok:=t,tkeys:=key::S1.tkeys },m'))) (λK:Value×(St×Mem)->Prop=>ZdF E S2 M T xT key vs vx λv t m'=>K (v,({ S2 with tok:=t,tkeys:=key::S2.tkeys },m'))) (λy1 y2=>y1.1=y2.1/\OutB rs tk true m M S1 S2 y1.2 y2.2):=by
 unfold ZdF
 show LC (λK=>match Zau E T with
  | none=>False
  | some (_,j)=>match Zau E xT with
   | none=>False
   | some (_,j')=>_) _ _
 cases Zau E T with
 | none=>exact LC.false
 | some ej=>
  cases Zau E xT with
  | none=>exact LC.false
  | some ej'=>
   simp only
   refine LC.chk λ_=>?_
   have oh:LC (λK:Value×(St×Mem)->Prop=>Zxd (E.fixed f) S1 m ej.2 key vs vx λv t m'=>K (v,({ S1 with tok:=t,tkeys:=key::S1.tkeys },m'))) (λK:Value×(St×Mem)->Prop=>Zxd E S2 M ej.2 key vs vx λv t m'=>K (v,({ S2 with tok:=t,tkeys:=key::S2.tkeys },m'))) (λy1 y2=>y1.1=y2.1/\OutB rs tk true m M S1 S2 y1.2 y2.2):=?body
   case body=>
    unfold Zxd
    rintro⟨ht,xs,ys,a1,a2,a3,a4,a5,a6,a7,_⟩
    rw[aN key eK]at ht
    refine⟨ht,xs,ys,a1,a2,a3.mono hm,a4.mono hm,a5,a6,a7,λa' c' M' hM' hr=>?_⟩
    refine ZqA λoi cO=>⟨(.slice a' (slN vs+slN vx) c',({ S1 with tok:=(λk=>bif Nat.beq k key then some ⟨.slice a' (slN vs+slN vx) c',ej.2.size⟩ else S1.tok k),tkeys:=key::S1.tkeys },M')),λK hK=>?_,rfl,⟨rfl,rfl,λ_=>.inr ⟨rfl,rfl⟩,λk=>?_,Mem.le_refl _,λh=>(by cases h),rfl⟩⟩
    ·obtain⟨_,xs',ys',b1,b2,b3,b4,_,_,_,b8⟩:=hK
     rw[Zd9 a3 b3 (by omega),Zd9 a4 b4 (by omega)]at hr
     exact Zki (b8 a' c' M' (mLt hm hM') hr) (λht=>(oi ht).mono hm) cO
    ·by_cases hk:k=key
     ·subst hk;exact .inl ⟨eK,by simp⟩
     ·exact .inr (by simp[Zas hk])
   exact oh
end
theorem Mem.add_le{m M:Mem}(h:m.le M)(b:Nat)(cs:List Value):(m.add b cs).le (M.add b cs):=⟨λb' o v hv=>by
 by_cases hb:b'=b
 ·subst hb;rw[Mem.add_same]at hv ⊢;exact hv
 ·rw[Mem.add_other _ hb]at hv ⊢;exact h _ _ _ hv,h.k⟩
theorem Zfj{S1 S2:St}(hs:Less S1 S2):∀{l:List Operand} {k:List Value->Prop},wvs S1 l k->Zd3 S1 l=Zd3 S2 l
 | [],k,h=>rfl
 | x::l,k,h=>by
  obtain⟨v,hv,h⟩:=Zav h
  have ih:=Zfj hs h
  unfold St.val at hv
  cases he:S1.ev x with
  | none=>simp[he]at hv
  | some sv=>
   simp only[Zd3,he,hs.ev he,ih]
   cases sv with
   | loc id off=>
    simp only[he,St.den]at hv
    cases hx:S1.L id with
    | none=>simp[hx]at hv
    | some x=>simp only[hx,hs.L id x hx]
   | _=>rfl
theorem MapFind.unique{P:Program}{T:TypeId}{k:Value}(w:World):∀{es:List (Value×Value)} {r r':Option Value},MapFind P T k es r->MapFind P T k es r'->r=r'
 | [],r,r',h,h'=>by
  simp only[MapFind]at h h'
  rw[h,h']
 | e::es,r,r',h,h'=>by
  simp only[MapFind]at h h'
  rcases h with⟨h1,h2⟩|⟨h1,h2⟩ <;> rcases h' with⟨h3,h4⟩|⟨h3,h4⟩
  ·rw[h2,h4]
  ·exact absurd (EqIs.unique w h1 h3) (by simp)
  ·exact absurd (EqIs.unique w h1 h3) (by simp)
  ·exact MapFind.unique w h2 h4
theorem LookIs.unique{P:Program}{T:TypeId}{k:Value}(w:World){es:List (Value×Value)}{z v v':Value}{o o':Bool}(h:LookIs P T k es z v o)(h':LookIs P T k es z v' o'):v=v'/\o=o':=by
 obtain⟨r,h1,h2,h3⟩:=h
 obtain⟨r',h4,h5,h6⟩:=h'
 cases MapFind.unique w h1 h4
 exact⟨h2.trans h5.symm,h3.trans h6.symm⟩
def Zvk(E:Env)(tk:Option Nat)(d:Option Tmp):Bool:=match Zcz E d with
 | none=>true
 | some ke=>(match tk with
  | some k=>Nat.beq ke.1 k
  | none=>false)
def Zsr(E:Env)(rs:List Nat)(tk:Option Nat)(o:Oper):Bool:=match o.op with
 | .alloc _=>(match o.dst with
  | some d=>rs.any (Nat.beq d ·)
  | none=>false)
 | .box _ _=>(match o.dst with
  | some d=>rs.any (Nat.beq d ·)
  | none=>false)
 | .buildSlice _ _ _=>(match o.dst with
  | some d=>rs.any (Nat.beq d ·)
  | none=>false)
 | .makeSlice _ _ _=>(match o.dst with
  | some d=>rs.any (Nat.beq d ·)
  | none=>false)
 | .call c=>(match c.callee with
  | .builtin .append=>(match o.dst,tk with
   | some d,some k=>Nat.beq (E.tokOf d) k&&!E.app0 d
   | _,_=>false)
  | _=>(ZdD E o.dst).isNone&&Zvk E tk o.dst)
 | .store _ x _=>(match Zl1 E x with
  | none=>true
  | some _=>false)
 | .mapUpdate _ _ _ _=>false
 | _=>true
theorem ZjH{E:Env}{rs:List Nat}{tk:Option Nat}{o:Oper}(h:Zsr E rs tk o=true):Zmd E o:=by
 refine⟨λT x y e=>?_,λf as ats e=>?_,λT x y z e=>?_⟩
 ·unfold Zsr at h
  rw[e]at h
  cases hs:Zl1 E x with
  | none=>rfl
  | some k=>simp[hs]at h
 ·unfold Zsr at h
  rw[e]at h
  have h:((ZdD E o.dst).isNone&&Zvk E tk o.dst)=true:=h
  rw[zA7]at h
  simpa using h.1
 ·unfold Zsr at h
  rw[e]at h
  cases h
def Zmo(rs:List Nat)(o:Oper):List Nat:=match o.op with
 | .alloc _=>dl o.dst
 | .box _ _=>dl o.dst
 | .buildSlice _ _ _=>dl o.dst
 | .makeSlice _ _ _=>dl o.dst
 | .store _ _ _=>rs
 | .call c=>(match c.callee with
  | .value _=>rs
  | .builtin .copy=>rs
  | _=>[])
 | _=>[]
def Zdc(o:Oper):Bool:=match o.op with
 | .buildSlice _ _ _=>true
 | .call c=>(match c.callee with
  | .value _=>true
  | .builtin .append=>true
  | _=>false)
 | _=>false
section
variable {rs:List Nat} {tk:Option Nat} {S1 S2:St} {m M:Mem}
theorem Zxh{E:Env}(w:World)(hE:E.fix=none){f:List Value->Mem->Value->Mem->List (List Value)->Prop}(hs:Less S1 S2)(eE:∀id x,S1.L id=some x->id∈rs)(hL:∀id∈rs,S1.L id=S2.L id)
  (aN:∀k,tk=some k->S1.tok k=S2.tok k) (hm:m.le M) {o:Oper} (gU:Zsr E rs tk o=true):
  LC (λK:St×Mem->Prop=>opW (E.fixed f) S1 m o λS' m'=>K (S',m')) (λK:St×Mem->Prop=>opW E S2 M o λS' m'=>K (S',m')) (Out (Zmo rs o) tk (Zdc o) m M o.dst S1 S2):=by
 have eP:∀(rs:List Nat)(g:Bool)(o:Oper),LC (λK:St×Mem->Prop=>Zcc (E.fixed f) S1 o λsv=>K (S1.put o.dst (some sv),m)) (λK:St×Mem->Prop=>Zcc E S2 o λsv=>K (S2.put o.dst (some sv),M)) (Out rs tk g m M o.dst S1 S2):=λrs g o=>by
  refine LC.map (f:=λsv=>(S1.put o.dst (some sv),m)) (g:=λsv=>(S2.put o.dst (some sv),M)) (ρ:=Eq) (T1:=λK=>Zcc (E.fixed f) S1 o K) (T2:=λK=>Zcc E S2 o K) ?_ ?_ ?_
  ·exact(Ztg w hs:LE (Zcc E S1 o) (Zcc E S2 o))
  ·rintro a b rfl
   exact Out.put0 hm _ (λsv h=>h)
  ·exact λh=>Zjz h
 obtain⟨dst,op,type,pos,after,guard⟩:=o
 have ia:∀(rs:List Nat)(g:Bool)(x:Operand),LC (λK:St×Mem->Prop=>K (S1.put dst (S1.ev x),m)) (λK:St×Mem->Prop=>K (S2.put dst (S2.ev x),M)) (Out rs tk g m M dst S1 S2):=λrs g x=>LC.ret (Out.put0 hm _ (λsv h=>hs.ev h))
 have bJ:∀{g:Bool} {d:Nat} {x:Box} {sv:SV},Out [d] tk g m M (some d) S1 S2 ((S1.newL d x).put (some d) (some sv),m) ((S2.newL d x).put (some d) (some sv),M):=λ{g d x sv}=>(OutB.newL hm (λ_=>⟨rfl,rfl⟩) (by simp) x).put (some d) (λsv h=>h)
 cases op with
 | move x=>exact ia _ _ x
 | assign x=>exact ia _ _ x
 | pick c x y=>exact Zca hs λv=>LC.chk λ_=>LC.br (ia _ _ x) (ia _ _ y)
 | load T x=>
  have hq:Zsh (E.fixed f) dst=Zsh E dst:=rfl
  simp only[opW,hq]
  cases ng:Zsh E dst with
  | some y=>
   refine LC.map (f:=λv=>(S1.put dst (some (.v v)),m)) (g:=λv=>(S2.put dst (some (.v v)),M)) (ρ:=Eq) (T1:=λK=>ZeB (E.fixed f) S1 m T x λv=>ldW y v K) (T2:=λK=>ZeB E S2 M T x λv=>ldW y v K) ?_ ?_ ?_
   ·intro h
    have h1:=(Zpi hs hm:LE (ZeB E S1 m T x) (ZeB E S2 M T x)) (ZcS (λ_ _=>trivial) h)
    refine ZcS (λv ⟨v1,g1,g2⟩=>?_) h1
    subst g2
    exact Zqx (g1 _ h) ⟨v1,λK hK=>Zo7 (g1 _ hK),rfl⟩
   ·rintro a b rfl
    exact Out.put0 hm _ (λsv h=>h)
   ·exact λh=>ZcS λv=>Zo8 h
  | none=>
  refine LC.map (f:=λv=>(S1.put dst (some (.v v)),m)) (g:=λv=>(S2.put dst (some (.v v)),M)) (ρ:=Eq) (T1:=λK=>ZeB (E.fixed f) S1 m T x K) (T2:=λK=>ZeB E S2 M T x K) ?_ ?_ ?_
  ·exact(Zpi hs hm:LE (ZeB E S1 m T x) (ZeB E S2 M T x))
  ·rintro a b rfl
   exact Out.put0 hm _ (λsv h=>h)
  ·exact λh=>ZcS h
 | store T x y=>
  refine Zca hs λv=>?_
  show LC (λK=>match Zl1 E x with
   | none=>_
   | some key=>bif (E.fixed f).fix.isSome then False else _) (λK=>match Zl1 E x with
   | none=>_
   | some key=>_) _
  cases Zl1 E x with
  | some key=>exact LC.false
  | none=>
  refine LC.map (f:=λy:St×Mem=>(y.1.put dst none,m)) (g:=λy:St×Mem=>(y.1.put dst none,M)) (ρ:=λy1 y2=>OutB rs tk false m M S1 S2 y1 y2/\y1.2=m/\y2.2=M) ?_ ?_ ?_ (T1:=λK=>Zfx (E.fixed f) S1 T x v λS'=>K (S',m)) (T2:=λK=>Zfx E S2 T x v λS'=>K (S',M))
  ·exact λh=>Zff (λS' _ ⟨y1,g1,g2⟩=>⟨(y1.1,m),λK hK=>g1 (λy=>K (y.1,m)) hK,⟨g2.env1,g2.env2,g2.L,g2.tok,hm,λ_=>⟨rfl,rfl⟩,g2.gh2⟩,rfl,rfl⟩) (ZqR (tk:=tk) (rs:=rs) (g:=false) hs eE hm h)
  ·rintro a b ⟨h1,h2,h3⟩
   have:=h1.put dst (x1:=none) (x2:=none) (λsv h=>h)
   rw[h2,h3]at this;exact this
  ·exact λh=>Zff (λS' _=>h _)
 | alloc T=>
  simp only[opW,Zqz,Zsr]at *
  cases dst with
  | none=>exact LC.false
  | some d=>
   simp only
   show LC (λK=>match E.tt T with
    | none=>False
    | some i=>_) _ _
   cases E.tt T with
   | none=>exact LC.false
   | some i=>
    simp only at gU ⊢
    rw[hL d (Zer.1 gU)]
    cases hx:S2.L d with
    | some x=>exact LC.false
    | none=>exact λ_ b=>⟨_,λK hK=>hK b,bJ⟩
 | box T x=>
  refine Zca hs λv=>?_
  show LC (λK=>bif Ze7 E dst then(bif (E.fixed f).fix.isSome then False else _)else _) (λK=>bif Ze7 E dst then _ else _) _
  cases mo:Ze7 E dst with
  | true=>exact LC.false
  | false=>
  simp only[cond_false]
  simp only[ZyA,Zsr]at *
  cases dst with
  | none=>exact LC.false
  | some d=>
   simp only
   show LC (λK=>match E.tt T with
    | none=>False
    | some i=>_) _ _
   cases E.tt T with
   | none=>exact LC.false
   | some i=>
    simp only at gU ⊢
    rw[hL d (Zer.1 gU)]
    cases hx:S2.L d with
    | some x=>exact LC.false
    | none=>exact LC.chk λ_ _ b=>⟨_,λK hK=>hK b,bJ⟩
 | buildSlice T len parts=>
  simp only[opW]
  have hq:Zcz (E.fixed f) dst=Zcz E dst:=rfl
  simp only[hq]
  cases gG:Zcz E dst with
  | some ke=>exact LC.false
  | none=>
  simp only[ZdE,Zsr]at *
  cases dst with
  | none=>exact LC.false
  | some d=>
   simp only
   show LC (λK=>match E.tt T with
    | none=>False
    | some t=>match t.d with
     | .slice e=>match E.tt e with
      | none=>False
      | some i=>_
     | _=>False) _ _
   cases E.tt T with
   | none=>exact LC.false
   | some t=>
    simp only
    cases t.d <;> simp only <;> try exact LC.false
    rename_i e
    cases E.tt e with
    | none=>exact LC.false
    | some i=>
     simp only at gU ⊢
     rw[hL d (Zer.1 gU)]
     cases hx:S2.L d with
     | some x=>exact LC.false
     | none=>
      refine LC.chk λ_=>Zkz hs λvs=>LC.chk λ_ _ b hb=>⟨_,λK hK=>hK b ?_,?_⟩
      ·intro o
       cases he:m b o with
       | none=>rfl
       | some v=>have:=hm _ _ _ he;rw[hb o]at this;cases this
      ·exact(OutB.newL (Mem.add_le hm b (Zbp vs)) (λh=>by cases h) (by simp[Zmo,dl]) _).put (some d) (λsv h=>h)
 | lookup T x y ok=>
  simp only[opW,ZuF]
  refine Zca hs λvm=>Zca hs λvk=>?_
  have hq:ZnY (E.fixed f) T=ZnY E T:=rfl
  rw[hq]
  cases ZnY E T with
  | none=>exact LC.false
  | some q=>
   obtain⟨k,ei⟩:=q
   rintro⟨b,es,v,r,rfl,h2,h3,h4,_⟩
   refine⟨b,es,v,r,rfl,hm.k b es h2,h3,h4,_,λK hK=>?_,Out.put0 hm dst (λsv h=>h)⟩
   obtain⟨b',es',v',r',e',h2',h3',h4',hK⟩:=hK
   cases e'
   rw[h2]at h2';cases h2'
   obtain⟨rfl,rfl⟩:=LookIs.unique w h4 h4'
   exact hK
 | mapUpdate T x y z=>exact LC.false
 | makeMap T r=>exact LC.false
 | makeSlice T l c=>
  have hq:Zcz (E.fixed f) dst=Zcz E dst:=rfl
  simp only[opW,hq]
  cases gG:Zcz E dst with
  | some ke=>exact LC.false
  | none=>
  simp only[ZuE,Zsr]at *
  cases dst with
  | none=>exact LC.false
  | some d=>
   simp only
   show LC (λK=>match Zau E T with
    | none=>False
    | some (e,j)=>_) _ _
   cases Zau E T with
   | none=>exact LC.false
   | some ej=>
    simp only at gU ⊢
    rw[hL d (Zer.1 gU)]
    cases hx:S2.L d with
    | some x=>exact LC.false
    | none=>exact Zca hs λv=>Zca hs λv'=>LC.chk λ_ ⟨h1,_⟩=>⟨h1,λb=>⟨_,λK hK=>hK.2 b,bJ⟩⟩
 | convert s d x=>
  simp only[opW]
  show LC (λK=>bif Zcn E s d then _ else _) _ _
  cases Zcn E s d with
  | false=>
   simp only[cond_false]
   show LC (λK=>bif Zco E s d then _ else _) _ _
   cases Zco E s d with
   | false=>exact eP _ _ ⟨dst,.convert s d x,type,pos,after,guard⟩
   | true=>
    simp only[cond_true]
    have e2:∀k,Zkk E S2 M x k=Zbs S2 M x k:=λk=>by unfold Zkk;rw[hE];rfl
    have e1:∀k,Zkk (E.fixed f) S1 m x k=ZdH S1 m x k:=λk=>rfl
    simp only[e1,e2]
    refine LC.map (f:=λv=>(S1.put dst (some (.v v)),m)) (g:=λv=>(S2.put dst (some (.v v)),M)) (ρ:=Eq) (T1:=λK=>ZdH S1 m x K) (T2:=λK=>Zbs S2 M x K) ?_ ?_ ?_
    ·exact Zon hs hm
    ·rintro a b rfl
     exact Out.put0 hm _ (λsv h=>h)
    ·exact λh=>Zeq h
  | true=>exact LC.false
 | call c=>
  obtain⟨callee,args,argTypes⟩:=c
  cases callee with
  | value g=>
   simp only[opW,Zu2]
   show LC (λK=>match Zeo E dst with
    | []=>_
    | ids=>bif (E.fixed f).fix.isSome then False else _) (λK=>match Zeo E dst with
    | []=>_
    | ids=>_) _
   cases vq:Zeo E dst with
   | cons i l=>exact LC.false
   | nil=>
   simp only[Zu4]
   have i7:ZdD E dst=none:=(ZjH gU).2.1 _ _ _ rfl
   have rk:ZdD (E.fixed f) dst=none:=i7
   cases he:S1.ev g with
   | none=>exact LC.false
   | some sv=>
    simp only[hs.ev he]
    cases sv with
    | loc id off=>exact LC.false
    | sl id n c=>exact LC.false
    | v u=>
     cases u <;> try exact LC.false
     rename_i fv first captured
     cases fv <;> try exact LC.false
     rename_i gg
     have jp:Zse (E.fixed f) dst=Zse E dst:=rfl
     have vr:Zsi (E.fixed f) dst=Zsi E dst:=rfl
     simp only[vr]
     cases j9:Zsi E dst with
     | true=>exact LC.false
     | false=>
     simp only[cond_false]
     simp only[jp,i7,rk]
     cases nh:Zse E dst with
     | true=>exact LC.false
     | false=>
     simp only[cond_false]
     have hq:Zcz (E.fixed f) dst=Zcz E dst:=rfl
     simp only[hq]
     cases gG:Zcz E dst with
     | some ke=>
      intro h
      have vt:Zdk (E.fixed f) dst=Zdk E dst:=rfl
      simp only[vt]at h ⊢
      have eK:tk=some ke.1:=by
       have ol:((ZdD E dst).isNone&&Zvk E tk dst)=true:=gU
       rw[zA7]at ol
       have h2:=ol.2
       unfold Zvk at h2
       rw[gG]at h2
       cases tk with
       | none=>cases h2
       | some k=>rw[Nat.eq_of_beq_eq_true h2]
      cases rm:Zd3 S1 args.toList++Zdk E dst with
      | cons i l=>
       simp only[rm]at h
      | nil=>
       simp only[rm]at h
       have mu:=Zfj hs h
       rw[<-mu,rm]
       revert h
       show LC (λK:St×Mem->Prop=>wvs S1 args.toList λvs=>Zh7 (E.fixed f) S1 m type gg (first.toList++vs++captured.toList) ke.1 ke.2 λv S' m'=>K (S'.put dst (some (SV.v v)),m'))
        (λK:St×Mem->Prop=>wvs S2 args.toList λvs=>Zh7 E S2 M type gg (first.toList++vs++captured.toList) ke.1 ke.2 λv S' m'=>K (S'.put dst (some (SV.v v)),m')) _
       refine Zkz hs λvs=>?_
       refine LC.map (f:=λy:Value×(St×Mem)=>(y.2.1.put dst (some (.v y.1)),y.2.2)) (g:=λy:Value×(St×Mem)=>(y.2.1.put dst (some (.v y.1)),y.2.2)) (ZqS (rs:=rs) (tk:=tk) hE (f:=f) eK hm) ?_ ?_
       ·rintro⟨v1,y1⟩ ⟨v2,y2⟩ ⟨rfl,h2⟩
        exact h2.put dst (λsv h=>h)
       ·exact λh=>ZhI (λv S' m' _ _=>h _)
     | none=>
     intro h
     have mu:=Zfj hs h
     revert h
     rw[<-mu]
     show LC (λK:St×Mem->Prop=>wvs S1 args.toList λvs=>Zlj (E.fixed f) S1 m type gg (first.toList++vs++captured.toList) (Zd3 S1 args.toList++Zdk E dst) λv S' m'=>K (S'.put dst (some (SV.v v)),m'))
      (λK:St×Mem->Prop=>wvs S2 args.toList λvs=>Zlj E S2 M type gg (first.toList++vs++captured.toList) (Zd3 S1 args.toList++Zdk E dst) λv S' m'=>K (S'.put dst (some (SV.v v)),m')) _
     refine Zkz hs λvs=>?_
     refine LC.map (f:=λy:Value×(St×Mem)=>(y.2.1.put dst (some (.v y.1)),y.2.2)) (g:=λy:Value×(St×Mem)=>(y.2.1.put dst (some (.v y.1)),y.2.2)) (Zti (rs:=rs) (tk:=tk) (γ:=λ_ _=>none) hE (f:=f) hs eE hm) ?_ ?_
     ·rintro⟨v1,y1⟩ ⟨v2,y2⟩ ⟨rfl,h2⟩
      exact h2.put dst (λsv h=>h)
     ·exact λh=>ZjB (λv S' m' _ _=>h _)
  | invoke r mm=>
   simp only[opW]
   exact eP _ _ ⟨dst,_,type,pos,after,guard⟩
  | builtin b=>
   cases b with
   | append=>
    simp only[opW,Zsr]at *
    split
    ·rename_i s x T xT d _ _
     cases eK:tk with
     | none=>simp[eK]at gU
     | some key=>
      simp only[eK,zA7]at gU
      have h0:E.app0 d=false:=by simpa using gU.2
      have e0:(E.fixed f).app0 d=false:=h0
      obtain rfl:=Nat.eq_of_beq_eq_true gU.1
      simp only[Zu2]
      show LC (λK=>match Zeo E (some d)with
       | []=>_
       | ids=>bif (E.fixed f).fix.isSome then False else _) (λK=>match Zeo E (some d)with
       | []=>_
       | ids=>_) _
      cases vq:Zeo E (some d)with
      | cons i l=>exact LC.false
      | nil=>
      refine Zca hs λv=>Zca hs λv'=>?_
      simp only[ZfY,h0,e0,cond_false]
      have z:=Zoo (E:=E) (rs:=[]) (tk:=some (E.tokOf d)) (key:=E.tokOf d) (S1:=S1) (S2:=S2) (f:=f) (T:=T) (xT:=xT) (vs:=v) (vx:=v') hm rfl (λk hk=>aN k (eK.trans hk))
      refine LC.map z (f:=λy:Value×(St×Mem)=>(y.2.1.put (some d) (some (.v y.1)),y.2.2)) (g:=λy:Value×(St×Mem)=>(y.2.1.put (some d) (some (.v y.1)),y.2.2)) ?_ ?_
      ·rintro⟨v1,y1⟩ ⟨v2,y2⟩ ⟨rfl,h2⟩
       exact h2.put (some d) (λsv h=>h)
      ·exact λh=>Zd6 (λv t m' _=>h _)
    ·exact LC.false
   | copy=>
    simp only[opW,Zsr]at *
    split
    ·rename_i d s T xT _ _
     have hq:ZeA (E.fixed f) d=ZeA E d:=rfl
     simp only[hq]
     cases ZeA E d with
     | none=>exact LC.false
     | some id=>
      refine Zca hs λv=>Zca hs λv'=>?_
      have z:=Zth (E:=E) (rs:=rs) (tk:=tk) (g:=false) (S1:=S1) (S2:=S2) (f:=f) (T:=T) (id:=id) (vd:=v) (vs:=v') hs eE hm
      refine LC.map z (f:=λy:Int×(St×Mem)=>(y.2.1.put dst (some (.v (.int .i64 y.1))),m)) (g:=λy:Int×(St×Mem)=>(y.2.1.put dst (some (.v (.int .i64 y.1))),M)) ?_ ?_
      ·rintro⟨n1,y1⟩ ⟨n2,y2⟩ ⟨rfl,h2,h3,h4⟩
       have:=h2.put dst (x1:=some (.v (.int .i64 n1))) (x2:=some (.v (.int .i64 n1))) (λsv h=>h)
       rw[h3,h4]at this;exact this
      ·exact λh=>ZjA (λn S' _=>h _)
    ·exact LC.false
   | _=>
    simp only[opW]
    exact eP _ _ ⟨dst,_,type,pos,after,guard⟩
 | _=>
  simp only[opW]
  exact eP _ _ ⟨dst,_,type,pos,after,guard⟩
theorem Zxi{E:Env}(w:World)(hE:E.fix=none){f:List Value->Mem->Value->Mem->List (List Value)->Prop}(hs:Less S1 S2)(eE:∀id x,S1.L id=some x->id∈rs)(hL:∀id∈rs,S1.L id=S2.L id)
  (aN:∀k,tk=some k->S1.tok k=S2.tok k) (hm:m.le M) {ops:Array Oper} {o:Oper} (gU:Zsr E rs tk o=true):
  LC (λK:St×Mem->Prop=>opG (E.fixed f) ops o S1 m λS' m'=>K (S',m')) (λK:St×Mem->Prop=>opG E ops o S2 M λS' m'=>K (S',m')) (Out (Zmo rs o) tk (Zdc o) m M o.dst S1 S2):=by
 have h1:=Zxh w hE (f:=f) hs eE hL aN hm gU
 have h0:LC (λK:St×Mem->Prop=>K (S1.put o.dst (some (.v undef)),m)) (λK:St×Mem->Prop=>K (S2.put o.dst (some (.v undef)),M)) (Out (Zmo rs o) tk (Zdc o) m M o.dst S1 S2):=LC.ret (Out.put0 hm _ (λsv h=>h))
 unfold opG
 cases hg:o.guard with
 | none=>exact h1
 | some jw=>
  obtain⟨j,want⟩:=jw
  simp only
  cases ops.toList[j]? with
  | none=>exact LC.false
  | some oj=>
   simp only
   cases oj.dst with
   | none=>exact LC.false
   | some t=>
    simp only
    cases he:S1.env t with
    | none=>exact LC.false
    | some sv=>
     simp only[hs.env t sv he]
     cases sv with
     | loc id off=>exact LC.false
     | sl id n c=>exact LC.false
     | v u=>
      simp only
      cases Zdb u with
      | true=>exact h0
      | false=>
       refine LC.chk λ_=>?_
       cases want
       ·exact LC.br h0 h1
       ·exact LC.br h1 h0
end
def mem(l:List Nat)(i:Nat):Bool:=l.any (Nat.beq i ·)
theorem ZbG{l:List Nat}{i:Nat}:mem l i=true↔i∈l:=Zer
def ZqT(t:Option Nat)(k:Nat):Bool:=match t with
 | some q=>Nat.beq k q
 | none=>false
theorem ZcC{t:Option Nat}{k:Nat}:ZqT t k=true↔t=some k:=by
 cases t with
 | none=>simp[ZqT]
 | some q=>
  simp only[ZqT,Option.some.injEq]
  exact⟨λh=>(Nat.eq_of_beq_eq_true h).symm,λh=>by subst h;exact Nat.beq_refl _⟩
def Zfk(o:Oper)(t:Nat):Bool:=ZqT o.dst t
def Zop(ops:Array Oper)(d:DOp)(o:Oper)(S:St):St:=
 {env:=λt=>bif mem (o.looksAt ops) t then S.env t else none
  L:=λid=>bif mem d.rs id then S.L id else none
  ids:=S.ids
  tok:=λk=>bif ZqT d.tk k then S.tok k else none
  tkeys:=S.tkeys
  gh:=S.gh
  fo:=S.fo }
def Zmp(d:DOp)(o:Oper)(S S':St):St:=
 {env:=λt=>bif Zfk o t then S'.env t else S.env t
  L:=λid=>bif mem d.ws id then S'.L id else S.L id
  ids:=S.ids
  tok:=λk=>bif ZqT d.tk k then S'.tok k else S.tok k
  tkeys:=S.tkeys
  gh:=S.gh
  fo:=S.fo }
def upd(μ:Nat->Mem)(i:Nat)(m:Mem):Nat->Mem:=λj=>bif Nat.beq j i then m else μ j
def Zn0(μ:Nat->Mem)(M:Mem):List Nat->Prop->Prop
 | [],p=>p
 | j::l,p=>(μ j).le M->Zn0 μ M l p
def Zpj(μ:Nat->Mem)(m0:Mem):List Nat->(Mem->Prop)->Prop
 | [],k=>k m0
 | [j],k=>k (μ j)
 | l,k=>∀V:Mem,m0.le V->Zn0 μ V l (k V)
abbrev Fx:=Nat->List Value->Mem->Value->Mem->List (List Value)->Prop
def Zr9(E:Env)(ops:Array Oper)(m0:Mem)(f:Fx)(d:DOp)(S:St)(μ:Nat->Mem)(K:St->Mem->Prop):Prop:=match ops.toList[d.i]? with
 | none=>False
 | some o=>Zpj μ m0 d.vw λV=>opG (E.fixed (f d.i)) ops o (Zop ops d o S) V K
def Zoq(ops:Array Oper)(d:DOp)(S S':St):St:=match ops.toList[d.i]? with
 | none=>S
 | some o=>Zmp d o S S'
def Zij(E:Env)(ops:Array Oper)(m0:Mem)(f:Fx)(d:DOp)(S:St)(μ:Nat->Mem)(K:St->(Nat->Mem)->Prop):Prop:=
 Zr9 E ops m0 f d S μ λS' m'=>K (Zoq ops d S S') (upd μ d.i m')
def Zg3(E:Env)(ops:Array Oper)(m0:Mem)(f:Fx):List DOp->(St->(Nat->Mem)->Prop)->St->(Nat->Mem)->Prop
 | [],K,S,μ=>K S μ
 | d::r,K,S,μ=>Zij E ops m0 f d S μ (Zg3 E ops m0 f r K)
def ZwP(ops:Array Oper)(d:DOp):Option Nat:=match ops.toList[d.i]? with
 | none=>none
 | some o=>ZeE ops o
def Zg4(E:Env)(ops:Array Oper)(m0:Mem)(f:Fx):List DOp->(St->(Nat->Mem)->Prop)->St->(Nat->Mem)->Prop
 | [],K,S,μ=>K S μ
 | d::r,K,S,μ=>match ZwP ops d with
  | none=>Zij E ops m0 f d S μ (Zg4 E ops m0 f r K)
  | some t=>match S.env t with
   | some (.v v)=>bif Zdb v then Zij E ops m0 f d S μ (Zg4 E ops m0 f r K)else chk (ZfR v) (br (Zcx v) (Zij E ops m0 f d (S.put (some t) (some (.v (.bool true)))) μ (Zg4 E ops m0 f r K)) (Zij E ops m0 f d (S.put (some t) (some (.v (.bool false)))) μ (Zg4 E ops m0 f r K)))
   | _=>False
def ZwQ(m0:Mem)(μ:Nat->Mem):List Nat->(Mem->Prop)->Prop
 | [],k=>k m0
 | l,k=>∀M:Mem,m0.le M->Zn0 μ M l (k M)
def Zg5(ops:Array Oper):List DOp->List Nat
 | []=>[]
 | d::r=>match ops.toList[d.i]? with
  | none=>Zg5 ops r
  | some o=>bif Zdc o then d.i::Zg5 ops r else Zg5 ops r
def Zvl:List DOp->List Nat
 | []=>[]
 | d::r=>d.ws++Zvl r
def ZuK:List DOp->List Nat
 | []=>[]
 | d::r=>match d.tk with
  | none=>ZuK r
  | some k=>k::ZuK r
def Zik(ds:List DOp)(S:St):St:={ S with ids:=Zvl ds++S.ids,tkeys:=ZuK ds++S.tkeys }
def Zy7(a b:List Nat):Bool:=a.all λi=>!mem b i
def Zyu(a b:List Nat):Bool:=a.all λi=>mem b i
def ZqU(o:Oper)(l:List Nat):Bool:=match o.dst with
 | none=>true
 | some t=>!mem l t
def ZwR(a b:Oper):Bool:=match a.dst with
 | none=>true
 | some t=>!Zfk b t
def Zy8(a b:Option Nat):Bool:=match a with
 | none=>true
 | some k=>!ZqT b k
def Zpk(ops:Array Oper)(c d:DOp):Bool:=match ops.toList[c.i]?,ops.toList[d.i]? with
 | some oc,some od=>(ZqU oc (od.looksAt ops)&&ZqU od (oc.looksAt ops)&&ZwR oc od)&&(Zy7 c.ws d.rs&&Zy7 d.ws c.rs&&Zy8 c.tk d.tk)&&(!mem d.vw c.i&&!mem c.vw d.i&&!Nat.beq c.i d.i)
 | _,_=>false
def Zdd(o:Oper):List Nat:=(o.after.toList.filter (Region.binds .any ·)).map (·.on)
def Zx2:List DOp->Nat->List Nat
 | [],_=>[]
 | d::r,i=>bif Nat.beq d.i i then d.an else Zx2 r i
def ZwS(E:Env)(ops:Array Oper)(d:DOp)(before:List DOp):Bool:=match ops.toList[d.i]? with
 | none=>false
 | some o=>(Zsr E d.rs d.tk o&&Zyu (Zmo d.rs o) d.ws&&Zyu d.ws d.rs)&&(Zyu d.vw d.an&&Zyu (Zdd o) (before.map (·.i))) &&
   (d.an.all λj=>mem (Zdd o) j||(Zdd o).any λp=>mem (Zx2 before p) j)&&(before.all λc=>mem d.an c.i||Zpk ops c d)&&(before.all λc=>!Nat.beq c.i d.i)
def Zhb(E:Env)(ops:Array Oper):List DOp->List DOp->Bool
 | [],_=>true
 | d::r,before=>ZwS E ops d before&&Zhb E ops r (d::before)
def Zvm(E:Env)(ops:Array Oper)(ds:List DOp)(n:Nat):Bool:=(List.range n).all (λi=>ds.any λd=>Nat.beq d.i i)&&Nat.ble ds.length ops.size&&Zhb E ops ds []&&E.fix.isNone
def Zss:List Oper->Bool
 | []=>false
 | o::l=>(match o.op with
  | .call c=>(match c.callee with
   | .value _=>true
   | _=>false)
  | _=>false)||Zss l
def ZzD:Fx:=λ_ _ _ _ _ _=>True
def exF(b:Bool)(p:Fx->Prop):Prop:=match b with
 | true=>∃f,p f
 | false=>p ZzD
theorem Ztj{b:Bool}{p:Fx->Prop}(h:exF b p):∃f,p f:=by
 cases b
 ·exact⟨_,h⟩
 ·exact h
theorem Ztk{b:Bool}{p q:Fx->Prop}(h:∀f,p f->q f)(x:exF b p):exF b q:=by
 cases b
 ·exact h _ x
 ·obtain⟨f,x⟩:=x;exact⟨f,h f x⟩
def Zvn(ops:Array Oper)(ds:List DOp)(k:Nat):Bool:=(Nat.ble k ops.size&&(List.range k).all λj=>match ops.toList[ops.size - k+j]? with
 | none=>false
 | some o=>(Nat.beq j 0||mem (Zdd o) (ops.size - k+j - 1))&&((Zdd o).all (λi=>Nat.ble (i+1) (ops.size - k+j))&&(bif Nat.beq j 0 then(List.range (ops.size - k)).all (λi=>mem (Zdd o) i||(Zdd o).any λp=>mem (Zx2 ds p) i)else true)))&&ds.all λd=>Nat.ble (d.i+1) (ops.size - k)
def ZqV(E:Env)(ops:Array Oper)(K:St->Mem->Prop):List Oper->St->Mem->Prop
 | [],S,m=>K S m
 | o::r,S,m=>Zxe E ops o S m (ZqV E ops K r)
def ZqW(E:Env)(ops:Array Oper)(k:Nat)(K:St->Mem->Prop)(S:St)(m:Mem):Prop:=ZqV E ops K (ops.toList.drop (ops.size - k)) S m
def Zor(E:Env)(id:Nat)(ops:Array Oper)(K:St->Mem->Prop)(S:St)(m:Mem):Prop:=
 chk (Zvm E ops (E.dr id) (bif E.last id then ops.size - E.lastK id else ops.size)&&(bif E.last id then Zvn ops (E.dr id) (E.lastK id)else true)) (exF (Zss ops.toList) λf=>bif E.gb then Zg4 E ops m f (E.dr id) (λS' μ=>ZwQ m μ (Zg5 ops (E.dr id)) λM=>bif E.last id then ZqW E ops (E.lastK id) K S' M else K S' M) (Zik (E.dr id) S) (λ_=>m)else Zg3 E ops m f (E.dr id) (λS' μ=>ZwQ m μ (Zg5 ops (E.dr id)) λM=>bif E.last id then ZqW E ops (E.lastK id) K S' M else K S' M) (Zik (E.dr id) S) (λ_=>m))
def ZwT(E:Env)(id:Nat)(f:St->Mem->Prop)(S:St)(m:Mem):Prop:=match E.acqB id with
 | none=>f S m
 | some q=>match S.L q,E.m0 with
  | none,some m0=>chk (E.thaw&&(E.last id&&!S.fo)) (∃(b:Nat)(cs:List Value),cs≠[]/\m.reads b 0 cs/\m0.free b/\nfz S b S.ids (ntk S b [] S.tkeys)/\∀(T:TypeId)(cap:Nat),f (S.newL q ⟨b,cs,T,cap,false,false⟩) (m.off λk=>k=b))
  | _,_=>False
def ZaW(E:Env)(id:Nat)(ops:Array Oper)(K:St->Mem->Prop)(S:St)(m:Mem):Prop:=Zu2 E (some (1000000+id)) S m λS m=>ZwT E id (λS m=>Zor E id ops K S m) S m
theorem ZgQ{μ:Nat->Mem}{M:Mem}{p q:Prop}(h:p->q):∀{l:List Nat},Zn0 μ M l p->Zn0 μ M l q
 | [],x=>h x
 | j::l,x=>λy=>ZgQ h (x y)
theorem ZgR{μ:Nat->Mem}{M:Mem}{p:Prop}:∀{l:List Nat},Zn0 μ M l p->(∀j∈l,(μ j).le M)->p
 | [],x,_=>x
 | j::l,x,h=>ZgR (x (h j (by simp))) (λi hi=>h i (by simp[hi]))
theorem Zos{μ:Nat->Mem}{m0:Mem}{k k':Mem->Prop}(h:∀V,k V->k' V):∀{l:List Nat},Zpj μ m0 l k->Zpj μ m0 l k'
 | [],x=>h _ x
 | [j],x=>h _ x
 | i::j::l,x=>λV hV=>ZgQ (h V) (x V hV)
theorem Zot{μ:Nat->Mem}{m0 A:Mem}{l:List Nat}(h0:m0.le A)(hl:∀j∈l,(μ j).le A):∃V:Mem,V.le A/\∀k:Mem->Prop,Zpj μ m0 l k->k V:=by
 match l with
 | []=>exact⟨m0,h0,λk x=>x⟩
 | [j]=>exact⟨μ j,hl j (by simp),λk x=>x⟩
 | i::j::l=>exact⟨A,Mem.le_refl A,λk x=>ZgR (x A h0) hl⟩
theorem ZqX{μ:Nat->Mem}{m0:Mem}{i:Nat}{m:Mem}{l:List Nat}(h:i ∉ l)(k:Mem->Prop):Zpj (upd μ i m) m0 l k=Zpj μ m0 l k:=by
 have one:∀{j},j∈l->upd μ i m j=μ j:=λ{j} hj=>by
  have:j≠i:=λe=>h (e ▸ hj)
  simp[upd,Zas this]
 have all:∀{l':List Nat},(∀j∈l',j∈l)->∀(M:Mem)(p:Prop),Zn0 (upd μ i m) M l' p=Zn0 μ M l' p:=by
  intro l'
  induction l' with
  | nil=>intro _ M p;rfl
  | cons j l' ih=>
   intro hs M p
   simp only[Zn0]
   rw[one (hs j (by simp)),ih (λx hx=>hs x (by simp[hx]))]
 match l with
 | []=>rfl
 | [j]=>simp only[Zpj];rw[one (by simp)]
 | a::b::l=>
  simp only[Zpj]
  exact propext ⟨λx V hV=>by have:=x V hV;rwa [all (λj hj=>hj)]at this,λx V hV=>by rw[all (λj hj=>hj)];exact x V hV⟩
theorem ZqY{m0:Mem}{μ:Nat->Mem}{l:List Nat}{k:Mem->Prop}{A:Mem}(h:ZwQ m0 μ l k)(h0:m0.le A)(he:l=[]->A=m0)(hl:∀j∈l,(μ j).le A):k A:=by
 match l with
 | []=>rw[he rfl];exact h
 | i::l=>exact ZgR (h A h0) hl
theorem Zmq{m0:Mem}{μ:Nat->Mem}{l:List Nat}{k k':Mem->Prop}(h:∀M:Mem,m0.le M->k M->k' M)(x:ZwQ m0 μ l k):ZwQ m0 μ l k':=by
 match l with
 | []=>exact h _ (Mem.le_refl _) x
 | i::l=>exact λM hM=>ZgQ (h M hM) (x M hM)
theorem ZdK{E:Env}{ops:Array Oper}{m0:Mem}{f:Fx}{d:DOp}{S:St}{μ:Nat->Mem}{K K':St->Mem->Prop}(h:∀S' m',K S' m'->K' S' m')(hx:Zr9 E ops m0 f d S μ K):Zr9 E ops m0 f d S μ K':=by
 unfold Zr9 at *
 split at hx
 ·exact hx.elim
 ·exact Zos (λV y=>ZgO (th:=true) (.inl rfl) (λS' m' _ _=>h S' m') y) hx
theorem ZjI{E:Env}{ops:Array Oper}{m0:Mem}{f:Fx}:∀{r:List DOp} {K K':St->(Nat->Mem)->Prop} {S:St} {μ:Nat->Mem},(∀S' μ',SameOut (Zbe ops.toList) S S'->K S' μ'->K' S' μ')->Zg3 E ops m0 f r K S μ->Zg3 E ops m0 f r K' S μ
 | [],K,K',S,μ,h,hx=>h _ _ (SameOut.refl _ S) hx
 | d::r,K,K',S,μ,h,hx=>by
  refine ZdK (λS' m' y=>ZjI (λS'' μ'' hs y=>h _ _ (SameOut.trans ?_ hs) y) y) hx
  intro t ht
  unfold Zoq
  cases ho:ops.toList[d.i]? with
  | none=>rfl
  | some o=>
   have:Zfk o t=false:=by
    cases hd:Zfk o t with
    | false=>rfl
    | true=>exact absurd (Zcp ho (ZcC.1 hd)) ht
   simp[Zmp,this]
theorem ZqZ{ops:Array Oper}{d:DOp}{S S':St}:SameOut (Zbe ops.toList) S (Zoq ops d S S'):=by
 intro t ht
 unfold Zoq
 cases ho:ops.toList[d.i]? with
 | none=>rfl
 | some o=>
  have:Zfk o t=false:=by
   cases hd:Zfk o t with
   | false=>rfl
   | true=>exact absurd (Zcp ho (ZcC.1 hd)) ht
  simp[Zmp,this]
theorem Zq0{ops:Array Oper}{d:DOp}{t:Nat}(h:ZwP ops d=some t):t∈Zbe ops.toList:=by
 unfold ZwP ZeE at h
 split at h
 ·cases h
 ·split at h
  ·cases h
  ·split at h
   ·cases h
   ·rename_i oj hj
    exact Zcp hj h
theorem ZjJ{E:Env}{ops:Array Oper}{m0:Mem}{f:Fx}:∀{r:List DOp} {K K':St->(Nat->Mem)->Prop} {S:St} {μ:Nat->Mem},(∀S' μ',SameOut (Zbe ops.toList) S S'->K S' μ'->K' S' μ')->Zg4 E ops m0 f r K S μ->Zg4 E ops m0 f r K' S μ
 | [],K,K',S,μ,h,hx=>h _ _ (SameOut.refl _ S) hx
 | d::r,K,K',S,μ,h,hx=>by
  have step:∀{S1:St},SameOut (Zbe ops.toList) S S1->Zij E ops m0 f d S1 μ (Zg4 E ops m0 f r K)->Zij E ops m0 f d S1 μ (Zg4 E ops m0 f r K'):=λhs y=>
   ZdK (λS' m' y=>ZjJ (λS'' μ'' iS y=>h _ _ (SameOut.trans (SameOut.trans hs ZqZ) iS) y) y) y
  unfold Zg4 at hx ⊢
  split at hx
  ·exact step (SameOut.refl _ S) hx
  ·rename_i t ht
   have ia:∀x,SameOut (Zbe ops.toList) S (S.put (some t) x):=λx=>(SameOut.refl _ S).put (λt' e=>by cases e;exact Zq0 ht) x
   split at hx
   ·rename_i v hv
    cases hu:Zdb v with
    | true=>simp only[hu,cond_true]at hx ⊢;exact step (SameOut.refl _ S) hx
    | false=>
     simp only[hu,cond_false]at hx ⊢
     refine Zah (λy=>?_) hx
     cases hb:Zcx v with
     | true=>rw[hb]at y;exact step (ia _) y
     | false=>rw[hb]at y;exact step (ia _) y
   ·exact hx.elim
theorem Zpl{S:St}{t:Nat}{x:SV}(h:S.env t=some x):S.put (some t) (some x)=S:=by
 cases S with
 | mk env L ids tok tkeys gh=>
  simp only[St.put]
  congr 1
  funext i
  by_cases e:i=t
  ·subst e;simp at h ⊢;exact h.symm
  ·simp[Zas e]
theorem ZhO{E:Env}{ops:Array Oper}{m0:Mem}{f:Fx}:∀{r:List DOp} {K:St->(Nat->Mem)->Prop} {S:St} {μ:Nat->Mem},Zg4 E ops m0 f r K S μ->Zg3 E ops m0 f r K S μ
 | [],K,S,μ,hx=>hx
 | d::r,K,S,μ,hx=>by
  have step:∀{S1:St},Zij E ops m0 f d S1 μ (Zg4 E ops m0 f r K)->Zij E ops m0 f d S1 μ (Zg3 E ops m0 f r K):=λy=>ZdK (λS' m' y=>ZhO y) y
  unfold Zg4 at hx
  show Zij E ops m0 f d S μ (Zg3 E ops m0 f r K)
  split at hx
  ·exact step hx
  ·split at hx
   ·rename_i v hv
    cases hu:Zdb v with
    | true=>simp only[hu,cond_true]at hx;exact step hx
    | false=>
     simp only[hu,cond_false]at hx
     obtain⟨h1,h2⟩:=Zag hx
     have he:=ZbC h1
     cases hb:Zcx v with
     | true=>
      rw[hb]at he h2
      subst he
      have h3:Zij E ops m0 f d (S.put (some _) (some (.v (.bool true)))) μ (Zg4 E ops m0 f r K):=h2
      rw[Zpl hv]at h3;exact step h3
     | false=>
      rw[hb]at he h2
      subst he
      have h3:Zij E ops m0 f d (S.put (some _) (some (.v (.bool false)))) μ (Zg4 E ops m0 f r K):=h2
      rw[Zpl hv]at h3;exact step h3
   ·exact hx.elim
theorem ZjK{E:Env}{id:Nat}{ops:Array Oper}{K K':St->Mem->Prop}{S:St}{m:Mem}(h:∀S' m',SameOut (Zbe ops.toList) S S'->leD E id m m'->K S' m'->K' S' m'){S':St}{M:Mem}(hs:SameOut (Zbe ops.toList) S S')(hM:m.le M)(y:bif E.last id then ZqW E ops (E.lastK id) K S' M else K S' M):bif E.last id then ZqW E ops (E.lastK id) K' S' M else K' S' M:=by
 cases hl:E.last id with
 | false=>
  rw[hl]at y
  exact h _ _ hs (by unfold leD;rw[hl];exact hM) y
 | true=>
  rw[hl]at y
  simp only[cond_true]at y ⊢
  unfold ZqW at y ⊢
  have key:∀(r:List Oper),(∀o∈r,o∈ops.toList)->∀(S':St)(M:Mem),SameOut (Zbe ops.toList) S S'->leT E.thaw m M->ZqV E ops K r S' M->ZqV E ops K' r S' M:=by
   intro r
   induction r with
   | nil=>exact λ_ S' M hs hM y=>h _ _ hs (by unfold leD;rw[hl];exact hM) y
   | cons o r ih=>
    intro hr S' M hs hM y
    simp only[ZqV]at y ⊢
    obtain⟨i,ho⟩:=List.getElem?_of_mem (hr o (by simp))
    exact Zme (λt ht=>Zcp ho ht) (λS2 m2 iS aJ y=>ih (λo ho=>hr o (by simp[ho])) _ _ (hs.trans iS) (leT.trans hM aJ) y) y
  exact key _ (λo ho=>List.mem_of_mem_drop ho) _ _ hs (.of hM) y
theorem Zmr(E:Env):Zdl E (Zor E):=by
 intro id ops K K' S m h hx
 unfold Zor at *
 refine Zah (λy=>?_) hx
 refine Ztk (λf y=>?_) y
 cases om:E.gb with
 | false=>
  simp only[om,cond_false]at y ⊢
  exact ZjI (λS' μ hs y=>Zmq (λM hM y=>ZjK h hs hM y) y) y
 | true=>
  simp only[om,cond_true]at y ⊢
  exact ZjJ (λS' μ hs y=>Zmq (λM hM y=>ZjK h hs hM y) y) y
theorem Zil(E:Env):Zdl E (ZaW E):=λid ops K K' S m h hx=>
 Zh6 (λS1 m1 he hm y=>by
  have up:∀{m'},leD E id m1 m'->leD E id m m':=λhl=>by
   unfold leD at hl ⊢
   cases hl':E.last id with
   | true=>rw[hl']at hl;exact leT.trans (.of hm) hl
   | false=>rw[hl']at hl;exact mLt hm hl
  unfold ZwT at y ⊢
  split at y
  ·exact Zmr E id ops K K' S1 m1 (λS' m' hs hl y=>h S' m' ((ZdI he).trans hs) (up hl) y) y
  ·split at y
   ·obtain⟨c1,b,cs,y1,y2,y3,y4,y5⟩:=Zag y
    have c2:=c1
    simp only[zA7]at c2
    exact Zaa c1 ⟨b,cs,y1,y2,y3,y4,λT cap=>Zmr E id ops K K' _ _ (λS' m' hs _ y=>h S' m' ((ZdI he).trans λt ht=>hs t ht) (by unfold leD;rw[c2.2.1,c2.1];trivial) y) (y5 T cap)⟩
   ·exact y) hx
theorem St.ext'{a b:St}(h1:a.env=b.env)(h2:a.L=b.L)(h3:a.ids=b.ids)(h4:a.tok=b.tok)(h5:a.tkeys=b.tkeys)(h6:a.gh=b.gh)(h7:a.fo=b.fo):a=b:=by
 cases a;cases b;simp at *;exact⟨h1,h2,h3,h4,h5,h6,h7⟩
structure Ind (ops:Array Oper)(c d:DOp)(oc od:Oper):Prop where
 hc:ops.toList[c.i]?=some oc
 hd:ops.toList[d.i]?=some od
 cd:∀t,Zfk oc t=true->mem (od.looksAt ops) t=false
 dc:∀t,Zfk od t=true->mem (oc.looksAt ops) t=false
 ne:∀t,Zfk oc t=true->Zfk od t=false
 lcd:∀id,mem c.ws id=true->mem d.rs id=false
 ldc:∀id,mem d.ws id=true->mem c.rs id=false
 tk:∀k,ZqT c.tk k=true->ZqT d.tk k=false
 vcd:c.i ∉ d.vw
 vdc:d.i ∉ c.vw
 i:c.i≠d.i
theorem Zms{a b:List Nat}(h:Zy7 a b=true):∀i,mem a i=true->mem b i=false:=λi hi=>by
 have:=List.all_eq_true.1 h i (ZbG.1 hi)
 simpa using this
theorem Zga{a b:List Nat}(h:Zyu a b=true):∀i,i∈a->i∈b:=λi hi=>ZbG.1 (List.all_eq_true.1 h i hi)
theorem ZhP{o:Oper}{l:List Nat}(h:ZqU o l=true):∀t,Zfk o t=true->mem l t=false:=λt ht=>by
 have:=ZcC.1 ht
 simpa[ZqU,this]using h
theorem Zou{a b:Oper}(h:ZwR a b=true):∀t,Zfk a t=true->Zfk b t=false:=λt ht=>by
 have:=ZcC.1 ht
 simpa[ZwR,this]using h
theorem Zq1{a b:Option Nat}(h:Zy8 a b=true):∀t,ZqT a t=true->ZqT b t=false:=λt ht=>by
 have:=ZcC.1 ht
 simpa[Zy8,this]using h
theorem ZjL{ops:Array Oper}{c d:DOp}(h:Zpk ops c d=true):∃oc od,Ind ops c d oc od:=by
 unfold Zpk at h
 split at h
 ·rename_i oc od hc hd
  simp only[zA7,Bool.not_eq_true']at h
  obtain⟨⟨⟨⟨h1,h2⟩,h3⟩,⟨h4,h5⟩,h6⟩,⟨h7,h8⟩,h9⟩:=h
  refine⟨oc,od,hc,hd,ZhP h1,ZhP h2,Zou h3,Zms h4,Zms h5,Zq1 h6,?_,?_,?_⟩
  ·intro hm;rw[ZbG.2 hm]at h7;cases h7
  ·intro hm;rw[ZbG.2 hm]at h8;cases h8
  ·intro e;rw[e,ZgG]at h9;cases h9
 ·cases h
theorem Ind.symm'{ops:Array Oper}{c d:DOp}{oc od:Oper}(h:Ind ops c d oc od):Ind ops d c od oc:=by
 refine⟨h.hd,h.hc,h.dc,h.cd,?_,h.ldc,h.lcd,?_,h.vdc,h.vcd,h.i.symm⟩
 ·intro t ht
  cases hh:Zfk oc t with
  | false=>rfl
  | true=>rw[h.ne t hh]at ht;cases ht
 ·intro k hk
  cases hh:ZqT c.tk k with
  | false=>rfl
  | true=>rw[h.tk k hh]at hk;cases hk
section
variable {E:Env} {ops:Array Oper} {m0:Mem} {f:Fx} {c d:DOp} {oc od:Oper}
theorem Ztl(h:Ind ops c d oc od)(S S':St):Zop ops d od (Zmp c oc S S')=Zop ops d od S:=by
 refine St.ext' (funext λt=>?_) (funext λid=>?_) rfl (funext λk=>?_) rfl rfl rfl
 ·simp only[Zop,Zmp]
  cases ht:Zfk oc t with
  | true=>simp[h.cd t ht]
  | false=>simp
 ·simp only[Zop,Zmp]
  cases ht:mem c.ws id with
  | true=>simp[h.lcd id ht]
  | false=>simp
 ·simp only[Zop,Zmp]
  cases ht:ZqT c.tk k with
  | true=>simp[h.tk k ht]
  | false=>simp
theorem Ztm(h:Ind ops c d oc od)(hw:∀id,id∈d.ws->id∈d.rs)(S Sc Sd:St):Zmp c oc (Zmp d od S Sd) Sc=Zmp d od (Zmp c oc S Sc) Sd:=by
 refine St.ext' (funext λt=>?_) (funext λid=>?_) rfl (funext λk=>?_) rfl rfl rfl
 ·simp only[Zmp]
  cases ht:Zfk oc t with
  | true=>simp[h.ne t ht]
  | false=>simp
 ·simp only[Zmp]
  cases ht:mem c.ws id with
  | true=>
   have:mem d.ws id=false:=by
    cases hh:mem d.ws id with
    | false=>rfl
    | true=>
     have h1:=h.lcd id ht
     rw[ZbG.2 (hw id (ZbG.1 hh))]at h1;cases h1
   simp[this]
  | false=>simp
 ·simp only[Zmp]
  cases ht:ZqT c.tk k with
  | true=>simp[h.tk k ht]
  | false=>simp
theorem Ztn{μ:Nat->Mem}{i j:Nat}(h:i≠j)(a b:Mem):upd (upd μ i a) j b=upd (upd μ j b) i a:=by
 funext k
 simp only[upd]
 by_cases hk:k=j
 ·subst hk;simp[Zas (Ne.symm h)]
 ·simp[Zas hk]
theorem ZgS(h:Ind ops c d oc od)(S S':St)(μ:Nat->Mem)(m':Mem)(K:St->Mem->Prop):Zr9 E ops m0 f d (Zoq ops c S S') (upd μ c.i m') K=Zr9 E ops m0 f d S μ K:=by
 unfold Zr9 Zoq
 simp only[h.hd,h.hc,Ztl h,ZqX h.vcd]
theorem Zmt(S:St)(μ:Nat->Mem)(K:St->(Nat->Mem)->Prop):Zij E ops m0 f d S μ K=Zr9 E ops m0 f d S μ λS' m'=>K (Zoq ops d S S') (upd μ d.i m'):=rfl
def Zzj(E:Env)(ops:Array Oper)(m0:Mem)(f:Fx)(d:DOp)(S:St)(μ:Nat->Mem)(S':St)(m':Mem):Prop:=∀K:St->Mem->Prop,Zr9 E ops m0 f d S μ K->K S' m'
theorem Zpm{K:St->(Nat->Mem)->Prop}{S':St}{m':Mem}(hw:∀id,id∈d.ws->id∈d.rs):∀{r1 r2:List DOp} {S:St} {μ:Nat->Mem},(∀c∈r1,Zpk ops c d=true)->Zg3 E ops m0 f (r1++d::r2) K S μ->Zzj E ops m0 f d S μ S' m'->
  Zg3 E ops m0 f (r1++r2) K (Zoq ops d S S') (upd μ d.i m')
 | [],r2,S,μ,_,h,ho=>ho _ h
 | c::r1,r2,S,μ,hi,h,ho=>by
  obtain⟨oc,od,fF⟩:=ZjL (hi c (by simp))
  simp only[List.cons_append,Zg3,Zmt]at h ⊢
  rw[ZgS fF.symm']
  refine ZdK (λSc mc y=>?_) h
  have ih:=Zpm (S':=S') (m':=m') hw (r1:=r1) (r2:=r2) (λc hc=>hi c (by simp[hc])) y (λK hK=>by rw[ZgS fF]at hK;exact ho K hK)
  rw[Ztn fF.i]at ih
  have e:Zoq ops c (Zoq ops d S S') Sc=Zoq ops d (Zoq ops c S Sc) S':=by
   simp only[Zoq,fF.hc,fF.hd]
   exact Ztm fF hw S Sc S'
  rw[e];exact ih
end
theorem Zov{F:Fence}(hF:FOk F){n:Nat}{P:Program}{o:Oper}{a:Act}{w:World}{p:Prop}(h:o.wpIn F n P a w (λ_ _=>p) (λ_ _ _=>p)):p:=by
 have cP:∀k,F.room k:=λk d hd=>by rw[hF.depth]at hd;cases hd
 have h:=h.2
 generalize (o.semAt F.round a.eval).run P w=r at h
 cases r with
 | ok x w'=>
  cases x <;> simp only[Oper.uponIn]at h
  all_goals first
   | exact h
   | exact h.elim
   | (obtain⟨e,w'',fr,h,_⟩:=h.2.2 [] (cP _)
      cases e <;> first
       | exact h
       | (obtain⟨_,_,h⟩:=h;exact h))
   | (obtain⟨v,w'',h,_⟩:=h.2 default [] (cP _)
      exact h)
   | (obtain⟨e,w'',h,_⟩:=h.2.2 default [] (cP _)
      cases e <;> first
       | exact h
       | (obtain⟨_,_,h⟩:=h;exact h))
 | halt x w'=>
  cases x <;> simp only[Oper.uponIn]at h
  all_goals first
   | exact h
   | exact h.elim
theorem Zq2{a b:St}(h:∀id,a.L id=b.L id)(sv:SV):a.den sv=b.den sv:=by
 cases sv <;> simp only[St.den,h]
section
variable {C:Ctx} {E:Env} {ops:Array Oper} {m0:Mem} {f:Fx} {d:DOp} {o:Oper} {S:St} {μ:Nat->Mem} {A:Mem} {a:Act} {w:World}
theorem Zvo(rp:∀i,i∈Zmo d.rs o->i∈d.ws)(pK:∀i,i∈d.ws->i∈d.rs)(dR:∀i,i∈d.ws->i∈S.ids)(eK:∀k,d.tk=some k->k∈S.tkeys)(hr:Rel C S A a w)
  {S2:St} {A2:Mem} {a':Act} {w':World} {y:St×Mem} {g:Bool} {m M:Mem} (h:Rel C S2 A2 a' w') (ho:Out (Zmo d.rs o) d.tk g m M o.dst (Zop ops d o S) S y (S2,A2)):Rel C (Zmp d o S y.1) A2 a' w':=by
 have hL:∀id,(Zmp d o S y.1).L id=S2.L id:=by
  intro id
  simp only[Zmp]
  cases hm:mem d.ws id with
  | true=>
   simp only[cond_true]
   rcases ho.L id with⟨_,e⟩|⟨e1,e2⟩
   ·exact e
   ·rw[e1,e2]
    simp[Zop,ZbG.2 (pK id (ZbG.1 hm))]
  | false=>
   simp only[cond_false]
   rcases ho.L id with⟨hc,_⟩|⟨e1,e2⟩
   ·rw[ZbG.2 (rp id hc)]at hm;cases hm
   ·exact e2.symm
 have hT:∀k,(Zmp d o S y.1).tok k=S2.tok k:=by
  intro k
  simp only[Zmp]
  cases hm:ZqT d.tk k with
  | true=>
   simp only[cond_true]
   rcases ho.tok k with⟨_,e⟩|⟨e1,e2⟩
   ·exact e
   ·rw[e1,e2]
    simp[Zop,hm]
  | false=>
   simp only[cond_false]
   rcases ho.tok k with⟨hc,_⟩|⟨e1,e2⟩
   ·rw[ZcC.2 hc]at hm;cases hm
   ·exact e2.symm
 refine h.restrict (congrArg Prod.fst ho.gh2).symm (congrArg Prod.snd ho.gh2).symm (λid x hx=>by rw[<-hL];exact hx) (λk t ht=>.inl (by rw[<-hT];exact ht)) ?_ ?_ ?_
 ·intro i sv he
  have he':S2.env i=some sv:=by
   simp only[Zmp]at he
   cases hd:Zfk o i with
   | true=>
    simp only[hd,cond_true]at he
    exact ho.env1 i sv (ZcC.1 hd) he
   | false=>
    simp only[hd,cond_false]at he
    have:o.dst≠some i:=λe=>by rw[show Zfk o i=true from ZcC.2 e]at hd;cases hd
    exact(ho.env2 i this).trans he
  obtain⟨v,h1,h2⟩:=h.env i sv he'
  exact⟨v,by rw[Zq2 hL];exact h1,h2⟩
 ·intro id x hx
  show id∈S.ids
  cases hm:mem d.ws id with
  | true=>exact dR id (ZbG.1 hm)
  | false=>simp only[Zmp,hm,cond_false]at hx;exact hr.ids id x hx
 ·intro k t ht
  show k∈S.tkeys
  cases hm:ZqT d.tk k with
  | true=>exact eK k (ZcC.1 hm)
  | false=>simp only[Zmp,hm,cond_false]at ht;exact hr.tkeys k t ht
structure DOk (E:Env)(ops:Array Oper)(d:DOp)(o:Oper):Prop where
 at_:ops.toList[d.i]?=some o
 fp:Zsr E d.rs d.tk o=true
 chg:∀i,i∈Zmo d.rs o->i∈d.ws
 ws:∀i,i∈d.ws->i∈d.rs
theorem Zpn(hE:E.ok){F:Fence}(hF:FOk F)(hY:YOk E C)(aC:ZnZ C.n ops.toList=true)(fU:E.fix=none)(hd:DOk E ops d o)(dR:∀i,i∈d.ws->i∈S.ids)(eK:∀k,d.tk=some k->k∈S.tkeys)
  (hr:Rel C S A a w) (h0:m0.le A) (hv:∀j,j∈d.vw->(μ j).le A) (h:Zr9 E ops m0 f d S μ (λ_ _=>True)) {n:Nat} {Q:Exit->Act->World->Prop} {next:Act->World->Prop}
  (hK:∀S' m' A' a' w',Zzj E ops m0 f d S μ S' m'->Rel C (Zoq ops d S S') A' a' w'->A.le A'->m'.le A'->(Zdc o=false->A'=A)->next a' w'):wpOpIn F n E.P ops Q d.i next a w:=by
 unfold Zr9 at h
 simp only[hd.at_]at h
 obtain⟨V,vu,hV⟩:=Zot (l:=d.vw) h0 hv
 have oq:Less (Zop ops d o S) S:=⟨λt sv ht=>by
  simp only[Zop]at ht
  cases hm:mem (o.looksAt ops) t <;> simp[hm]at ht;exact ht,λid x hx=>by
  simp only[Zop]at hx
  cases hm:mem d.rs id <;> simp[hm]at hx;exact hx⟩
 have h2:opG E ops o S A (λS2 A2=>∃y1:St×Mem,(∀K:St×Mem->Prop,opG (E.fixed (f d.i)) ops o (Zop ops d o S) V (λS' m'=>K (S',m'))->K y1)/\Out (Zmo d.rs o) d.tk (Zdc o) V A o.dst (Zop ops d o S) S y1 (S2,A2)):=
  Zxi (rs:=d.rs) (tk:=d.tk) w fU oq (λid x hx=>by
   simp only[Zop]at hx
   cases hm:mem d.rs id with
   | true=>exact ZbG.1 hm
   | false=>simp[hm]at hx) (λid cZ=>by simp[Zop,ZbG.2 cZ]) (λk hk=>by simp[Zop,ZcC.2 hk]) vu hd.fp (hV _ h)
 have h3:=ZgO (th:=false) (.inr (ZjH hd.fp)) (K':=λS2 A2=>A.le A2/\∃y1:St×Mem,(∀K:St×Mem->Prop,opG (E.fixed (f d.i)) ops o (Zop ops d o S) V (λS' m'=>K (S',m'))->K y1)/\Out (Zmo d.rs o) d.tk (Zdc o) V A o.dst (Zop ops d o S) S y1 (S2,A2)) (λS' m' _ hm y=>⟨hm,y⟩) h2
 have ho':ops[d.i]?=some o:=by simpa using hd.at_
 have:=ZeG hE hF hY (ZeH aC d.i o hd.at_) hr h3 (n:=n) (Q:=Q) (next:=next) (λS2 A2 a' w' ⟨hA,y1,g1,g2⟩ aV=>by
  refine hK y1.1 y1.2 A2 a' w' ?_ ?_ hA g2.le (λhg=>(g2.same hg).2)
  ·intro K pW
   unfold Zr9 at pW
   simp only[hd.at_]at pW
   exact g1 (λy=>K y.1 y.2) (hV _ pW)
  ·simp only[Zoq,hd.at_]
   exact Zvo hd.chg hd.ws dR eK hr aV g2)
 unfold wpOpIn
 simp only[ho']
 exact this
end
theorem Zim(ops:Array Oper)(d:DOp)(S S':St):(Zoq ops d S S').ids=S.ids/\(Zoq ops d S S').tkeys=S.tkeys:=by
 unfold Zoq
 cases ops.toList[d.i]? <;> exact⟨rfl,rfl⟩
theorem Zpo(μ:Nat->Mem)(i:Nat)(m:Mem):upd μ i m i=m:=by simp[upd]
theorem Zvp{μ:Nat->Mem}{i j:Nat}(h:j≠i)(m:Mem):upd μ i m j=μ j:=by simp[upd,Zas h]
def ZwU:(Nat->Prop)->List DOp->Prop
 | _,[]=>True
 | D,c::r=>(∀j,j∈c.vw->D j)/\ZwU (λj=>D j\/j=c.i) r
theorem extract{C:Ctx}{E:Env}(hE:E.ok){F:Fence}(hF:FOk F)(hY:YOk E C){ops:Array Oper}(aC:ZnZ C.n ops.toList=true)(fU:E.fix=none){m0:Mem}{f:Fx}{d:DOp}{r2:List DOp}{K:St->(Nat->Mem)->Prop}:
  ∀{r1:List DOp} {D:Nat->Prop} {S:St} {μ:Nat->Mem} {A:Mem} {a:Act} {w:World},Rel C S A a w->m0.le A->(∀j,D j->(μ j).le A)->ZwU D r1->(∀c∈r1,(∃o,DOk E ops c o)/\(∀i,i∈c.ws->i∈S.ids)/\(∀k,c.tk=some k->k∈S.tkeys))->(∀c∈r1,Zpk ops c d=true)->
   Zg3 E ops m0 f (r1++d::r2) K S μ->Zr9 E ops m0 f d S μ (λ_ _=>True)
 | [],D,S,μ,A,a,w,hr,h0,hD,ht,hc,hi,h=>ZdK (λ_ _ _=>trivial) h
 | c::r1,D,S,μ,A,a,w,hr,h0,hD,ht,hc,hi,h=>by
  obtain⟨oc,od,fF⟩:=ZjL (hi c (by simp))
  obtain⟨⟨o,cE⟩,dR,eK⟩:=hc c (by simp)
  simp only[List.cons_append,Zg3,Zmt]at h
  have key:=Zpn (n:=0) (next:=λ_ _=>Zr9 E ops m0 f d S μ (λ_ _=>True)) (Q:=λ_ _ _=>Zr9 E ops m0 f d S μ (λ_ _=>True)) hE hF hY aC fU cE dR eK hr h0 (λj hj=>hD j (ht.1 j hj)) (ZdK (λ_ _ _=>trivial) h) (λS' m' A' a' w' eM aV hA hm _=>by
   have:=extract hE hF hY aC fU (r1:=r1) (D:=λj=>D j\/j=c.i) aV (mLt h0 hA) (λj hj=>by
    by_cases e:j=c.i
    ·subst e;rw[Zpo];exact hm
    ·rw[Zvp e];exact mLt (hD j (hj.resolve_right e)) hA) ht.2 (λc' hc'=>by
     obtain⟨h1,h2,h3⟩:=hc c' (by simp[hc'])
     exact⟨h1,λi hi=>by rw[(Zim ops c S S').1];exact h2 i hi,λk hk=>by rw[(Zim ops c S S').2];exact h3 k hk⟩) (λc' hc'=>hi c' (by simp[hc'])) (eM _ h)
   rwa [ZgS fF]at this)
  unfold wpOpIn at key
  have ho':ops[c.i]?=some o:=by simpa using cE.at_
  simp only[ho']at key
  split at key
  ·exact Zov hF key
  ·exact key.2
theorem Zin:∀{l:List DOp} {p j:Nat},j∈Zx2 l p->∃c∈l,c.i=p/\j∈c.an
 | [],p,j,h=>by simp[Zx2]at h
 | d::l,p,j,h=>by
  simp only[Zx2]at h
  cases hb:Nat.beq d.i p with
  | true=>simp only[hb,cond_true]at h;exact⟨d,by simp,Nat.eq_of_beq_eq_true hb,h⟩
  | false=>
   simp only[hb,cond_false]at h
   obtain⟨c,hc,h1⟩:=Zin h
   exact⟨c,by simp[hc],h1⟩
theorem Zmu{E:Env}{ops:Array Oper}:∀{r before l1:List DOp} {d:DOp} {l2:List DOp},Zhb E ops r before=true->r=l1++d::l2->ZwS E ops d (l1.reverse++before)=true
 | [],before,l1,d,l2,h,e=>by simp at e
 | x::r,before,[],d,l2,h,e=>by
  simp only[Zhb,zA7]at h
  simp at e
  rw[<-e.1];exact h.1
 | x::r,before,y::l1,d,l2,h,e=>by
  simp only[Zhb,zA7]at h
  simp at e
  obtain⟨rfl,e⟩:=e
  have:=Zmu h.2 e
  simpa using this
structure Fact (E:Env)(ops:Array Oper)(ds:List DOp)(d:DOp)(o:Oper):Prop where
 ok:DOk E ops d o
 vw:∀j,j∈d.vw->j∈d.an
 an:∀j,j∈d.an->j∈Zdd o\/∃p∈Zdd o,∃c∈ds,c.i=p/\j∈c.an
theorem Zio{E:Env}{ops:Array Oper}{ds:List DOp}(h:Zhb E ops ds []=true){l1 l2:List DOp}{d:DOp}(e:ds=l1++d::l2):
  ∃o,Fact E ops ds d o/\(∀p∈Zdd o,∃c∈l1,c.i=p)/\(∀c∈l1,(c.i∈d.an\/Zpk ops c d=true)/\c.i≠d.i):=by
 have h1:=Zmu h e
 simp only[List.append_nil]at h1
 unfold ZwS at h1
 split at h1
 ·cases h1
 ·rename_i o ho
  simp only[zA7,List.all_eq_true,Bool.or_eq_true,List.any_eq_true]at h1
  obtain⟨⟨⟨⟨⟨⟨g1,g2⟩,g3⟩,g4,g5⟩,g6⟩,g7⟩,g8⟩:=h1
  have eV:∀c∈l1.reverse,c∈ds:=λc hc=>by rw[e];simp at hc ⊢;exact .inl hc
  refine⟨o,⟨⟨ho,g1,Zga g2,Zga g3⟩,Zga g4,λj hj=>?_⟩,λp hp=>?_,λc hc=>⟨?_,?_⟩⟩
  ·rcases g6 j hj with h2|⟨p,hp,h2⟩
   ·exact .inl (ZbG.1 h2)
   ·obtain⟨c,hc,h3,h4⟩:=Zin (ZbG.1 h2)
    exact .inr ⟨p,hp,c,eV c hc,h3,h4⟩
  ·have:=Zga g5 p hp
   obtain⟨c,hc,h2⟩:=List.mem_map.1 this
   exact⟨c,by simpa using hc,h2⟩
  ·exact(g7 c (by simpa using hc)).imp ZbG.1 id
  ·have:=g8 c (by simpa using hc)
   intro e;rw[e,ZgG]at this;simp at this
theorem Zfl{α:Type}{R:α->α->Prop}:∀{l:List α},(∀l1 d l2,l=l1++d::l2->∀c∈l1,R c d)->l.Pairwise R
 | [],_=>List.Pairwise.nil
 | x::l,h=>by
  refine List.Pairwise.cons (λy hy=>?_) (Zfl λl1 d l2 e c hc=>h (x::l1) d l2 (by simp[e]) c (by simp[hc]))
  obtain⟨s,t,rfl⟩:=List.append_of_mem hy
  exact h (x::s) y t (by simp) x (by simp)
structure Inv (ds:List DOp)(dn:Nat->Bool)(rem:List DOp):Prop where
 rem:rem=ds.filter λc=>!dn c.i
 closed:∀d∈ds,dn d.i=true->∀j,j∈d.an->dn j=true
section
variable {E:Env} {ops:Array Oper} {ds:List DOp} {dn:Nat->Bool}
theorem Inv.an_of{rem:List DOp}(h:Inv ds dn rem){d:DOp}{o:Oper}(hd:Fact E ops ds d o)(hp:∀p,p∈Zdd o->dn p=true):∀j,j∈d.an->dn j=true:=λj hj=>by
 rcases hd.an j hj with h1|⟨p,h1,c,h2,h3,h4⟩
 ·exact hp j h1
 ·exact h.closed c h2 (h3 ▸ hp p h1) j h4
theorem Inv.step{r1 r2:List DOp}{d:DOp}(hp:ds.Pairwise λc d=>c.i≠d.i)(h:Inv ds dn (r1++d::r2))(hd:∀j,j∈d.an->dn j=true):Inv ds (λj=>dn j||Nat.beq j d.i) (r1++r2):=by
 have gd:(r1++d::r2).Pairwise λc d=>c.i≠d.i:=by rw[h.rem];exact hp.sublist List.filter_sublist
 refine⟨?_,λc hc tC j hj=>?_⟩
 ·have e:(ds.filter λc=>!(dn c.i||Nat.beq c.i d.i))=(r1++d::r2).filter λc=>!Nat.beq c.i d.i:=by
   rw[h.rem,List.filter_filter]
   congr 1;funext c
   cases dn c.i <;> simp
  rw[e,List.filter_append,List.filter_cons]
  simp only[ZgG,Bool.not_true,Bool.false_eq_true,if_false]
  rw[List.pairwise_append]at gd
  obtain⟨_,h2,h3⟩:=gd
  rw[List.pairwise_cons]at h2
  rw[List.filter_eq_self.2,List.filter_eq_self.2]
  ·intro c hc
   have:=h2.1 c hc
   simp[Zas (Ne.symm this)]
  ·intro c hc
   have:=h3 c hc d (by simp)
   simp[Zas this]
 ·simp only[Bool.or_eq_true]at tC ⊢
  rcases tC with h1|h1
  ·exact .inl (h.closed c hc h1 j hj)
  ·have:c=d:=by
    have lj:d∈ds:=by
     have:d∈ds.filter λc=>!dn c.i:=by rw[<-h.rem];simp
     exact(List.mem_filter.1 this).1
    have hi:=Nat.eq_of_beq_eq_true h1
    by_cases e:c=d
    ·exact e
    ·exfalso
     obtain⟨s,t,rfl⟩:=List.append_of_mem hc
     rw[List.pairwise_append,List.pairwise_cons]at hp
     simp only[List.mem_append,List.mem_cons]at lj
     rcases lj with lj|lj|lj
     ·exact hp.2.2 d lj c (by simp) hi.symm
     ·exact e lj.symm
     ·exact hp.2.1.1 d lj hi
   subst this
   exact .inl (hd j hj)
theorem Inv.head{d:DOp}{r:List DOp}(cE:Zhb E ops ds []=true)(h:Inv ds dn (d::r)):∃o,Fact E ops ds d o/\∀p,p∈Zdd o->dn p=true:=by
 obtain⟨l1,l2,h1,h2,h3,_⟩:=List.filter_eq_cons_iff.1 h.rem.symm
 obtain⟨o,hf,hp,_⟩:=Zio cE h1
 refine⟨o,hf,λp j5=>?_⟩
 obtain⟨c,hc,rfl⟩:=hp p j5
 have:=h2 c hc
 simpa using this
theorem Inv.topo(cE:Zhb E ops ds []=true)(hp:ds.Pairwise λc d=>c.i≠d.i):∀{r1 r2:List DOp} {dn:Nat->Bool},Inv ds dn (r1++r2)->ZwU (λj=>dn j=true) r1
 | [],r2,dn,h=>trivial
 | c::r1,r2,dn,h=>by
  obtain⟨o,hf,gd⟩:=h.head cE
  have np:=h.an_of hf gd
  refine⟨λj hj=>np j (hf.vw j hj),?_⟩
  have:=Inv.topo cE hp (r1:=r1) (r2:=r2) (Inv.step (r1:=[]) hp h np)
  have e:(λj=>(dn j||Nat.beq j c.i)=true)=(λj=>dn j=true\/j=c.i):=by
   funext j
   rw[Bool.or_eq_true]
   exact propext ⟨λh=>h.imp id Nat.eq_of_beq_eq_true,λh=>h.imp id λe=>by rw[e];exact ZgG _⟩
  rw[e]at this
  exact this
end
theorem Zgb{ops:Array Oper}:∀{ds:List DOp} {j:Nat},j∈Zg5 ops ds->∃d∈ds,d.i=j
 | [],j,h=>by simp[Zg5]at h
 | d::r,j,h=>by
  simp only[Zg5]at h
  split at h
  ·obtain⟨c,hc,e⟩:=Zgb h;exact⟨c,by simp[hc],e⟩
  ·rename_i o _
   cases hg:Zdc o with
   | true=>
    simp only[hg,cond_true,List.mem_cons]at h
    rcases h with h|h
    ·exact⟨d,by simp,h.symm⟩
    ·obtain⟨c,hc,e⟩:=Zgb h;exact⟨c,by simp[hc],e⟩
   | false=>
    simp only[hg,cond_false]at h
    obtain⟨c,hc,e⟩:=Zgb h;exact⟨c,by simp[hc],e⟩
theorem Zip{ops:Array Oper}:∀{ds:List DOp},Zg5 ops ds=[]->∀d∈ds,∀o,ops.toList[d.i]?=some o->Zdc o=false
 | [],_,d,hd=>by simp at hd
 | c::r,h,d,hd=>λo ho=>by
  simp only[Zg5]at h
  rcases List.mem_cons.1 hd with rfl|hd
  ·simp only[ho]at h
   cases hg:Zdc o with
   | false=>rfl
   | true=>simp[hg]at h
  ·split at h
   ·exact Zip h d hd o ho
   ·rename_i oc _
    cases hg:Zdc oc with
    | true=>simp[hg]at h
    | false=>simp only[hg,cond_false]at h;exact Zip h d hd o ho
theorem Zmv{C:Ctx}{E:Env}(hE:E.ok){F:Fence}(hF:FOk F)(hY:YOk E C){ops:Array Oper}(aC:ZnZ C.n ops.toList=true)(fU:E.fix=none){m0:Mem}{f:Fx}{ds:List DOp}(cE:Zhb E ops ds []=true)
  {n e:Nat} {Q:Exit->Act->World->Prop} {K:St->Mem->Prop}
  (mw:∀(listed:Array Bool)(rem:List DOp) i,Inv ds (λj=>listed.getD j false) rem->(∀j,listed.getD j false=true->∃d∈ds,d.i=j)->listed.size=ops.size->i∈Region.ready .any ops listed->(∃d∈ds,d.i=i)\/∀d∈ds,listed.getD d.i false=true)
  (jq:∀(fuel:Nat)(listed:Array Bool)(S':St)(m':Mem)(a':Act)(w':World),e<=fuel->listed.size=ops.size->(∀d∈ds,listed.getD d.i false=true)->(∀j,listed.getD j false=true->∃d∈ds,d.i=j)->K S' m'->Rel C S' m' a' w'->wpAnyIn F n E.P .any ops Q fuel listed a' w'):
  ∀(fuel:Nat){listed:Array Bool}{rem:List DOp}{S:St}{μ:Nat->Mem}{A:Mem}{a:Act}{w:World},listed.size=ops.size->Inv ds (λj=>listed.getD j false) rem->rem.length+e<=fuel->Rel C S A a w->m0.le A->
   (∀j,listed.getD j false=true->(μ j).le A)->(∀j,listed.getD j false=true->∃d∈ds,d.i=j)->(Zg5 ops ds=[]->A=m0)->(∀d∈ds,(∀i,i∈d.ws->i∈S.ids)/\∀k,d.tk=some k->k∈S.tkeys)->
   Zg3 E ops m0 f rem (λS' μ=>ZwQ m0 μ (Zg5 ops ds) λM=>K S' M) S μ->wpAnyIn F n E.P .any ops Q fuel listed a w:=by
 have iw:ds.Pairwise λc d=>(c.i∈d.an\/Zpk ops c d=true)/\c.i≠d.i:=Zfl λl1 d l2 e c hc=>by
  obtain⟨o,_,_,h⟩:=Zio cE e
  exact h c hc
 have nk:ds.Pairwise λc d=>c.i≠d.i:=iw.imp λh=>h.2
 have factOf:∀d∈ds,∃o,Fact E ops ds d o:=λd hd=>by
  obtain⟨s,t,e⟩:=List.append_of_mem hd
  obtain⟨o,h,_⟩:=Zio cE e
  exact⟨o,h⟩
 have allOf:∀{listed:Array Bool} {rem:List DOp},Inv ds (λj=>listed.getD j false) rem->rem=[]->∀d∈ds,listed.getD d.i false=true:=λdN he d hd=>by
  subst he
  have:=List.filter_eq_nil_iff.1 dN.rem.symm d hd
  simpa using this
 have fin:∀{fuel:Nat} {listed:Array Bool} {rem:List DOp} {S:St} {μ:Nat->Mem} {A:Mem} {a:Act} {w:World},listed.size=ops.size->Inv ds (λj=>listed.getD j false) rem->Rel C S A a w->m0.le A->(∀j,listed.getD j false=true->(μ j).le A)->(∀j,listed.getD j false=true->∃d∈ds,d.i=j)->(Zg5 ops ds=[]->A=m0)->
   Zg3 E ops m0 f rem (λS' μ=>ZwQ m0 μ (Zg5 ops ds) λM=>K S' M) S μ->rem=[]->e<=fuel->wpAnyIn F n E.P .any ops Q fuel listed a w:=by
  intro fuel listed rem S μ A a w bE dN hr h0 hμ hl hg hn he ot
  have cR:=allOf dN he
  subst he
  refine jq fuel listed S A a w ot bE cR hl (ZqY hn h0 hg λj hj=>?_) hr
  obtain⟨d,hd,rfl⟩:=Zgb hj
  exact hμ _ (cR d hd)
 have stuck:∀{listed:Array Bool} {rem:List DOp},listed.size=ops.size->Inv ds (λj=>listed.getD j false) rem->Region.ready .any ops listed=[]->rem=[]:=by
  intro listed rem bE dN cD
  cases rem with
  | nil=>rfl
  | cons d r=>
   exfalso
   obtain⟨o,hf,hp⟩:=dN.head cE
   have cH:d∈ds.filter λc=>!listed.getD c.i false:=by rw[<-dN.rem];simp
   have h1:=(List.mem_filter.1 cH).2
   have ho':ops[d.i]?=some o:=by simpa using hf.ok.at_
   have aI:d.i < ops.size:=(Array.getElem?_eq_some_iff.1 ho').1
   have:d.i∈Region.ready .any ops listed:=mem_ready.2 ⟨by
    have hl:d.i < listed.size:=by omega
    simpa[Array.getD,hl]using h1,o,ho',λe he hb=>hp e.on (by
     simp only[Zdd,List.mem_map,List.mem_filter]
     exact⟨e,⟨by simpa using he,hb⟩,rfl⟩)⟩
   rw[cD]at this;simp at this
 intro fuel
 induction fuel with
 | zero=>
  intro listed rem S μ A a w bE dN aH hr h0 hμ kt hg dR hn
  have he:rem=[]:=List.eq_nil_of_length_eq_zero (by omega)
  exact fin bE dN hr h0 hμ kt hg hn he (by omega)
 | succ fuel ih=>
  intro listed rem S μ A a w bE dN aH hr h0 hμ kt hg dR hn
  by_cases my:rem=[]
  ·exact fin bE dN hr h0 hμ kt hg hn my (by omega)
  refine⟨λcD=>absurd (stuck bE dN cD) my,λi hi=>?_⟩
  rcases mw listed rem i dN kt bE hi with⟨d,hd,rfl⟩|ou
  rotate_left
  ·exfalso
   apply my
   rw[dN.rem,List.filter_eq_nil_iff]
   intro d hd
   simp[ou d hd]
  obtain⟨mz,o,ho,cR⟩:=mem_ready.1 hi
  have aI:d.i < ops.size:=(Array.getElem?_eq_some_iff.1 ho).1
  have hl:d.i < listed.size:=by omega
  have ru:listed.getD d.i false=false:=by simp[Array.getD,hl]at mz ⊢;exact mz
  obtain⟨o',hf⟩:=factOf d hd
  have:o'=o:=by
   have h1:=hf.ok.at_
   have h2:ops.toList[d.i]?=some o:=by simpa using ho
   rw[h1]at h2;exact Option.some.inj h2
  subst this
  have gd:∀p,p∈Zdd o'->listed.getD p false=true:=λp hp=>by
   simp only[Zdd,List.mem_map,List.mem_filter]at hp
   obtain⟨e,⟨he,hb⟩,rfl⟩:=hp
   exact cR e (by simpa using he) hb
  have np:=dN.an_of hf gd
  have rv:d∈rem:=by rw[dN.rem];exact List.mem_filter.2 ⟨hd,by simp[ru]⟩
  obtain⟨r1,r2,rfl⟩:=List.append_of_mem rv
  have dx:(r1++d::r2).Sublist ds:=by rw[dN.rem];exact List.filter_sublist
  have ov:=iw.sublist dx
  have fF:∀c∈r1,Zpk ops c d=true:=λc hc=>by
   rw[List.pairwise_append]at ov
   rcases(ov.2.2 c hc d (by simp)).1 with h1|h1
   ·have h2:=np _ h1
    have vv:c∈ds.filter λc=>!listed.getD c.i false:=by rw[<-dN.rem];simp[hc]
    have h3:=(List.mem_filter.1 vv).2
    rw[h2]at h3;cases h3
   ·exact h1
  have eV:∀c∈r1++d::r2,c∈ds:=λc hc=>dx.subset hc
  have hT:=extract hE hF hY aC fU (r1:=r1) (D:=λj=>listed.getD j false=true) hr h0 hμ (dN.topo cE nk) (λc hc=>by
   obtain⟨oc,kV⟩:=factOf c (eV c (by simp[hc]))
   exact⟨⟨oc,kV.ok⟩,dR c (eV c (by simp[hc]))⟩) fF hn
  refine Zpn hE hF hY aC fU hf.ok (dR d hd).1 (dR d hd).2 hr h0 (λj hj=>hμ j (np j (hf.vw j hj))) hT ?_
  intro S' m' A' a' w' eM aV hA hm lm
  have ow:(λj=>(listed.setIfInBounds d.i true).getD j false)=λj=>listed.getD j false||Nat.beq j d.i:=by
   funext j
   by_cases hj:j=d.i
   ·subst hj;simp[Array.getD,hl]
   ·have:Nat.beq j d.i=false:=Zas hj
    rw[getD_set_ne false (Ne.symm hj),this,Bool.or_false]
  refine ih (rem:=r1++r2) (S:=Zoq ops d S S') (μ:=upd μ d.i m') (A:=A') (by simpa using bE) ?_ (by simp at aH ⊢;omega) aV (mLt h0 hA) ?_ ?_ ?_ ?_ (Zpm hf.ok.ws fF hn eM)
  ·rw[ow];exact dN.step nk np
  ·intro j hj
   have hj':(listed.getD j false||Nat.beq j d.i)=true:=by rw[<-hj];exact(congrFun ow j).symm
   by_cases e:j=d.i
   ·subst e;rw[Zpo];exact hm
   ·rw[Zvp e]
    rw[Zas e,Bool.or_false]at hj'
    exact mLt (hμ j hj') hA
  ·intro j hj
   have hj':(listed.getD j false||Nat.beq j d.i)=true:=by rw[<-hj];exact(congrFun ow j).symm
   rw[Bool.or_eq_true]at hj'
   rcases hj' with h|h
   ·exact kt j h
   ·exact⟨d,hd,(Nat.eq_of_beq_eq_true h).symm⟩
  ·intro tD
   rw[lm (Zip tD d hd o' hf.ok.at_)]
   exact hg tD
  ·intro c hc
   rw[(Zim ops d S S').1,(Zim ops d S S').2]
   exact dR c hc
theorem Zmw:∀{ds:List DOp} {d:DOp} {i:Nat},d∈ds->i∈d.ws->i∈Zvl ds
 | [],d,i,hd,_=>by simp at hd
 | c::r,d,i,hd,hi=>by
  simp only[Zvl,List.mem_append]
  rcases List.mem_cons.1 hd with rfl|hd
  ·exact .inl hi
  ·exact .inr (Zmw hd hi)
theorem Zmx:∀{ds:List DOp} {d:DOp} {k:Nat},d∈ds->d.tk=some k->k∈ZuK ds
 | [],d,k,hd,_=>by simp at hd
 | c::r,d,k,hd,hk=>by
  simp only[ZuK]
  rcases List.mem_cons.1 hd with rfl|hd
  ·simp[hk]
  ·have:=Zmx hd hk
   cases c.tk <;> simp[this]
theorem Zmy{C:Ctx}{S:St}{m:Mem}{a:Act}{w:World}(h:Rel C S m a w)(ds:List DOp):Rel C (Zik ds S) m a w:=
 h.restrict rfl rfl (λ_ _ hx=>hx) (λ_ _ ht=>.inl ht) (λi sv he=>by
  obtain⟨v,h1,h2⟩:=h.env i sv he
  exact⟨v,by cases sv <;> exact h1,h2⟩) (λid x hx=>by simp only[Zik];exact List.mem_append_right _ (h.ids id x hx)) (λk t ht=>by simp only[Zik];exact List.mem_append_right _ (h.tkeys k t ht))
theorem ZjM{E:Env}(hE:E.ok)(dY:E.P.follows .mixedOrders=true):Zc3 E (Zor E):=by
 intro C F hF hY n id ops K S m a w Q aC hr h hK
 have over:∀(fuel:Nat)(listed:Array Bool)(S':St)(m':Mem)(a':Act)(w':World),listed.size=ops.size->(∀j,j < ops.size->listed.getD j false=true)->K S' m'->Rel C S' m' a' w'->wpAnyIn F n E.P .any ops Q fuel listed a' w':=by
  intro fuel listed S' m' a' w' bE cR hk aV
  have mA:Region.ready .any ops listed=[]:=by
   cases cD:Region.ready .any ops listed with
   | nil=>rfl
   | cons i l=>
    exfalso
    have hi:i∈Region.ready .any ops listed:=by rw[cD];simp
    obtain⟨mz,o,ho,_⟩:=mem_ready.1 hi
    have aI:i < ops.size:=(Array.getElem?_eq_some_iff.1 ho).1
    have h1:=cR i aI
    have hl:i < listed.size:=by omega
    simp[Array.getD,hl]at mz h1
    rw[mz]at h1;cases h1
  cases fuel with
  | zero=>exact⟨mA,hK _ _ _ _ hk aV⟩
  | succ fuel=>exact⟨λ_=>hK _ _ _ _ hk aV,λi hi=>by rw[mA]at hi;simp at hi⟩
 unfold Zor at h
 obtain⟨h1,h2⟩:=Zag h
 obtain⟨f,h2⟩:=Ztj h2
 have h2:Zg3 E ops m f (E.dr id) (λS' μ=>ZwQ m μ (Zg5 ops (E.dr id)) λM=>bif E.last id then ZqW E ops (E.lastK id) K S' M else K S' M) (Zik (E.dr id) S) (λ_=>m):=by
  cases om:E.gb with
  | false=>simp only[om,cond_false]at h2;exact h2
  | true=>simp only[om,cond_true]at h2;exact ZhO h2
 simp only[Zvm,zA7,List.all_eq_true,List.any_eq_true]at h1
 obtain⟨⟨⟨⟨mw,aH⟩,cE⟩,fU⟩,eO⟩:=h1
 refine wpIn_region_any dY ?_
 have ge:∀i,i < (bif E.last id then ops.size - E.lastK id else ops.size)->∃d∈E.dr id,d.i=i:=λi hi=>by
  obtain⟨d,hd,e⟩:=mw i (List.mem_range.2 hi)
  exact⟨d,hd,Nat.eq_of_beq_eq_true e⟩
 have aH:(E.dr id).length<=ops.size:=Nat.le_of_ble_eq_true aH
 have inv0:Inv (E.dr id) (λj=>(Array.replicate ops.size false).getD j false) (E.dr id):=by
  refine⟨(List.filter_eq_self.2 λc hc=>?_).symm,λd hd ow=>?_⟩
  ·simp[Array.getD]
  ·simp[Array.getD]at ow
 have none0:∀j,(Array.replicate ops.size false).getD j false=true->False:=λj hj=>by simp[Array.getD]at hj
 have ids0:∀d∈E.dr id,(∀i,i∈d.ws->i∈(Zik (E.dr id) S).ids)/\∀k,d.tk=some k->k∈(Zik (E.dr id) S).tkeys:=λd hd=>
  ⟨λi hi=>List.mem_append_left _ (Zmw hd hi),λk hk=>List.mem_append_left _ (Zmx hd hk)⟩
 cases hl:E.last id with
 | false=>
  simp only[hl,cond_false]at h2 ge
  refine Zmv hE hF hY aC (by simpa using fU) cE (e:=0) (λlisted _ i _ _ _ hi=>.inl ?_) (λfuel listed S' m' a' w' _ bE cR _ hk aV=>over fuel listed S' m' a' w' bE (λj hj=>by obtain⟨d,hd,rfl⟩:=ge j hj;exact cR d hd) hk aV) ops.size (rem:=E.dr id) (A:=m) (by simp) inv0 (by omega) ((Zmy hr.drew (E.dr id))) (Mem.le_refl m) (λj hj=>(none0 j hj).elim) (λj hj=>(none0 j hj).elim) (λ_=>rfl) ids0 h2
  obtain⟨_,o,ho,_⟩:=mem_ready.1 hi
  exact ge i (Array.getElem?_eq_some_iff.1 ho).1
 | true=>
  simp only[hl,cond_true]at h2 ge eO
  generalize E.lastK id=k at *
  unfold Zvn at eO
  simp only[zA7,List.all_eq_true]at eO
  obtain⟨⟨mg,oz⟩,vA⟩:=eO
  have mg:=Nat.le_of_ble_eq_true mg
  have gv:∀i,ops.size - k<=i->i < ops.size->∃o,ops[i]?=some o/\(ops.size - k < i->i - 1∈Zdd o)/\(∀j∈Zdd o,j < i)/\(i=ops.size - k->∀j,j < ops.size - k->j∈Zdd o\/∃p∈Zdd o,∃c∈E.dr id,c.i=p/\j∈c.an):=by
   intro i h1 h2
   have:=oz (i - (ops.size - k)) (List.mem_range.2 (by omega))
   rw[show ops.size - k+(i - (ops.size - k))=i by omega]at this
   split at this
   ·cases this
   ·rename_i o ho
    simp only[zA7,List.all_eq_true]at this
    refine⟨o,by simpa using ho,λhj=>?_,λj hj=>Nat.le_of_ble_eq_true (this.2.1 j hj),λhi j hj=>?_⟩
    ·have h3:=this.1
     simp only[Bool.or_eq_true,ZbG]at h3
     rcases h3 with h3|h3
     ·have:=Nat.eq_of_beq_eq_true h3;omega
     ·exact h3
    ·have h3:=this.2.2
     rw[hi,Nat.sub_self]at h3
     simp only[show Nat.beq 0 0=true from rfl,cond_true,List.all_eq_true,Bool.or_eq_true,List.any_eq_true]at h3
     rcases h3 j (List.mem_range.2 hj)with h4|⟨p,hp,h4⟩
     ·exact .inl (ZbG.1 h4)
     ·obtain⟨c,hc,h5,h6⟩:=Zin (ZbG.1 h4)
      exact .inr ⟨p,hp,c,hc,h5,h6⟩
  have ku:∀d∈E.dr id,d.i < ops.size - k:=λd hd=>Nat.le_of_ble_eq_true (vA d hd)
  have xk:(E.dr id).length+k<=ops.size:=by
   have nk:(E.dr id).Pairwise λc d=>c.i≠d.i:=Zfl λl1 d l2 e c hc=>by
    obtain⟨o,_,_,h⟩:=Zio cE e
    exact(h c hc).2
   have eJ:((E.dr id).map (·.i)).Nodup:=by
    unfold List.Nodup
    rw[List.pairwise_map]
    exact nk
   have:=List.Nodup.length_le_of_subset eJ (l₂:=List.range (ops.size - k)) (λj hj=>by
    obtain⟨d,hd,rfl⟩:=List.mem_map.1 hj
    exact List.mem_range.2 (ku d hd))
   simp at this
   omega
  have tail:∀(r:List Oper)(i:Nat),ops.toList.drop i=r->ops.size - k<=i->i<=ops.size->∀(fuel:Nat)(listed:Array Bool)(S':St)(m':Mem)(a':Act)(w':World),r.length<=fuel->listed.size=ops.size->(∀j,j < i->listed.getD j false=true)->(∀j,i<=j->listed.getD j false=false)->ZqV E ops K r S' m'->Rel C S' m' a' w'->wpAnyIn F n E.P .any ops Q fuel listed a' w':=by
   intro r
   induction r with
   | nil=>
    intro i hi h1 h2 fuel listed S' m' a' w' _ bE cR _ hk aV
    have:ops.size<=i:=by
     have:=congrArg List.length hi
     simp at this
     omega
    exact over fuel listed S' m' a' w' bE (λj hj=>cR j (by omega)) hk aV
   | cons o r ih=>
    intro i hi h1 h2 fuel listed S' m' a' w' ot bE cR eN hk aV
    have dZ:i < ops.size:=by
     have:=congrArg List.length hi
     simp at this
     omega
    obtain⟨o',ho',vB,fE,_⟩:=gv i h1 dZ
    have tE:ops.toList[i]?=some o:=by
     have:=congrArg (λl=>l[0]?) hi
     simpa using this
    have vC:o'=o:=by
     have:ops.toList[i]?=some o':=by simpa using ho'
     rw[tE]at this;cases this;rfl
    subst vC
    have vD:ops.toList.drop (i+1)=r:=by
     have:=congrArg (List.drop 1) hi
     simpa[List.drop_drop,Nat.add_comm]using this
    obtain⟨fuel,rfl⟩:∃k,fuel=k+1:=⟨fuel - 1,by simp at ot;omega⟩
    have mz:listed.getD i false=false:=eN i (Nat.le_refl _)
    have eG:i < listed.size:=by omega
    refine⟨λcD=>?_,λq hq=>?_⟩
    ·exfalso
     have:i∈Region.ready .any ops listed:=mem_ready.2 ⟨by simpa[Array.getD,eG]using mz,o',ho',λe he hb=>?_⟩
     ·rw[cD]at this;simp at this
     ·have hm:e.on∈Zdd o':=by
       simp only[Zdd,List.mem_map,List.mem_filter]
       exact⟨e,⟨by simpa using he,hb⟩,rfl⟩
      exact cR _ (fE _ hm)
    ·obtain⟨tF,o2,gC,gd⟩:=mem_ready.1 hq
     have hq':q < ops.size:=(Array.getElem?_eq_some_iff.1 gC).1
     have:q=i:=by
      by_cases h3:q < i
      ·have h4:=cR q h3
       have hl:q < listed.size:=by omega
       simp[Array.getD,hl]at tF h4
       rw[tF]at h4;cases h4
      ·by_cases h4:q=i
       ·exact h4
       ·exfalso
        obtain⟨o3,rx,ry,_⟩:=gv q (by omega) hq'
        rw[rx]at gC;cases gC
        have:=ry (by omega)
        simp only[Zdd,List.mem_map,List.mem_filter]at this
        obtain⟨e,⟨he,hb⟩,h5⟩:=this
        have:=gd e (by simpa using he) hb
        rw[h5,eN (q - 1) (by omega)]at this;cases this
     subst this
     simp only[ZqV]at hk
     have:=Zjx hE hF hY (ZeH aC _ o' tE) aV hk (n:=n) (Q:=Q) (next:=wpAnyIn F n E.P .any ops Q fuel (listed.setIfInBounds q true)) (λS2 m2 a2 w2 i6 oA=>ih (q+1) vD (by omega) (by omega) fuel _ S2 m2 a2 w2 (by simp at ot;omega) (by simpa using bE) (λj hj=>by
      by_cases e:j=q
      ·subst e;simp[Array.getD,eG]
      ·rw[getD_set_ne false (Ne.symm e)]
       exact cR j (by omega)) (λj hj=>by
      rw[getD_set_ne false (by omega)]
      exact eN j (by omega)) i6 oA)
     unfold wpOpIn
     simp only[ho']
     exact this
  refine Zmv hE hF hY aC (by simpa using fU) cE (e:=k) (λlisted rem i dN kt bE hi=>?_) (λfuel listed S' m' a' w' ot bE cR kt hk aV=>?_) ops.size (rem:=E.dr id) (A:=m) (by simp) inv0 (by omega) ((Zmy hr.drew (E.dr id))) (Mem.le_refl _) (λj hj=>(none0 j hj).elim) (λj hj=>(none0 j hj).elim) (λ_=>rfl) ids0 h2
  ·obtain⟨_,o2,gC,cR⟩:=mem_ready.1 hi
   have hi':i < ops.size:=(Array.getElem?_eq_some_iff.1 gC).1
   by_cases gM:i < ops.size - k
   ·exact .inl (ge i gM)
   ·right
    obtain⟨o3,rx,ry,_,vE⟩:=gv i (by omega) hi'
    have vF:o2=o3:=by rw[rx]at gC;cases gC;rfl
    subst vF
    have iB:∀j∈Zdd o2,listed.getD j false=true:=λj hj=>by
     simp only[Zdd,List.mem_map,List.mem_filter]at hj
     obtain⟨e,⟨he,hb⟩,h3⟩:=hj
     have:=cR e (by simpa using he) hb
     rw[h3]at this
     exact this
    intro d hd
    by_cases vG:i=ops.size - k
    ·rcases vE vG d.i (ku d hd)with h3|⟨p,hp,c,hc,h3,h4⟩
     ·exact iB _ h3
     ·exact dN.closed c hc (h3 ▸ iB p hp) d.i h4
    ·exfalso
     have h3:=iB _ (ry (by omega))
     obtain⟨d',hd',h4⟩:=kt _ h3
     have:=ku d' hd'
     omega
  ·unfold ZqW at hk
   refine tail _ (ops.size - k) rfl (Nat.le_refl _) (Nat.sub_le _ _) fuel listed S' m' a' w' (by simp;omega) bE (λj hj=>?_) (λj hj=>?_) hk aV
   ·obtain⟨d,hd,rfl⟩:=ge j hj
    exact cR d hd
   ·cases hb:listed.getD j false with
    | false=>rfl
    | true=>
     obtain⟨d,hd,h3⟩:=kt _ hb
     have:=ku d hd
     omega
theorem Zgc{E:Env}(hE:E.ok)(dY:E.P.follows .mixedOrders=true):Zc3 E (ZaW E):=by
 intro C F hF hY n id ops K S m a w Q aC hr h hK
 obtain⟨S2,m2,eH,h2⟩:=ZgL hr h
 unfold ZwT at h2
 split at h2
 ·exact ZjM hE dY hF hY n id ops aC eH h2 hK
 ·split at h2
  ·rename_i mm hL eD
   obtain⟨c1,b,cs,y1,y2,y3,y4,y5⟩:=Zag h2
   simp only[zA7,Bool.not_eq_true']at c1
   obtain⟨T,cap,jV⟩:=eH.acqB hY eD c1.2.2 hL y1 y2 y3 y4
   exact ZjM hE dY hF hY n id ops aC jV (y5 T cap) hK
  ·exact h2.elim
def Zgd(fn:Func):Code:=match fn.body with
 | some c=>c
 | none=>.skip
def Env.at(E:Env)(m:Mem):Env:={ E with m0:=some m }
def FW(E:Env)(fn:Func)(svs:List SV)(xs:List Box)(m:Mem)(R:Value->Mem->List (List Value)->Prop):Prop:=
 W (E.at m) (ZaW (E.at m)) (Zgd fn) (Zzi (E.at m) fn.results.toList m xs R) (S0 svs xs) m
def Zxj(E:Env)(fn:Func)(svs:List SV)(xs:List Box):Bool:=
 !(fn.name == "runtime.NumGoroutine")&&fn.body.isSome&&Zar E (Zgd fn)&&Zbi fn.ntmps (Zgd fn)&&ZuJ E.frz&&E.yl.isNone&&Nat.ble svs.length fn.ntmps&&ZjD xs svs
theorem ZdL{fn:Func}(h:fn.body.isSome=true):fn.body=some (Zgd fn):=by
 unfold Zgd
 cases hb:fn.body with
 | none=>rw[hb]at h;cases h
 | some c=>rfl
theorem Zba(E:Env)(m:Mem):∀c:Code,Zar (E.at m) c=Zar E c
 | .region _ _ _=>rfl
 | .seq a b=>by simp only[Zar,Zba E m a,Zba E m b];rfl
 | .cond _ a b=>by simp only[Zar,Zba E m a,Zba E m b]
 | .block _ a=>by simp only[Zar,Zba E m a]
 | .loop a=>by simp only[Zar,Zba E m a];rfl
 | .rangeFunc _ _ a b=>by simp only[Zar,Zba E m a,Zba E m b]
 | .scope a=>by simp only[Zar,Zba E m a]
 | .skip=>rfl
 | .label _=>rfl
 | .goto _=>rfl
 | .exit _=>rfl
 | .ret=>rfl
 | .refuse _=>rfl
theorem Zpp{E:Env}(hE:E.ok)(dY:E.P.follows .mixedOrders=true){g:FuncId}{fn:Func}(hf:E.P.funcs[g]?=some fn){m:Mem}{R:Value->Mem->List (List Value)->Prop}(svs:List SV)(xs:List Box)
  (cE:Zxj E fn svs xs=true) (h:FW E fn svs xs m R):CX E.P g (svs.map (Zoj xs)).toArray m xs R:=by
 simp only[Zxj,zA7,Bool.not_eq_true']at cE
 obtain⟨⟨⟨⟨⟨⟨⟨h1,h2⟩,h3⟩,h4⟩,h5⟩,h8⟩,h6⟩,h7⟩:=cE
 exact Zvc (E:=E.at m) hE (Zil _) (Zgc (E:=E.at m) hE dY) hf h1 (ZdL h2) (by rw[Zba];exact h3) h4 h5 (show E.yl=none by simpa using h8) (λmm fq=>Option.some.inj fq) svs xs h6 h7 h
theorem Zad{E:Env}(hE:E.ok)(dY:E.P.follows .mixedOrders=true){g:FuncId}{fn:Func}(hf:E.P.funcs[g]?=some fn){m:Mem}{R:Value->Mem->List (List Value)->Prop}{vs:List Value}
  (cE:Zxj E fn (vs.map .v) []=true) (h:FW E fn (vs.map .v) [] m R):CX E.P g vs.toArray m [] R:=by
 have:=Zpp hE dY hf (vs.map .v) [] cE h
 rwa [Zvd]at this
theorem ZaO(E:Env)(l:Nat)(xs:List (List Value)):∀c:Code,Zar (E.yields l xs) c=Zar E c
 | .region _ _ _=>rfl
 | .seq a b=>by simp only[Zar,ZaO E l xs a,ZaO E l xs b];rfl
 | .cond _ a b=>by simp only[Zar,ZaO E l xs a,ZaO E l xs b]
 | .block _ a=>by simp only[Zar,ZaO E l xs a]
 | .loop a=>by simp only[Zar,ZaO E l xs a];rfl
 | .rangeFunc _ _ a b=>by simp only[Zar,ZaO E l xs a,ZaO E l xs b]
 | .scope a=>by simp only[Zar,ZaO E l xs a]
 | .skip=>rfl
 | .label _=>rfl
 | .goto _=>rfl
 | .exit _=>rfl
 | .ret=>rfl
 | .refuse _=>rfl
def FWI(E:Env)(fn:Func)(first captured:List Value)(m:Mem)(xs:List (List Value)):Prop:=
 ∀l,W (E.yields l xs) (ZaW (E.yields l xs)) (Zgd fn) (Zx1 E fn.results.toList xs.length) (S0 ((first++.func (.yield l) #[] #[]::captured).map .v) []) m
def Zx3(E:Env)(fn:Func)(k:Nat):Bool:=
 !(fn.name == "runtime.NumGoroutine")&&fn.body.isSome&&Zar E (Zgd fn)&&Zbi fn.ntmps (Zgd fn)&&Nat.ble (k+1) fn.ntmps
theorem Ziq{E:Env}(hE:E.ok)(dY:E.P.follows .mixedOrders=true){g:FuncId}{fn:Func}(hf:E.P.funcs[g]?=some fn){m:Mem}(first captured:List Value)(xs:List (List Value))
  (cE:Zx3 E fn (first.length+captured.length)=true) (h:FWI E fn first captured m xs):IX E.P g first captured m xs:=by
 simp only[Zx3,zA7,Bool.not_eq_true']at cE
 obtain⟨⟨⟨⟨h1,h2⟩,h3⟩,h4⟩,h5⟩:=cE
 exact Zve (ZaW:=ZaW) hE hf h1 (ZdL h2) h4 first captured xs h5 λl=>
  ⟨Zil _,Zgc (E:=E.yields l xs) hE dY,by rw[ZaO];exact h3,h l⟩
end Go.Eng
namespace Go.Eng
open Go Go.RowKit
set_option maxRecDepth 100000
def Zvq:List ResultVar->Nat
 | [.tmp d]=>d
 | _=>0
def Zy9(E:Env)(rs:List ResultVar)(m0:Mem)(esz:Nat)(R:Value->Mem->List (List Value)->Prop)(S:St)(m:Mem):Prop:=
 ZwO E S m rs λvs=>(match S.tok (E.tokOf (Zvq rs))with
  | none=>Zr8 vs=.slice none 0 0
  | some t=>some t=some ⟨Zr8 vs,esz⟩)/\R (Zr8 vs) m []
def Zx4(E:Env)(rs:List ResultVar)(m0:Mem)(esz:Nat)(R:Value->Mem->List (List Value)->Prop):KT:=λe S m=>match e with
 | .normal=>Zy9 E rs m0 esz R S m
 | .ret=>Zy9 E rs m0 esz R S m
 | _=>False
theorem Zto{E:Env}(hE:E.ok){ZaW:Nat->Array Oper->(St->Mem->Prop)->St->Mem->Prop}(hD:Zdl E ZaW)(fT:Zc3 E ZaW){g:FuncId}{fn:Func}{c:Code}
  (hf:E.P.funcs[g]?=some fn) (hn:(fn.name == "runtime.NumGoroutine")=false) (hb:fn.body=some c) (hc:Zar E c=true) (hl:Zbi fn.ntmps c=true) (fA:E.yl=none)
  {m:Mem} (eD:∀mm,E.m0=some mm->m=mm) {esz:Nat} {R:Value->Mem->List (List Value)->Prop} (svs:List SV) (aH:Nat.ble svs.length fn.ntmps=true) (cE:ZjD [] svs=true)
  (h:W E ZaW c (Zx4 E fn.results.toList m esz R) (S0 svs []) m):CXT E.P g (svs.map (Zoj [])).toArray m esz R:=by
 refine⟨ZfU hf hn (by simp[hb]),λw hs=>?_⟩
 have aV:=Zmm (n:=fn.ntmps) (xs:=[]) hs (λx hx=>by cases hx) List.nodup_nil cE (Nat.le_of_ble_eq_true aH)
 refine callsIn_wide.1 (callsIn_of_wp_marks (F:=Fence.wide) (n:=0) hf hb trivial ?_)
 refine Zb9 hE hD fT c hc (.inl rfl) (YOk.none fA (λmm fq=>⟨eD mm fq,λg M w' hp k hk=>Zsp (λk hk=>by cases hk) hp k hk⟩)) (λl hl=>by cases hl) 0 hl aV h ?_
 have key:∀S' m' a' w',Zy9 E fn.results.toList m esz R S' m'->Rel (Zyt fn.ntmps m w (([]:List Box).map (·.b))) S' m' a' w'->LeavesInM Fence.wide 0 E.P fn a'.tmps (λe w'=>
   ∃v m',e=Ending.returned v/\m.le m'/\Sub m' w'/\Zej m m' w w'/\Keep w.heap.size [] w w'/\TokOk m' w' ⟨v,esz⟩/\(∀b,(Tok.mk v esz).blk=some b->w.heap.size<=b)/\R v m' []) a'.defers .returning w':=by
  intro S' m' a' w' hk hr
  obtain⟨ms,q1,_,_⟩:=hr.defers
  refine Rel.leave ?_ ms a' w' rfl q1 hr
  clear hr q1
  intro a2 w2 ht hr
  rw[<-ht]
  obtain⟨vs,⟨aN,hk⟩,aR⟩:=Zdu hE hr hk
  obtain⟨M,hd⟩:=hr.dom
  have fN:Zej m m' w w2:=hd.new.mono λb h6=>by
   rcases hd.p.2 b h6 with h6|h6
   ·exact⟨h6.1,h6.2.2⟩
   ·cases h6
  split at aN
  ·refine⟨Zr8 vs,ZcW aR,Zr8 vs,m',rfl,hr.le,hr.sub,fN,hd.p.1,.inl aN,λb hb=>?_,hk⟩
   rw[aN]at hb;simp[Tok.blk]at hb
  ·rename_i t ht
   cases aN
   refine⟨Zr8 vs,ZcW aR,Zr8 vs,m',rfl,hr.le,hr.sub,fN,hd.p.1,(hr.toks _ _ ht).1,λb hb=>?_,hk⟩
   rcases hd.p.2 b (hd.tok _ _ _ ht hb)with h6|h6
   ·exact h6.1
   ·cases h6
 intro e S' m' a' w' hk hr
 cases e with
 | normal=>exact key S' m' a' w' hk hr
 | ret=>exact key S' m' a' w' hk hr
 | exit _=>exact hk.elim
 | goto _=>exact hk.elim
 | panic _=>exact hk.elim
 | outgrown=>exact hk.elim
def FWT(E:Env)(fn:Func)(svs:List SV)(m:Mem)(esz:Nat)(R:Value->Mem->List (List Value)->Prop):Prop:=
 W (E.at m) (ZaW (E.at m)) (Zgd fn) (Zx4 (E.at m) fn.results.toList m esz R) (S0 svs []) m
theorem ZgT{E:Env}(hE:E.ok)(dY:E.P.follows .mixedOrders=true){g:FuncId}{fn:Func}(hf:E.P.funcs[g]?=some fn){m:Mem}{esz:Nat}{R:Value->Mem->List (List Value)->Prop}(svs:List SV)
  (cE:Zxj E fn svs []=true) (h:FWT E fn svs m esz R):CXT E.P g (svs.map (Zoj [])).toArray m esz R:=by
 simp only[Zxj,zA7,Bool.not_eq_true']at cE
 obtain⟨⟨⟨⟨⟨⟨⟨h1,h2⟩,h3⟩,h4⟩,h5⟩,h8⟩,h6⟩,h7⟩:=cE
 exact Zto (E:=E.at m) hE (Zil _) (Zgc (E:=E.at m) hE dY) hf h1 (ZdL h2) (by rw[Zba];exact h3) h4 (show E.yl=none by simpa using h8) (λmm fq=>Option.some.inj fq) svs h6 h7 h
theorem CXT.toCX{P:Program}{g:FuncId}{args:Array Value}{m:Mem}{esz:Nat}{R:Value->Mem->List (List Value)->Prop}(h:CXT P g args m esz R):CX P g args m [] R:=
 ⟨h.1,λw h1 _ _=>(h.2 w h1).mono λ_ _ ⟨v,m',a1,a2,a3,a4,a5,_,_,a8⟩=>⟨v,m',[],a1,a2,a3,a4,a5,rfl,λi x cs hi=>by simp at hi,a8⟩⟩
theorem CXT.mono{P:Program}{g:FuncId}{args:Array Value}{m:Mem}{esz:Nat}{R R':Value->Mem->List (List Value)->Prop}(h:CXT P g args m esz R)(k:∀v m' css,m.le m'->R v m' css->R' v m' css):CXT P g args m esz R':=
 ⟨h.1,λw h1=>(h.2 w h1).mono λ_ _ ⟨v,m',a1,a2,a3,a4,a5,a6,a7,a8⟩=>⟨v,m',a1,a2,a3,a4,a5,a6,a7,k _ _ _ a2 a8⟩⟩
def Zxk(m m':Mem)(esz:Nat)(v:Value):Prop:=v=.slice none 0 0\/∃b o n c,v=.slice (some ⟨b,o,none⟩) n c/\n<=c/\m.free b/\∀q,n*esz<=q->q < c*esz->∃u,m' b (o+q)=some u
theorem CXT.room{P:Program}{g:FuncId}{args:Array Value}{m:Mem}{esz:Nat}{R:Value->Mem->List (List Value)->Prop}(h:CXT P g args m esz R):CX P g args m [] (λv m' _=>∃m1:Mem,m.le m1/\m1.le m'/\R v m1 []/\Zxk m m' esz v):=by
 refine⟨h.1,λw h1 _ _=>(h.2 w h1).mono ?_⟩
 rintro e w' ⟨v,m',a1,a2,a3,a4,a5,a6,a7,a8⟩
 have a9:=a6
 rcases a6 with h6|⟨b,o0,n,c,cur,T,fr,hv,gL,hh,bE,_,cP⟩
 ·exact⟨v,m',[],a1,a2,a3,a4,a5,rfl,λi x cs hi=>by simp at hi,m',a2,Mem.le_refl _,a8,.inl h6⟩
 ·have hv:v=.slice (some ⟨b,o0,none⟩) n c:=hv
  have hb:w.heap.size<=b:=a7 b (by simp[Tok.blk,hv])
  have aU:m.free b:=λo=>by
   cases he:m b o with
   | none=>rfl
   | some u=>have:=h1.lt he;omega
  have xl:c*esz=n*esz+(c - n)*esz:=by rw[<-Nat.add_mul];congr 1;omega
  have cP:∀o,o0+n*esz<=o->o < o0+c*esz->m' b o=none:=cP
  have bE:o0+c*esz<=cur.size:=bE
  obtain⟨P0,lY⟩:∃P0,P0=o0+n*esz:=⟨_,rfl⟩
  obtain⟨zs,tG⟩:∃zs,zs=(cur.toList.drop P0).take ((c - n)*esz):=⟨_,rfl⟩
  have gE:zs.length=(c - n)*esz:=by rw[tG];simp;omega
  have rz:∀q v,zs[q]?=some v->cur[P0+q]?=some v:=λq v hq=>by
   rw[tG,List.getElem?_take]at hq
   split at hq
   ·rw[List.getElem?_drop]at hq;simpa using hq
   ·cases hq
  have bU:m'.le (m'.addAt b P0 zs):=⟨λb' o v hv'=>by
   simp only[Mem.addAt]
   split
   ·rename_i hc
    obtain⟨rfl,ho⟩:=hc
    cases hz:zs[o - P0]? with
    | none=>simp only[hz];exact hv'
    | some u=>
     have hq:=(zA0 hz).1
     rw[cP o (by omega) (by omega)]at hv';cases hv'
   ·exact hv',λ_ _ h=>h⟩
  have bV:∀b' o u,m'.addAt b P0 zs b' o=some u->m' b' o=some u\/(b'=b/\w'.cell? ⟨b',o,none⟩=some u):=λb' o u hu=>by
   simp only[Mem.addAt]at hu
   split at hu
   ·rename_i hc
    obtain⟨rfl,ho⟩:=hc
    cases hz:zs[o - P0]? with
    | none=>simp only[hz]at hu;exact .inl hu
    | some x=>
     simp only[hz]at hu;cases hu
     have:=rz _ _ hz
     rw[show P0+(o - P0)=o by omega]at this
     refine .inr ⟨rfl,?_⟩
     simp only[World.cell?,hh]
     simpa using this
   ·exact .inl hu
  refine⟨v,m'.addAt b P0 zs,[],a1,mLt a2 bU,⟨λb' o u hu=>(bV b' o u hu).elim (a3 b' o u) (·.2),a3.k⟩,a4.addAt _ ⟨hb,a9.wr (by simp[Tok.blk,hv])⟩,a5,rfl,λi x cs hi=>by simp at hi,m',a2,bU,a8,.inr ⟨b,o0,n,c,hv,gL,aU,λq gF nP=>?_⟩⟩
  have aC:o0+q - P0 < zs.length:=by omega
  refine⟨zs[o0+q - P0],?_⟩
  simp only[Mem.addAt]
  rw[if_pos ⟨trivial,by omega⟩,zA3 aC]
def ZkB:List Nat->List Tok->Nat->Option Tok
 | k::ks,t::ts=>λi=>bif Nat.beq i k then some t else ZkB ks ts i
 | _,_=>λ_=>none
theorem ZhQ:∀{ks:List Nat} {ts:List Tok} {i:Nat} {t:Tok},ZkB ks ts i=some t->∃q:Nat,ks[q]?=some i/\ts[q]?=some t
 | [],ts,i,t,h=>by simp[ZkB]at h
 | k::ks,[],i,t,h=>by simp[ZkB]at h
 | k::ks,t0::ts,i,t,h=>by
  by_cases hi:i=k
  ·subst hi;simp[ZkB]at h;subst h;exact⟨0,rfl,rfl⟩
  ·simp only[ZkB,Zas hi,cond_false]at h
   obtain⟨q,h1,h2⟩:=ZhQ h
   exact⟨q+1,by simpa using h1,by simpa using h2⟩
def S0Y(svs:List SV)(xs:List Box)(ks:List Nat)(ts:List Tok):St:={ S0 svs xs with tok:=ZkB ks ts,tkeys:=ks }
def Zir(S:St):List Nat->List Tok->(List Value->Prop)->Prop
 | k::ks,t::ts,r=>match S.tok k with
  | none=>False
  | some t'=>chk (Nat.beq t'.esz t.esz) (Zir S ks ts λtvs=>r (t'.v::tvs))
 | [],[],r=>r []
 | _,_,_=>False
theorem Zes{S:St}:∀{ks:List Nat} {ts:List Tok} {r:List Value->Prop},Zir S ks ts r->∃tvs,tvs.length=ts.length/\ks.length=ts.length/\(∀(i:Nat)(t:Tok)(tv:Value),ts[i]?=some t->tvs[i]?=some tv->∃k:Nat,ks[i]?=some k/\S.tok k=some ⟨tv,t.esz⟩)/\r tvs
 | [],[],r,h=>⟨[],rfl,rfl,λi t tv h=>by simp at h,h⟩
 | [],_::_,r,h=>h.elim
 | _::_,[],r,h=>h.elim
 | k::ks,t::ts,r,h=>by
  unfold Zir at h
  cases ht:S.tok k with
  | none=>simp[ht]at h
  | some t'=>
   simp only[ht]at h
   obtain⟨h1,h2⟩:=Zag h
   have he:=Nat.eq_of_beq_eq_true h1
   obtain⟨tvs,g1,g2,g3,g4⟩:=Zes h2
   refine⟨t'.v::tvs,by simp[g1],by simp[g2],λi t0 tv hi hv=>?_,g4⟩
   cases i with
   | zero=>
    simp at hi hv;subst hi hv
    exact⟨k,rfl,by rw[ht,<-he]⟩
   | succ i=>simpa using g3 i t0 tv (by simpa using hi) (by simpa using hv)
def ZwV(E:Env)(rs:List ResultVar)(xs:List Box)(ks:List Nat)(ts:List Tok)(R:Value->Mem->List (List Value)->List Value->Prop)(S:St)(m:Mem):Prop:=
 ZwO E S m rs λvs=>ZuI S 0 xs λcss=>Zir S ks ts λtvs=>Zvb E S m (R (Zr8 vs) (Zqu S E.frz m) css tvs)
def Zx5(E:Env)(rs:List ResultVar)(xs:List Box)(ks:List Nat)(ts:List Tok)(R:Value->Mem->List (List Value)->List Value->Prop):KT:=λe S m=>match e with
 | .normal=>ZwV E rs xs ks ts R S m
 | .ret=>ZwV E rs xs ks ts R S m
 | _=>False
def ZwW(n:Nat)(m:Mem)(w:World)(B:Nat->Prop):Ctx where
 n:=n
 m0:=m
 me:=m
 mle:=Mem.le_refl m
 p:=λ_ M w'=>Upd B w w'/\∀k,M k->(w.heap.size<=k/\k < w'.heap.size/\Wr w' k)\/B k
 st:=by
  rintro g M M' w1 w2 ⟨h1,h2⟩ hu hg
  refine⟨⟨hu.os.trans h1.os,hu.tape.trans h1.tape,hu.output.trans h1.output,Nat.le_trans h1.size hu.size,λk hk hn=>?_,λk hl hk=>hu.wr k (Nat.lt_of_lt_of_le hl h1.size) (h1.wr k hl hk)⟩,λk hk=>?_⟩
  ·rw[hu.block k (Nat.lt_of_lt_of_le hk h1.size) λhm=>?_,h1.block k hk hn]
   rcases h2 k hm with h|h
   ·omega
   ·exact hn h
  ·rcases hg k hk with h|h
   ·exact(h2 k h).imp_left λh=>⟨h.1,Nat.lt_of_lt_of_le h.2.1 hu.size,hu.wr k h.2.1 h.2.2⟩
   ·have:=h1.size;exact .inl ⟨by omega,h.2⟩
theorem Zow{n:Nat}{w:World}{m:Mem}{Y:Nat->Prop}{xs:List Box}{svs:List SV}{ks:List Nat}{ts:List Tok}(hs:Sub m w)(hx:∀x∈xs,Own m w x/\x.fz=false/\¬Y x.b)(eJ:(xs.map (·.b)).Nodup)(cE:ZjD xs svs=true)(hn:svs.length<=n)
  (ht:∀t∈ts,TokOk m w t/\∀b,t.blk=some b->Y b) (iw:ZuD ts) (hY:∀b,Y b->b < w.heap.size/\Wr w b):
  Rel (ZwW n (m.off Y) w (λk=>k∈xs.map (·.b)\/Y k)) (S0Y svs xs ks ts) m { tmps:=(svs.map (Zoj xs)).toArray++Array.replicate (n - (svs.map (Zoj xs)).toArray.size) undef,defers:=[] } w:=by
 have hL:∀id x,(S0Y svs xs ks ts).L id=some x->100000<=id/\xs[id - 100000]?=some x:=λid x h=>by
  simp only[S0Y,S0]at h
  cases hb:Nat.ble 100000 id with
  | false=>simp[hb]at h
  | true=>simp only[hb,cond_true]at h;exact⟨Nat.le_of_ble_eq_true hb,h⟩
 have hT:∀k t,(S0Y svs xs ks ts).tok k=some t->∃q:Nat,ks[q]?=some k/\ts[q]?=some t:=λk t h=>ZhQ h
 refine⟨⟨[],rfl,List.nodup_nil,by simp⟩,by simp[ZwW];omega,?_,?_,?_,?_,?_,?_,?_,hs,Mem.off_le m Y,⟨λk=>k∈xs.map (·.b)\/Y k,⟨Upd.refl _ _,λk hk=>.inr hk⟩,λk hk=>?_,λid x hx=>?_,λk t b h1 h2=>?_,by simp,⟨λb o v hv=>?_,λb e he=>?_⟩⟩,λ_=>rfl⟩
 ·intro i sv he
  simp only[S0Y,S0]at he
  have aC:=(zA0 he).1
  have h1:=ZgP cE i sv he
  refine⟨Zoj xs sv,?_,?_⟩
  ·cases sv with
   | v x=>rfl
   | loc id off=>
    simp only[Zxg,zA7]at h1
    have h2:id - 100000 < xs.length:=Zky h1.2
    simp[St.den,S0Y,S0,Zoj,h1.1,zA3 h2]
   | sl id n c=>
    simp only[Zxg,zA7]at h1
    have h2:id - 100000 < xs.length:=Zky h1.2
    simp[St.den,S0Y,S0,Zoj,h1.1,zA3 h2]
  ·rw[Array.getElem?_append_left (by simpa using aC)]
   simp[he]
 ·intro id x hx'
  exact(hx x (zA2 (hL id x hx').2)).1
 ·intro id id' x x' h1 h2 hb
  obtain⟨g1,g2⟩:=hL _ _ h1
  obtain⟨g3,g4⟩:=hL _ _ h2
  have hi:=(zA0 g2).1
  have:=(List.getElem?_inj (l:=xs.map (·.b)) (i:=id - 100000) (j:=id' - 100000) (by simpa using hi) eJ).1 (by simp[g2,g4,hb])
  omega
 ·intro id x h1
  obtain⟨g1,g2⟩:=hL _ _ h1
  have hi:=(zA0 g2).1
  simp only[S0Y,S0,List.mem_map,List.mem_range,bid]
  exact⟨id - 100000,hi,by omega⟩
 ·intro k t h1
  obtain⟨q,_,h2⟩:=hT k t h1
  obtain⟨g1,g2⟩:=ht t (zA2 h2)
  exact⟨g1,λb hb=>⟨λid x ri e=>(hx x (zA2 (hL id x ri).2)).2.2 (e ▸ g2 b hb),Mem.off_free (g2 b hb)⟩⟩
 ·intro k t h1
  obtain⟨q,h2,_⟩:=hT k t h1
  exact zA2 h2
 ·intro k k' t t' b h1 h2 h3 h4
  obtain⟨q,g1,g2⟩:=hT k t h1
  obtain⟨q',g3,g4⟩:=hT k' t' h2
  have:=iw q q' t t' b g2 g4 h3 h4
  subst this
  rw[g1]at g3;exact Option.some.inj g3
 ·rcases hk with hk|hk
  ·obtain⟨x,h1,h2⟩:=List.mem_map.1 hk
   exact h2 ▸ (hx x h1).1.lt
  ·exact(hY k hk).1
 ·exact .inl (List.mem_map.2 ⟨x,zA2 (hL id x hx).2,rfl⟩)
 ·obtain⟨q,_,g2⟩:=hT k t h1
  exact .inr ((ht t (zA2 g2)).2 b h2)
 ·by_cases eL:Y b
  ·exact .inr (.inr eL)
  ·exact .inl (by show m.off Y b o=some v;rw[Mem.off_at eL];exact hv)
 ·by_cases eL:Y b
  ·exact .inr (.inr eL)
  ·exact .inl (by show(m.off Y).k b=some e;rw[Mem.off_k eL];exact he)
theorem TokOk.sl{m:Mem}{w:World}{t:Tok}(h:TokOk m w t):ZbT t.v=true:=by
 rcases h with h|⟨b,o0,n,c,_,_,_,h,_⟩
 ·rw[h];rfl
 ·rw[h];rfl
theorem Ztp{E:Env}(hE:E.ok){ZaW:Nat->Array Oper->(St->Mem->Prop)->St->Mem->Prop}(hD:Zdl E ZaW)(fT:Zc3 E ZaW){g:FuncId}{fn:Func}{c:Code}
  (hf:E.P.funcs[g]?=some fn) (hn:(fn.name == "runtime.NumGoroutine")=false) (hb:fn.body=some c) (hc:Zar E c=true) (hl:Zbi fn.ntmps c=true) (hz:ZuJ E.frz=true) (fA:E.yl=none)
  {m:Mem} {Y:Nat->Prop} (eD:∀mm,E.m0=some mm->m.off Y=mm) {R:Value->Mem->List (List Value)->List Value->Prop} (svs:List SV) (xs:List Box) (ks:List Nat) (ts:List Tok) (mg:ZbK ks=true) (aH:Nat.ble svs.length fn.ntmps=true) (cE:ZjD xs svs=true)
  (h:W E ZaW c (Zx5 E fn.results.toList xs ks ts R) (S0Y svs xs ks ts) m):CXY E.P g (svs.map (Zoj xs)).toArray m Y xs ts R:=by
 refine⟨ZfU hf hn (by simp[hb]),λw hs hx eJ ht iw hY=>?_⟩
 have aV:=Zow (n:=fn.ntmps) (ks:=ks) hs hx eJ cE (Nat.le_of_ble_eq_true aH) ht iw hY
 refine callsIn_wide.1 (callsIn_of_wp_marks (F:=Fence.wide) (n:=0) hf hb trivial ?_)
 refine Zb9 hE hD fT c hc (.inl rfl) (YOk.none fA (λmm fq=>⟨eD mm fq,λg M w' hp k hk=>?_⟩)) (λl hl=>by cases hl) 0 hl aV h ?_
 ·rcases hp.2 k hk with h1|h1|h1
  ·exact h1.2.2
  ·obtain⟨x,h2,rfl⟩:=List.mem_map.1 h1
   exact hp.1.wr _ (hx x h2).1.lt (hx x h2).1.wr
  ·exact hp.1.wr k (hY k h1).1 (hY k h1).2
 have key:∀S' m' a' w',ZwV E fn.results.toList xs ks ts R S' m'->Rel (ZwW fn.ntmps (m.off Y) w (λk=>k∈xs.map (·.b)\/Y k)) S' m' a' w'->LeavesInM Fence.wide 0 E.P fn a'.tmps (λe w'=>
   ∃v m' css tvs,e=.returned v/\(m.off Y).le m'/\Sub m' w'/\NewM m m' (λb=>Y b\/(w.heap.size<=b/\Wr w' b))/\Upd (λk=>k∈xs.map (·.b)\/Y k) w w'/\
   css.length=xs.length/\(∀(i:Nat)(x:Box)(cs:List Value),xs[i]?=some x->css[i]?=some cs->Own m' w' { x with cs:=cs })/\
   tvs.length=ts.length/\(∀(i:Nat)(t:Tok)(tv:Value),ts[i]?=some t->tvs[i]?=some tv->ZbT tv=true/\TokOk m' w' ⟨tv,t.esz⟩/\∀b,(Tok.mk tv t.esz).blk=some b->(Y b\/w.heap.size<=b)/\b ∉ xs.map (·.b))/\
   ZuD ((ts.zip tvs).map λq=>⟨q.2,q.1.esz⟩)/\R v m' css tvs) a'.defers .returning w':=by
  intro S' m' a' w' hk hr
  obtain⟨ms,q1,_,_⟩:=hr.defers
  refine Rel.leave ?_ ms a' w' rfl q1 hr
  clear hr q1
  intro a2 w2 vH hr
  rw[<-vH]
  obtain⟨vs,hk,aR⟩:=Zdu hE hr hk
  obtain⟨css,h1,h2,hk⟩:=Zfi hk
  obtain⟨tvs,k1,k2,k3,h5⟩:=Zes hk
  have h5:=ZjE hr h5
  obtain⟨M,hd⟩:=hr.dom
  simp only[ZuJ,zA7]at hz
  have rh:=ZaS hz.1
  have j2:=ZaS mg
  obtain⟨f1,f2,f3⟩:=Zpf hr rh
  have frzlt:∀id∈E.frz,id < 100000:=λid cZ=>Zky (List.all_eq_true.1 hz.2 id cZ)
  have boxOf:∀b,b∈xs.map (·.b)->∃(i:Nat)(x:Box)(cs:List Value),xs[i]?=some x/\x.b=b/\S'.L (bid i)=some { x with cs:=cs }:=λb hb=>by
   obtain⟨y,hy,eL⟩:=List.mem_map.1 hb
   obtain⟨i,hi⟩:=List.getElem?_of_mem hy
   obtain⟨cs,_,ft⟩:=h2 i y hi
   exact⟨i,y,cs,hi,eL,by rw[Nat.zero_add]at ft;exact ft⟩
  have tokY:∀(i:Nat)(t:Tok)(tv:Value),ts[i]?=some t->tvs[i]?=some tv->∃k:Nat,ks[i]?=some k/\S'.tok k=some ⟨tv,t.esz⟩:=k3
  have frzNb:∀id∈E.frz,∀x,S'.L id=some x->x.b ∉ xs.map (·.b):=λid cZ x eh hm=>by
   obtain⟨i,y,cs,_,eL,ft⟩:=boxOf _ hm
   have:=hr.apart _ _ _ _ eh ft eL.symm
   have:=frzlt id cZ
   simp only[bid]at *
   omega
  refine⟨Zr8 vs,ZcW aR,Zr8 vs,Zqu S' E.frz m',css,tvs,rfl,mLt hr.le f1,f2,?_,hd.p.1,h1,?_,k1,?_,?_,h5⟩
  ·refine⟨λb o u hu=>?_,λb e he=>?_⟩
   rotate_left
   ·rw[Zol]at he
    rcases hd.new.k b e he with h6|h6
    ·exact .inl ((Mem.off_le m Y).k b e h6)
    ·rcases hd.p.2 b h6 with h|h|h
     ·exact .inr (.inr ⟨h.1,h.2.2⟩)
     ·exfalso
      obtain⟨i,y,cs,hi,eL,ft⟩:=boxOf b h
      obtain⟨c0,T0,f0,h7⟩:=(hr.own _ _ ft).isC
      obtain⟨es,cl,h8,_⟩:=hr.sub.k b e he
      simp only[eL]at h7
      rw[h7]at h8;cases h8
     ·exact .inr (.inl h)
   have inM:M b->m b o=some u\/Y b\/(w.heap.size<=b/\Wr w2 b)\/b∈xs.map (·.b):=λhm=>by
    rcases hd.p.2 b hm with h|h|h
    ·exact .inr (.inr (.inl ⟨h.1,h.2.2⟩))
    ·exact .inr (.inr (.inr h))
    ·exact .inr (.inl h)
   rcases f3 b o u hu with hv|⟨id,cZ,x,eh,gD⟩
   ·rcases hd.new b o u hv with h6|h6
    ·exact .inl (Mem.off_le m Y b o u h6)
    ·rcases inM h6 with h|h|h|h
     ·exact .inl h
     ·exact .inr (.inl h)
     ·exact .inr (.inr h)
     ·exfalso
      obtain⟨i,y,cs,hi,eL,ft⟩:=boxOf b h
      have:=(hr.own _ _ ft).free (hx y (zA2 hi)).2.1 o
      simp only[eL]at this
      rw[this]at hv;cases hv
   ·subst gD
    rcases inM (hd.own id x eh)with h|h|h|h
    ·exact .inl h
    ·exact .inr (.inl h)
    ·exact .inr (.inr h)
    ·exact(frzNb id cZ x eh h).elim
  ·intro i x cs hi bL
   obtain⟨cs',h6,h7⟩:=h2 i x hi
   rw[bL]at h6;cases h6
   have ho:=hr.own _ _ h7
   have ko:=(hx x (zA2 hi)).2.1
   refine⟨ho.cells,λ_ o=>?_,λhz'=>by simp[ko]at hz',ho.whole⟩
   show Zqu S' E.frz m' x.b o=none
   rw[Zdv S' m' (λid cZ y hy e=>frzNb id cZ y hy (e ▸ List.mem_map.2 ⟨x,zA2 hi,rfl⟩))]
   exact ho.free ko o
  ·intro i t tv hi hv
   obtain⟨k,g1,g2⟩:=tokY i t tv hi hv
   obtain⟨g3,g4⟩:=hr.toks k _ g2
   refine⟨g3.sl,g3.same (λ_ _=>rfl) (λb o hb hn=>?_),λb hb=>⟨?_,λhm=>?_⟩⟩
   ·rw[Zdv S' m' (λid _ y hy e=>(g4 b hb).1 id y hy e)];exact hn
   ·rcases hd.p.2 b (hd.tok _ _ _ g2 hb)with h|h|h
    ·exact .inr h.1
    ·obtain⟨i,y,cs,_,eL,ft⟩:=boxOf b h
     exact((g4 b hb).1 _ _ ft eL).elim
    ·exact .inl h
   ·obtain⟨i,y,cs,_,eL,ft⟩:=boxOf b hm
    exact(g4 b hb).1 _ _ ft eL
  ·intro i j t t' b hi hj dT fJ
   rw[List.getElem?_map]at hi hj
   obtain⟨⟨t0,tv⟩,gM,rfl⟩:=Option.map_eq_some_iff.1 hi
   obtain⟨⟨t0',tv'⟩,tH,rfl⟩:=Option.map_eq_some_iff.1 hj
   obtain⟨a1,a2⟩:=List.getElem?_zip_eq_some.1 gM
   obtain⟨a3,a4⟩:=List.getElem?_zip_eq_some.1 tH
   obtain⟨k,g1,g2⟩:=tokY i t0 tv a1 a2
   obtain⟨k',g3,g4⟩:=tokY j t0' tv' a3 a4
   have:=hr.tapart k k' _ _ b g2 g4 dT fJ
   subst this
   have hi':=(zA0 g1).1
   exact(List.getElem?_inj (l:=ks) (i:=i) (j:=j) hi' j2).1 (by rw[g1,g3])
 intro e S' m' a' w' hk hr
 cases e with
 | normal=>exact key S' m' a' w' hk hr
 | ret=>exact key S' m' a' w' hk hr
 | exit _=>exact hk.elim
 | goto _=>exact hk.elim
 | panic _=>exact hk.elim
 | outgrown=>exact hk.elim
def FWY(E:Env)(fn:Func)(svs:List SV)(xs:List Box)(ks:List Nat)(ts:List Tok)(m:Mem)(Y:Nat->Prop)(R:Value->Mem->List (List Value)->List Value->Prop):Prop:=
 W (E.at (m.off Y)) (ZaW (E.at (m.off Y))) (Zgd fn) (Zx5 (E.at (m.off Y)) fn.results.toList xs ks ts R) (S0Y svs xs ks ts) m
theorem ZjN{E:Env}(hE:E.ok)(dY:E.P.follows .mixedOrders=true){g:FuncId}{fn:Func}(hf:E.P.funcs[g]?=some fn){m:Mem}{Y:Nat->Prop}{R:Value->Mem->List (List Value)->List Value->Prop}(svs:List SV)(xs:List Box)(ks:List Nat)(ts:List Tok)(mg:ZbK ks=true)
  (cE:Zxj E fn svs xs=true) (h:FWY E fn svs xs ks ts m Y R):CXY E.P g (svs.map (Zoj xs)).toArray m Y xs ts R:=by
 simp only[Zxj,zA7,Bool.not_eq_true']at cE
 obtain⟨⟨⟨⟨⟨⟨⟨h1,h2⟩,h3⟩,h4⟩,h5⟩,h8⟩,h6⟩,h7⟩:=cE
 exact Ztp (E:=E.at (m.off Y)) hE (Zil _) (Zgc (E:=E.at (m.off Y)) hE dY) hf h1 (ZdL h2) (by rw[Zba];exact h3) h4 h5 (show E.yl=none by simpa using h8) (λmm fq=>Option.some.inj fq) svs xs ks ts mg h6 h7 h
theorem CXY.mono{P:Program}{g:FuncId}{args:Array Value}{m:Mem}{Y:Nat->Prop}{X:List Box}{ts:List Tok}{R R':Value->Mem->List (List Value)->List Value->Prop}(h:CXY P g args m Y X ts R)(k:∀v m' css tvs,(m.off Y).le m'->R v m' css tvs->R' v m' css tvs):CXY P g args m Y X ts R':=
 ⟨h.1,λw h1 h2 h3 h4 h5 h6=>(h.2 w h1 h2 h3 h4 h5 h6).mono λ_ _ ⟨v,m',css,tvs,a1,a2,a3,a4,a5,a6,a7,a8,a9,a10,a11⟩=>⟨v,m',css,tvs,a1,a2,a3,a4,a5,a6,a7,a8,a9,a10,k _ _ _ _ a2 a11⟩⟩
end Go.Eng
namespace Go.Eng
open Go Go.RowKit
def zok(i:TI):Bool:=Nat.beq i.zero.cells.size i.size&&Zek i.zero.cells.toList&&(i.agg||Nat.beq i.size 1)
structure TRow (P:Program)(t:TypeId)(i:TI):Prop where
 und:P.underlying t=some i.d
 info:(P.info? t).map (λx=>(x.size,x.zero,x.bytes))=some (i.size,some i.zero,i.bytes)
 ok:zok i=true
theorem TRow.tok{P:Program}{t:TypeId}{i:TI}(h:TRow P t i):TOk P t i:=by
 have hz:=h.ok
 simp only[zok,zA7,Bool.or_eq_true]at hz
 refine⟨h.und,?_,Nat.eq_of_beq_eq_true hz.1.1,Zez hz.1.2,λha=>?_⟩
 ·obtain⟨x,hx,e⟩:=Option.map_eq_some_iff.1 h.info
  simp only[Prod.mk.injEq]at e
  exact⟨x,hx,e.1,e.2.1,e.2.2⟩
 ·rcases hz.2 with h1|h1
  ·rw[ha]at h1;cases h1
  ·exact Nat.eq_of_beq_eq_true h1
def ZuL:List (Nat×TI)->Nat->Option TI
 | [],_=>none
 | q::l,t=>bif Nat.beq t q.1 then some q.2 else ZuL l t
def ZwX(P:Program):List (Nat×TI)->Prop
 | []=>True
 | q::l=>TRow P q.1 q.2/\ZwX P l
theorem Zpq{P:Program}:∀{l:List (Nat×TI)},ZwX P l->∀t i,ZuL l t=some i->TOk P t i
 | [],_,t,i,h=>by simp[ZuL]at h
 | q::l,hl,t,i,h=>by
  simp only[ZuL]at h
  cases hb:Nat.beq t q.1 with
  | true=>
   simp only[hb,cond_true,Option.some.injEq]at h
   rw[Nat.eq_of_beq_eq_true hb,<-h];exact hl.1.tok
  | false=>simp only[hb,cond_false]at h;exact Zpq hl.2 t i h
abbrev Zac(l:List (Option Box)):Prop:=l=l
abbrev lV(x:List Value)(K:List Value->Prop):Prop:=K x
abbrev lM(x:Mem)(K:Mem->Prop):Prop:=K x
abbrev lX(x:Value)(K:Value->Prop):Prop:=K x
abbrev lE{α:Type}(x:α)(K:α->Prop):Prop:=K x
abbrev atA(a:Option Addr)(K:Nat->Nat->Prop):Prop:=∃b o:Nat,a=some (Addr.mk b o none)/\K b o
abbrev inI(I:IT)(xs:List Value)(css:List (List Value))(ts:List Value)(m:Mem):Prop:=∃n,I xs css ts m n
abbrev nxI(k:Nat)(I:IT)(xs:List Value)(css:List (List Value))(ts:List Value)(m:Mem):Prop:=∃n,n < k/\I xs css ts m n
abbrev fzM(m:Mem)(l:List Value)(K:Nat->Mem->Prop):Prop:=∀(b:Nat)(m':Mem),m.le m'->m'.reads b 0 l->K b m'
abbrev rtM(m M:Mem)(R:RT)(v:Value):Prop:=∃m'':Mem,m.le m''/\m''.le M/\R v m'' []
abbrev kB(P:Program)(f:FuncId)(a:List Value)(m:Mem)(K:Bool->Mem->Prop):Prop:=∃R:RT,True/\CX P f (Array.mk a) m [] R/\(∀(v:Value)(m':Mem) (css:List (List Value)),R v m' css->Shape.fits .bool v=true)/\∀(b:Bool)(m':Mem),m.le m'->R (.bool b) m' []->K b m'
abbrev kI(P:Program)(f:FuncId)(a:List Value)(m:Mem)(K:Int->Mem->Prop):Prop:=∃R:RT,True/\CX P f (Array.mk a) m [] R/\(∀(v:Value)(m':Mem) (css:List (List Value)),R v m' css->Shape.fits (.int .i64) v=true)/\∀(n:Int)(m':Mem),m.le m'->R (.int .i64 n) m' []->K n m'
abbrev kS(P:Program)(f:FuncId)(a:List Value)(m:Mem)(K:Option Addr->Nat->Nat->Mem->Prop):Prop:=∃R:RT,True/\CX P f (Array.mk a) m [] R/\(∀(v:Value)(m':Mem) (css:List (List Value)),R v m' css->Shape.fits .slice v=true)/\∀(a:Option Addr)(n c:Nat)(m':Mem),m.le m'->R (.slice a n c) m' []->K a n c m'
abbrev kT(P:Program)(f:FuncId)(a:List Value)(m:Mem)(K:ByteArray->Mem->Prop):Prop:=∃R:RT,True/\CX P f (Array.mk a) m [] R/\(∀(v:Value)(m':Mem) (css:List (List Value)),R v m' css->Shape.fits .str v=true)/\∀(s:ByteArray)(m':Mem),m.le m'->R (.string s) m' []->K s m'
abbrev kF(P:Program)(f:FuncId)(a:List Value)(m:Mem)(K:Nat->List Value->List Value->Mem->Prop):Prop:=∃R:RT,True/\CX P f (Array.mk a) m [] R/\(∀(v:Value)(m':Mem) (css:List (List Value)),R v m' css->Shape.fits .fn v=true)/\∀(g:Nat)(fi ca:List Value)(m':Mem),m.le m'->R (.func (.func g) (Array.mk fi) (Array.mk ca)) m' []->K g fi ca m'
abbrev Ret(u:Value):Value->Mem->List (List Value)->Prop:=λv _ _=>v=u
theorem Zaf{m m':Mem}{R:Value->Mem->List (List Value)->Prop}{v:Value}(h:m.le m')(k:R v m []):∃m'':Mem,m.le m''/\m''.le m'/\R v m'' []:=⟨m,Mem.le_refl m,h,k⟩
theorem ZaH{m m':Mem}{R:Value->Mem->List (List Value)->Prop}{v:Value}(h:m.le m')(k:R v m' []):∃m'':Mem,m.le m''/\m''.le m'/\R v m'' []:=⟨m',h,Mem.le_refl _,k⟩
section
variable {P:Program} {g:FuncId} {args:Array Value} {m:Mem}
theorem Zai{K:Bool->Mem->Prop}{x:Bool}(h:CX P g args m [] (Ret (.bool x)))(k:∀m',m.le m'->K x m'):
  ∃R:Value->Mem->List (List Value)->Prop,True/\CX P g args m [] R/\(∀(v:Value)(m':Mem) (css:List (List Value)),R v m' css->Shape.fits .bool v=true)/\∀(b:Bool)(m':Mem),m.le m'->R (.bool b) m' []->K b m':=
 ⟨_,trivial,h,λv _ _ e=>by rw[e];rfl,λb m' hm e=>by cases e;exact k m' hm⟩
theorem ZcD{kk:IntKind}{K:Int->Mem->Prop}{x:Int}(h:CX P g args m [] (Ret (.int kk x)))(k:∀m',m.le m'->K x m'):
  ∃R:Value->Mem->List (List Value)->Prop,True/\CX P g args m [] R/\(∀(v:Value)(m':Mem) (css:List (List Value)),R v m' css->Shape.fits (.int kk) v=true)/\∀(b:Int)(m':Mem),m.le m'->R (.int kk b) m' []->K b m':=
 ⟨_,trivial,h,λv _ _ e=>by rw[e];simp[Shape.fits],λb m' hm e=>by cases e;exact k m' hm⟩
theorem Zan{s:Shape}{R:Value->Mem->List (List Value)->Prop}{Q:(Value->Mem->List (List Value)->Prop)->Prop}(h:CX P g args m [] R)(hs:∀(v:Value)(m':Mem) (css:List (List Value)),R v m' css->s.fits v=true)(k:Q R):
  ∃R:Value->Mem->List (List Value)->Prop,True/\CX P g args m [] R/\(∀(v:Value)(m':Mem) (css:List (List Value)),R v m' css->s.fits v=true)/\Q R:=⟨R,trivial,h,hs,k⟩
end
theorem Zak{n:Int}(h1 : -9223372036854775808<=n)(h2:n<=9223372036854775807):IntKind.i64.wrap n=n:=by
 unfold IntKind.wrap
 simp only[IntKind.bits,IntKind.signed,Bool.true_and]
 have e:(2:Int) ^ 64=18446744073709551616:=by decide
 have e':(2:Int) ^ (64 - 1)=9223372036854775808:=by decide
 simp only[e,e']
 split
 ·rename_i h
  have:=zA6 h
  omega
 ·rename_i h
  have:¬(n % 18446744073709551616 ≥ 9223372036854775808):=λhh=>h (decide_eq_true hh)
  omega
theorem Zch{f f':Nat}{a b a' b':List Value}(h:Value.func (.func f) a.toArray b.toArray=.func (.func f') a'.toArray b'.toArray):f=f'/\a=a'/\b=b':=by
 simpa using h
theorem Zao{a b:Bool}(h:a=b):[Value.bool a]=[Value.bool b]:=by rw[h]
end Go.Eng
namespace Go.Eng
open Go Go.RowKit Go.ChangeShapes Go.WideShapes
def Zmz(W:World):Mem:=⟨λb o=>W.cell? ⟨b,o,none⟩,λ_=>none⟩
theorem Zfm{H:Type}{enc:TypeId×Value->H}{P:Program}(hl:laidOutB P=true){W W':World}{sp:Nat->Bool}:∀{ts:List TypeId} {vs:List Value} {ds:List (DataW H)} {ps:List MemPlace},(∀t∈ts,P.readableRec t=true/\t < P.types.size)->DataW.TrodAll enc P W 0 (λ_=>true) true ts vs ds ps->(∀p∈ps,W.sameAt W' p)->(∀p∈ps,sp p.block=true)->DataW.TrodAll enc P W' 0 sp true ts vs ds ps
 | [],[],[],ps,_,h,_,_=>h
 | t::ts,v::vs,d::ds,ps,ht,h,hs,mr=>by
  obtain⟨p,q,h1,h2,rfl⟩:=h
  exact⟨p,q,WideElems.Trod_stays hl (ht t (by simp)).1 (ht t (by simp)).2 h1 (λx hx=>hs x (by simp[hx])) (λx hx=>mr x (by simp[hx])),Zfm hl (λt' h'=>ht t' (by simp[h'])) h2 (λx hx=>hs x (by simp[hx])) (λx hx=>mr x (by simp[hx])),rfl⟩
 | [],[],_::_,_,_,h,_,_=>h.elim
 | [],_::_,_,_,_,h,_,_=>by simp[DataW.TrodAll]at h
 | _::_,[],_,_,_,h,_,_=>by simp[DataW.TrodAll]at h
 | _::_,_::_,[],_,_,h,_,_=>h.elim
theorem Zq3{H:Type}{enc:TypeId×Value->H}{P:Program}{g:FuncId}{f:Func}{s:ChangeSpec}{W:World}{args:Array Value}{ds gs:List (DataW H)}{before:List MemPlace}{tb:TypeId}(hl:laidOutB P=true)
  (nb:∀t∈f.params.toList,P.readableRec t=true/\t < P.types.size) (hW:DataW.Whole enc P f.params.toList s.vars false W args.toList ds gs before) (hv:s.vars=[])
  (hr:(s.fn H (ds++gs)).results=[.lit (.bool true)]) (ha:(s.fn H (ds++gs)).args=ds) (hw:(s.fn H (ds++gs)).vars=[]) (j7:f.resultTypes=#[tb]) (vI:P.underlying tb=some .bool)
  (fM:CX P g args (Zmz W) [] (Ret (.bool true))):
  Calls P g args W λe W'=>∃v,e=.returned v/\s.post enc P f false true false false W args v W':=by
 refine(fM.2 W ⟨λ_ _ _ h=>h,λ_ _ h=>by cases h⟩ (by simp) (by simp)).mono ?_
 rintro e W' ⟨v,m',css,rfl,hm,dx,bJ,hk,_,_,rfl⟩
 have hb:Below W.heap.size W W':=hk.below
 have aC:∀p∈before,p.block < W.heap.size:=λp hp=>by simpa using hW.lt p hp
 have hW':=hW
 obtain⟨p,q,hA,hV,rfl,hz,hn⟩:=hW
 rw[hv]at hV
 obtain⟨rfl,rfl⟩:gs=[]/\q=[]:=by
  cases gs with
  | nil=>exact⟨rfl,hV⟩
  | cons g gs=>exact hV.elim
 refine⟨_,rfl,ds,[],p++[],[],p,[],hW',?_,?_,?_,hb.frame _,λh=>by cases h⟩
 ·rw[hr,j7]
  exact trodAll_cons_mk (shut_bool vI _) trodAll_mk0
 ·rw[ha]
  exact Zfm hl nb hA (λx hx=>hb.same (aC x (by simp[hx]))) (λx hx=>by simpa using aC x (by simp[hx]))
 ·rw[hw,hv];rfl
end Go.Eng