/- The engine: a reckoner over the code of a program in Lean, with its soundness; it names no program. No condition. -/
import Derived.Test.YtplacemlpkhmfaaMb
import Derived.OrdersIn
import Derived.ProofKit
import Derived.OpenShut
import Derived.JoinedCond
import Derived.Deep.Slices
set_option linter.unusedVariables false
set_option linter.unusedSimpArgs false
set_option linter.unusedSectionVars false
namespace Go.Eng
open Go Go.RowKit
theorem Zld{F:Fence}{n:Nat}{P:Program}{c:Code}{Q:Exit->Act->World->Prop}{a:Act}{w:World}(Inv:Nat->Act->World->Prop)(h0:∃q,Inv q a w)
  (round:∀q a w,Inv q a w->c.wpIn F n P (Exit.then (λa' w'=>∃q',q' < q/\Inv q' a' w') Q) a w):(Code.loop c).wpIn F n P Q a w:=by
 classical
 have kj:∀a w,(∃q,Inv q a w)->∃q,Inv q a w/\∀q',Inv q' a w->q<=q':=by
  intro a w ⟨q,hq⟩
  induction q using Nat.strongRecOn with
  | _ q ih=>
   by_cases hh:∃q',q' < q/\Inv q' a w
   ·obtain⟨q',h1,h2⟩:=hh;exact ih q' h1 h2
   ·exact⟨q,hq,λq' hq'=>Nat.le_of_not_lt λaH=>hh ⟨q',aH,hq'⟩⟩
 let μ:Act->World->Nat:=λa w=>if h:∃q,Inv q a w then Classical.choose (kj a w h)else 0
 have hμ:∀a w (h:∃q,Inv q a w),Inv (μ a w) a w/\∀q',Inv q' a w->μ a w<=q':=λa w h=>by
  have:=Classical.choose_spec (kj a w h)
  simp only[μ,h,dif_pos];exact this
 refine wpIn_loop (λa w=>∃q,Inv q a w) μ h0 λa w hI=>?_
 refine wpIn_mono (round _ a w (hμ a w hI).1) λe a' w' he=>?_
 cases e with
 | normal=>
  obtain⟨q',h1,h2⟩:=he
  exact⟨⟨q',h2⟩,Nat.lt_of_le_of_lt ((hμ a' w' ⟨q',h2⟩).2 q' h2) h1⟩
 | _=>exact he
theorem Zb9{P:Program}{b:Frame}{a:Act}{k:List Item}{cs:List Frame}{w:World}{c:Code}:step P (lone (b.atR a (.code (.scope c)::k)) cs w)=.next (lone (b.atR a (.code c::.inScope c::k)) cs w):=
 step_lone_go (by simp[stepG,stepG.exec,Frame.atR])
theorem Zin{P:Program}{b:Frame}{a:Act}{k:List Item}{cs:List Frame}{w:World}{c:Code}:step P (lone (b.atR a (.inScope c::k)) cs w)=.next (lone (b.atR a k) cs w):=
 step_lone_go (by simp[stepG,stepG.exec,Frame.atR])
theorem ZmS{F:Fence}{n:Nat}{P:Program}{a:Act}{w:World}{Q:Exit->Act->World->Prop}{c:Code}(h:c.wpIn F n P (λe a w=>match e with
  | .goto _=>False
  | e=>Q e a w) a w):(Code.scope c).wpIn F n P Q a w:=by
 intro b k cs rp hb hr
 have h0:(lone (b.atR a (.code (.scope c)::k)) cs w).fenced P F:=fenced_calm hb hr rfl
 obtain⟨e,a₁,w₁,hq,cU⟩:=h b (.inScope c::k) cs rp hb hr
 cases e with
 | normal=>exact⟨.normal,a₁,w₁,hq,.head h0 Zb9 (StepsIn.trans cU (.one (fenced_calm hb hr rfl) Zin))⟩
 | exit id=>
  have hx:exitTo id (.inScope c::k)=exitTo id k:=by simp[exitTo]
  exact⟨.exit id,a₁,w₁,hq,λk' hk=>.head h0 Zb9 (cU.1 k' (by rw[hx];exact hk)),
    λhr' hk=>let ⟨k₁,h1,h2⟩:=cU.2 hr' (by rw[hx];exact hk);⟨k₁,h1,.head h0 Zb9 h2⟩⟩
 | goto l=>exact hq.elim
 | ret=>exact⟨_,a₁,w₁,hq,.of_steps (.one h0 Zb9) cU⟩
 | panic ch=>exact⟨_,a₁,w₁,hq,.of_steps (.one h0 Zb9) cU⟩
 | outgrown=>exact⟨_,a₁,w₁,hq,.of_steps (.one h0 Zb9) cU⟩
theorem YOk.cold{E:Env}{C:Ctx}(h:YOk E C):YOk E.cold C:=⟨h.y,h.m0⟩
def Zc5(E:Env)(ZaP:Nat->Array Oper->(St->Mem->Prop)->St->Mem->Prop):Prop:=
 ∀{C:Ctx} {F:Fence} (_:FOk F) (_:YOk E C) (n:Nat) (id:Nat) (ops:Array Oper) {K:St->Mem->Prop} {S:St} {m:Mem} {a:Act} {w:World} {Q:Exit->Act->World->Prop},
  Zjb C.n ops.toList=true->Rel C S m a w->ZaP id ops K S m->(∀S' m' a' w',K S' m'->Rel C S' m' a' w'->Q .normal a' w')->(Code.region id ops true).wpIn F n E.P Q a w
theorem Zb0{E:Env}(hE:E.ok){ZaP:Nat->Array Oper->(St->Mem->Prop)->St->Mem->Prop}(hD:Zdt E ZaP)(gl:Zc5 E ZaP):
  ∀(c:Code),Zaq E c=true->∀{F:Fence} (_:FOk F) {C:Ctx} (_:YOk E C) (_:ROk F C) (n:Nat),Zbf C.n c=true->∀{S:St} {m:Mem} {a:Act} {w:World} {K:KT} {Q:Exit->Act->World->Prop},Rel C S m a w->W E ZaP c K S m->
   (∀e S' m' a' w',K e S' m'->Rel C S' m' a' w'->Q e a' w')->c.wpIn F n E.P Q a w
 | .skip,_,F,hF,C,hY,hR,n,_,S,m,a,w,K,Q,hr,h,hK=>wpIn_skip (hK _ _ _ _ _ h hr)
 | .label _,_,F,hF,C,hY,hR,n,_,S,m,a,w,K,Q,hr,h,hK=>wpIn_label (hK _ _ _ _ _ h hr)
 | .exit _,_,F,hF,C,hY,hR,n,_,S,m,a,w,K,Q,hr,h,hK=>wpIn_exit (hK _ _ _ _ _ h hr)
 | .ret,_,F,hF,C,hY,hR,n,_,S,m,a,w,K,Q,hr,h,hK=>wpIn_ret (hK _ _ _ _ _ h hr)
 | .region id ops draw,hc,F,hF,C,hY,hR,n,hl,S,m,a,w,K,Q,hr,h,hK=>by
  simp only[W]at h
  simp only[Zbf]at hl
  cases hj:E.joins id with
  | none=>
   simp only[hj]at h
   cases draw with
   | true=>exact gl hF hY n id ops hl hr (by simpa using h) (λS' m' a' w' hk aG=>hK _ _ _ _ _ hk aG)
   | false=>
    simp only[cond_false]at h
    exact Zr4 hY hr h λK' S' m' hr' h' fin=>wpIn_region (ZgS hE hF hY hl _ hr' h' (λS2 m2 a2 w2 hk aG=>by
     obtain⟨S3,m3,k3,r3⟩:=fin S2 m2 a2 w2 hk aG
     exact hK _ _ _ _ _ k3 r3))
  | some outs=>
   simp only[hj]at h
   obtain⟨xs,_,h1,h2⟩:=Shape.exL_elim _ _ h
   have fin:∀S' m' a' w',((S'.gh=S.gh/\ZbG S' Zfq S.ids=ZbG S Zfq S.ids/\ZaS S' Zfq S.tkeys=ZaS S Zfq S.tkeys/\ZfG S' outs λxs'=>xs'=xs)/\SameOut (Zao ops.toList) S S'/\m.le m')->Rel C S' m' a' w'->Q .normal a' w':=by
    rintro S' m' a' w' ⟨⟨g0,g1,g2,g3⟩,g4,g5⟩ aG
    obtain⟨xs',_,e2,e3,rfl⟩:=Zcm aG g3
    refine hK _ _ _ _ _ h2 ?_
    have hz:=ZdS (A:=⟨outs,[],[],false⟩) (css:=[]) (tvs:=[]) hr.ok aG g4 (by simpa[ZbG,Zfq]using g1) (by simpa[ZaS,Zfq]using g2) e2 rfl (by simp) rfl (by simp)
    have:ZbA S (Zao ops.toList) ⟨outs,[],[],false⟩ S'.gh xs' [] []={ S with env:=Zbr (λi=>bif (Zao ops.toList).any (Nat.beq i ·)then none else S.env i) outs xs' }:=by
     simp[ZbA,Zbs,ZeH,g0]
    rw[this]at hz
    exact hz.forget g5 hr.le (λid x hx hf=>(hr.own id x hx).known hf)
   cases draw with
   | true=>
    simp only[cond_true]at h1
    cases dB:E.last id with
    | true=>simp only[dB,cond_true]at h1
    | false=>
    simp only[dB,cond_false]at h1
    have h1':=hD id ops _ (λS' m'=>(S'.gh=S.gh/\ZbG S' Zfq S.ids=ZbG S Zfq S.ids/\ZaS S' Zfq S.tkeys=ZaS S Zfq S.tkeys/\ZfG S' outs λxs'=>xs'=xs)/\SameOut (Zao ops.toList) S S'/\m.le m') S m (λS' m' hs hm y=>⟨by have y':=Zdy y;rw[Zcx,Zcy]at y';exact⟨y'.1 rfl,y'.2⟩,hs,hm.le dB⟩) h1
    exact gl hF hY n id ops hl hr h1' fin
   | false=>
    simp only[cond_false]at h1
    have h1':ZrX E.cold ops (List.range ops.size) (λS' m'=>(S'.gh=S.gh/\ZbG S' Zfq S.ids=ZbG S Zfq S.ids/\ZaS S' Zfq S.tkeys=ZaS S Zfq S.tkeys/\ZfG S' outs λxs'=>xs'=xs)/\SameOut (Zao ops.toList) S S'/\m.le m') S m:=
     Zga (E:=E.cold) (λS' m' hs hm y=>⟨by have y':=Zdy y;rw[Zcx,Zcy]at y';exact⟨y'.1 rfl,y'.2⟩,hs,hm⟩) h1
    exact wpIn_region (ZgS (E:=E.cold) hE hF hY.cold hl _ hr h1' fin)
 | .seq x y,hc,F,hF,C,hY,hR,n,hl,S,m,a,w,K,Q,hr,h,hK=>by
  simp only[Zaq,Zbf,zA7]at hc hl
  simp only[W]at h
  cases fX:E.cuts (ZaJ y)with
  | none=>
   simp only[fX]at h
   refine wpIn_seq (Zb0 hE hD gl x hc.1.1 hF hY hR n hl.1 hr h λe S' m' a' w' hk aG=>?_)
   cases e with
   | normal=>exact Zb0 hE hD gl y hc.1.2 hF hY hR n hl.2 aG hk hK
   | _=>exact hK _ _ _ _ _ hk aG
  | some A=>
   simp only[fX]at h hc
   obtain⟨J,h1,h2⟩:=h
   have h1':=Zdh hD x hc.1.1 (K':=λe S' m'=>(match e with
    | .normal=>Zjc A.gh S'.gh S.gh (Zkw (ZbG S' A S.ids) (ZbG S A S.ids) (Zkx (ZaS S' A S.tkeys) (ZaS S A S.tkeys) (ZfG S' A.slots λxs=>Zqe S' A.boxes λcss=>ZeR S' A.toks λtvs=>J (ghs A.gh S'.gh xs) css tvs m')))
    | e=>K e S' m')/\SameOut (Zg9 x) S S'/\leT E.thaw m m') (λe S' m' hs hm y=>⟨y,hs,hm⟩) h1
   refine wpIn_seq (Zb0 hE hD gl x hc.1.1 hF hY hR n hl.1 hr h1' ?_)
   rintro e S' m' a' w' ⟨hk,hs,eR⟩ aG
   cases e with
   | normal=>
    obtain⟨r0,hk⟩:=Zdy hk
    obtain⟨r1,hk⟩:=Zcx.1 hk
    obtain⟨r2,hk⟩:=Zcy.1 hk
    obtain⟨xs,f1,f2,f3,hk⟩:=Zcm aG hk
    obtain⟨css,g1,g2,hk⟩:=ZcN hk
    obtain⟨tvs,k1,k2,hJ⟩:=ZbM hk
    have dM:∀v∈tvs,ZdK v=true:=λv hv=>by
     obtain⟨i,hi⟩:=List.getElem?_of_mem hv
     have aH:=(zA0 hi).1
     obtain⟨qe,jE⟩:∃qe,A.toks[i]?=some qe:=⟨_,zA3 (by omega)⟩
     exact(k2 i qe.1 qe.2 v jE hi).1
    exact Zb0 hE hD gl y hc.1.2 hF hY hR n hl.2 (ZdS hr.ok aG hs r1 r2 f2 g1 g2 k1 k2) (ZdC (ZdB (Shape.allL_fits _ _ (Zf5 h2 r0) xs f1) css g1) tvs k1 dM m' eR hJ) hK
   | _=>exact hK _ _ _ _ _ hk aG
 | .cond c x y,hc,F,hF,C,hY,hR,n,hl,S,m,a,w,K,Q,hr,h,hK=>by
  simp only[Zaq,Zbf,zA7]at hc hl
  obtain⟨v,hv,h⟩:=Zay h
  obtain⟨h1,h2⟩:=Zad h
  obtain⟨b,rfl⟩:∃b,v=.bool b:=⟨_,Zby h1⟩
  simp only[Zb2]at h2
  refine wpIn_cond (hr.ev hv) ?_
  cases b
  ·exact Zb0 hE hD gl y hc.2 hF hY hR n hl.2 hr h2 hK
  ·exact Zb0 hE hD gl x hc.1 hF hY hR n hl.1 hr h2 hK
 | .block id x,hc,F,hF,C,hY,hR,n,hl,S,m,a,w,K,Q,hr,h,hK=>by
  simp only[Zaq,Zbf]at hc hl
  simp only[W]at h
  refine wpIn_block (Zb0 hE hD gl x hc hF hY hR n hl hr h λe S' m' a' w' hk aG=>?_)
  cases e with
  | exit id'=>
   simp only at hk
   simp only[Exit.inBlock]
   cases hb:Nat.beq id' id with
   | true=>
    simp only[hb,cond_true]at hk
    rw[if_pos (Nat.eq_of_beq_eq_true hb)]
    exact hK _ _ _ _ _ hk aG
   | false=>
    simp only[hb,cond_false]at hk
    rw[if_neg (λe=>by subst e;simp at hb)]
    exact hK _ _ _ _ _ hk aG
  | _=>exact hK _ _ _ _ _ hk aG
 | .loop x,hc,F,hF,C,hY,hR,n,hl,S,m,a,w,K,Q,hr,h,hK=>by
  simp only[Zaq,Zbf,zA7]at hc hl
  simp only[W]at h
  obtain⟨I,h1,h2⟩:=h
  generalize hA:E.loops (ZaJ x)=A at *
  obtain⟨xs,f1,f2,f3,h1⟩:=Zcm hr h1
  obtain⟨css,g1,g2,h1⟩:=ZcN h1
  obtain⟨tvs,k1,k2,q,h1⟩:=ZbM h1
  have bX:=hr.ok
  refine Zld (λq a w=>∃g xs css tvs m',(A.gh=false->g=S.gh)/\Shape.fitsL (A.slots.map (·.2)) xs=true/\css.length=A.boxes.length/\tvs.length=A.toks.length/\(∀v∈tvs,ZdK v=true)/\leT E.thaw m m'/\I (ghs A.gh g xs) css tvs m' q/\Rel C (ZbA S (Zg9 x) A g xs css tvs) m' a w) ?_ ?_
  ·refine⟨q,S.gh,xs,css,tvs,m,λ_=>rfl,f1,g1,k1,λv hv=>?_,leT.refl _ m,h1,?_⟩
   ·obtain⟨i,hi⟩:=List.getElem?_of_mem hv
    have aH:=(zA0 hi).1
    obtain⟨qe,jE⟩:∃qe,A.toks[i]?=some qe:=⟨_,zA3 (by omega)⟩
    exact(k2 i qe.1 qe.2 v jE hi).1
   ·exact ZdS bX hr (SameOut.refl _ _) rfl rfl f2 g1 g2 k1 k2
  ·rintro q a w ⟨g,xs,css,tvs,m',hg,f1,g1,k1,k2,hm,hI,aG⟩
   have hb:=ZdC (ZdB (Shape.allL_fits _ _ (Zf5 h2 hg) xs f1) css g1) tvs k1 k2 m' q hm hI
   have hb':=Zdh hD x hc.1 (K':=λe S' m''=>(match e with
    | .normal=>Zjc A.gh S'.gh S.gh (Zkw (ZbG S' A S.ids) (ZbG S A S.ids) (Zkx (ZaS S' A S.tkeys) (ZaS S A S.tkeys) (ZfG S' A.slots λxs'=>Zqe S' A.boxes λcss'=>ZeR S' A.toks λtvs'=>∃n',n' < q/\I (ghs A.gh S'.gh xs') css' tvs' m'' n')))
    | e=>K e S' m'')/\SameOut (Zg9 x) (ZbA S (Zg9 x) A g xs css tvs) S'/\leT E.thaw m' m'') (λe S' m'' hs hm y=>⟨y,hs,hm⟩) hb
   refine Zb0 hE hD gl x hc.1 hF hY hR n hl aG hb' ?_
   rintro e S' m'' a' w' ⟨hk,hs,eR⟩ jH
   cases e with
   | normal=>
    obtain⟨r0,hk⟩:=Zdy hk
    obtain⟨r1,hk⟩:=Zcx.1 hk
    obtain⟨r2,hk⟩:=Zcy.1 hk
    obtain⟨xs',f1',f2',f3',hk⟩:=Zcm jH hk
    obtain⟨css',g1',g2',hk⟩:=ZcN hk
    obtain⟨tvs',k1',k2',q',aH,hI'⟩:=ZbM hk
    have hm':leT E.thaw m m'':=leT.trans hm eR
    refine⟨q',aH,S'.gh,xs',css',tvs',m'',r0,f1',g1',k1',λv hv=>?_,hm',hI',?_⟩
    ·obtain⟨i,hi⟩:=List.getElem?_of_mem hv
     have aH:=(zA0 hi).1
     obtain⟨qe,jE⟩:∃qe,A.toks[i]?=some qe:=⟨_,zA3 (by omega)⟩
     exact(k2' i qe.1 qe.2 v jE hi).1
    ·have eT:SameOut (Zg9 x) S S':=SameOut.trans (Zc3 (S':=ZbA S (Zg9 x) A g xs css tvs) hc.2 rfl) hs
     exact ZdS bX jH eT r1 r2 f2' g1' g2' k1' k2'
   | _=>exact hK _ _ _ _ _ hk jH
 | .goto _,_,F,hF,C,hY,hR,n,_,S,m,a,w,K,Q,hr,h,hK=>by simp[W]at h
 | .scope x,hc,F,hF,C,hY,hR,n,hl,S,m,a,w,K,Q,hr,h,hK=>by
  simp only[Zaq,Zbf]at hc hl
  simp only[W]at h
  refine ZmS (Zb0 hE hD gl x hc hF hY hR n hl hr h λe S' m' a' w' hk aG=>?_)
  cases e with
  | goto l=>exact hk.elim
  | _=>exact hK _ _ _ _ _ hk aG
 | .rangeFunc f ps x y,hc,F,hF,C,hY,hR,n,hl,S,m,a,w,K,Q,hr,h,hK=>by
  simp only[Zaq,Zbf,zA7]at hc hl
  simp only[W]at h
  exact Zlc hF hY hR n (λhF' _ hY' hR' n' hl'=>Zb0 hE hD gl x hc.1 hF' hY' hR' n' hl') (λhF' _ hY' hR' n' hl'=>Zb0 hE hD gl y hc.2 hF' hY' hR' n' hl')
   (λhk=>Zdh hD x hc.1 (λe S' m' _ hm y=>⟨y,hm⟩) hk) (λhk=>Zdh hD y hc.2 (λe S' m' _ hm y=>⟨y,hm⟩) hk) hl.2.1 hl.2.2 hl.1 hr h hK
 | .refuse _,_,F,hF,C,hY,hR,n,_,S,m,a,w,K,Q,hr,h,hK=>by simp[W]at h
def bid(j:Nat):Nat:=100000+j
def ZmT(xs:List Box):SV->Value
 | .v x=>x
 | .loc id off=>match xs[id - 100000]? with
  | some x=>.pointer (some ⟨x.b,off,none⟩)
  | none=>undef
 | .sl id n c=>match xs[id - 100000]? with
  | some x=>.slice (some ⟨x.b,0,none⟩) n c
  | none=>undef
def Ztu(xs:List Box):SV->Bool
 | .v _=>true
 | .loc id _=>Nat.ble 100000 id&&Nat.blt (id - 100000) xs.length
 | .sl id _ _=>Nat.ble 100000 id&&Nat.blt (id - 100000) xs.length
def Zji(xs:List Box):List SV->Bool
 | []=>true
 | s::l=>Ztu xs s&&Zji xs l
def S0(svs:List SV)(xs:List Box):St:=
 {env:=λi=>svs[i]?
  L:=λid=>bif Nat.ble 100000 id then xs[id - 100000]? else none
  ids:=(List.range xs.length).map bid
  tok:=λ_=>none
  tkeys:=[]
  gh:=0 }
def Zqf(E:Env)(S:St)(m:Mem):ResultVar->(Value->Prop)->Prop
 | .tmp t,k=>wv S (.tmp t) k
 | .cell t T,k=>ZeP E S m T (.tmp t) k
def ZmU(tmps:Array Value):ResultVar->Sem Value
 | .tmp t=>pure (tmps.getD t undef)
 | .cell a t=>do loadVar t (<-asAddr (tmps.getD a undef))
def Zte(E:Env)(S:St)(m:Mem):List ResultVar->(List Value->Prop)->Prop
 | [],k=>k []
 | r::l,k=>Zqf E S m r λv=>Zte E S m l λvs=>k (v::vs)
def Zp5:List Value->Value
 | [v]=>v
 | vs=>.tuple vs.toArray
def ZrN(S:St):Nat->List Box->(List (List Value)->Prop)->Prop
 | _,[],k=>k []
 | j,x::xs,k=>match S.L (bid j)with
  | none=>False
  | some y=>{ y with cs:=x.cs }=x/\ZrN S (j+1) xs λcss=>k (y.cs::css)
def ZrO(l:List Nat):Bool:=ZaU l&&l.all (λi=>Nat.blt i 100000)
def Zuz(E:Env)(rs:List ResultVar)(m0:Mem)(xs:List Box)(R:Value->Mem->List (List Value)->Prop)(S:St)(m:Mem):Prop:=
 Zte E S m rs λvs=>ZrN S 0 xs λcss=>∃m'',m0.le m''/\m''.le (Zqa S E.frz m)/\R (Zp5 vs) m'' css
def ZuK(E:Env)(rs:List ResultVar)(m0:Mem)(xs:List Box)(R:Value->Mem->List (List Value)->Prop):KT:=λe S m=>match e with
 | .normal=>Zuz E rs m0 xs R S m
 | .ret=>Zuz E rs m0 xs R S m
 | _=>False
theorem Zle{P:Program}{T:TypeId}{x v:Value}{w:World}(h:(Instr.loadAt T x).run P w=.ok v w):(do loadVar T (<-asAddr x):Sem Value).run P w=.ok v w:=by
 cases x with
 | pointer p=>
  cases p with
  | none=>simp[Instr.loadAt,Instr.sureAddr]at h
  | some p=>simpa[Instr.loadAt,Instr.sureAddr,asAddr]using h
 | _=>simp[Instr.loadAt,Instr.sureAddr]at h
theorem Zj3{a b:Nat}(h:Nat.blt a b=true):a < b:=Nat.le_of_ble_eq_true h
section
variable {C:Ctx} {S:St} {m:Mem} {a:Act} {w:World}
theorem Zio{E:Env}(hE:E.ok)(hr:Rel C S m a w){r:ResultVar}{k:Value->Prop}(h:Zqf E S m r k):∃v,k v/\(ZmU a.tmps r).run E.P w=.ok v w:=by
 cases r with
 | tmp t=>
  obtain⟨v,hv,hk⟩:=Zay h
  refine⟨v,hk,?_⟩
  have:=hr.ev hv
  simp only[Act.eval]at this
  simp only[ZmU]
  rw[<-this];rfl
 | cell t T=>
  obtain⟨v,hk,bH⟩:=Zfh hE hr h
  exact⟨v,hk,Zle bH⟩
theorem ZdE{E:Env}(hE:E.ok)(hr:Rel C S m a w):∀{rs:List ResultVar} {k:List Value->Prop},Zte E S m rs k->∃vs,k vs/\(rs.mapM (ZmU a.tmps)).run E.P w=.ok vs w
 | [],k,h=>⟨[],h,by simp⟩
 | r::l,k,h=>by
  obtain⟨v,h,h1⟩:=Zio hE hr h
  obtain⟨vs,hk,h2⟩:=ZdE hE hr h
  refine⟨v::vs,hk,?_⟩
  rw[List.mapM_cons]
  simp only[Sem.run_bind,h1,Result.andThen_ok,h2]
  rfl
theorem ZcP{fn:Func}{tmps:Array Value}{P:Program}{w:World}{vs:List Value}(h:(fn.results.toList.mapM (ZmU tmps)).run P w=.ok vs w):(results fn tmps).run P w=.ok (Zp5 vs) w:=by
 have e:results fn tmps=(do
  let vs <-fn.results.mapM (ZmU tmps)
  pure (if h:vs.size=1 then vs[0]else .tuple vs)):=rfl
 rw[e,Array.mapM_eq_mapM_toList]
 simp only[Sem.run_bind,Sem.run_map,h,Result.andThen_ok]
 match vs with
 | []=>rfl
 | [v]=>rfl
 | v::u::l=>rfl
theorem Zfu:∀{xs:List Box} {j:Nat} {k:List (List Value)->Prop},ZrN S j xs k->∃css,css.length=xs.length/\(∀(i:Nat)(x:Box),xs[i]?=some x->∃cs,css[i]?=some cs/\S.L (bid (j+i))=some { x with cs:=cs })/\k css
 | [],j,k,h=>⟨[],rfl,by simp,h⟩
 | x::xs,j,k,h=>by
  simp only[ZrN]at h
  cases hL:S.L (bid j)with
  | none=>simp[hL]at h
  | some y=>
   simp only[hL]at h
   obtain⟨h1,h2⟩:=h
   obtain⟨css,g1,g2,g3⟩:=Zfu h2
   refine⟨y.cs::css,by simp[g1],?_,g3⟩
   intro i z hi
   cases i with
   | zero=>
    simp at hi;subst hi
    refine⟨y.cs,by simp,?_⟩
    rw[Nat.add_zero,hL,<-h1]
   | succ i=>
    obtain⟨cs,h3,h4⟩:=g2 i z (by simpa using hi)
    exact⟨cs,by simpa using h3,by rw[<-h4];congr 2;omega⟩
theorem ZdF(S:St)(m:Mem):∀{l:List Nat} {b:Nat},(∀id∈l,∀x,S.L id=some x->x.b≠b)->∀o,Zqa S l m b o=m b o
 | [],b,_,o=>rfl
 | id::l,b,h,o=>by
  have ih:=ZdF S m (l:=l) (b:=b) (λi hi=>h i (by simp[hi])) o
  simp only[Zqa]
  cases hL:S.L id with
  | none=>exact ih
  | some x=>
   simp only
   cases hz:x.fz with
   | true=>exact ih
   | false=>
    simp only[cond_false]
    rw[Mem.add_other _ (Ne.symm (h id (by simp) x hL))];exact ih
theorem ZnR(hr:Rel C S m a w):∀{l:List Nat},l.Nodup->m.le (Zqa S l m)/\Sub (Zqa S l m) w/\(∀b o v,Zqa S l m b o=some v->m b o=some v\/∃id∈l,∃x,S.L id=some x/\x.b=b)
 | [],_=>⟨Mem.le_refl m,hr.sub,λb o v h=>.inl h⟩
 | id::l,hn=>by
  obtain⟨h1,h2⟩:=List.nodup_cons.1 hn
  obtain⟨i1,i2,i3⟩:=ZnR hr h2
  simp only[Zqa]
  cases hL:S.L id with
  | none=>exact⟨i1,i2,λb o v h=>(i3 b o v h).imp_right λ⟨id',h,x⟩=>⟨id',by simp[h],x⟩⟩
  | some x=>
   simp only
   cases hz:x.fz with
   | true=>exact⟨i1,i2,λb o v h=>(i3 b o v h).imp_right λ⟨id',h,x⟩=>⟨id',by simp[h],x⟩⟩
   | false=>
    simp only[cond_false]
    have eS:=(hr.own id x hL)
    have bO:(Zqa S l m).free x.b:=λo=>by
     rw[ZdF S m (λi hi y hy e=>h1 (hr.apart _ _ _ _ hy hL e ▸ hi))]
     exact eS.free hz o
    refine⟨mLt i1 (Mem.le_add bO x.cs),?_,?_⟩
    ·intro b o v hv
     by_cases hb:b=x.b
     ·subst hb;rw[Mem.add_same]at hv;exact eS.cell hv
     ·rw[Mem.add_other _ hb]at hv;exact i2 b o v hv
    ·intro b o v hv
     by_cases hb:b=x.b
     ·exact .inr ⟨id,by simp,x,hL,hb.symm⟩
     ·rw[Mem.add_other _ hb]at hv
      exact(i3 b o v hv).imp_right λ⟨id',h,x⟩=>⟨id',by simp[h],x⟩
end
theorem ZgT{xs:List Box}:∀{l:List SV},Zji xs l=true->∀(i:Nat) s,l[i]?=some s->Ztu xs s=true
 | [],_,i,s,h=>by simp at h
 | x::l,h,i,s,hs=>by
  simp only[Zji,zA7]at h
  cases i with
  | zero=>simp at hs;subst hs;exact h.1
  | succ i=>exact ZgT h.2 i s (by simpa using hs)
def Zud(n:Nat)(m:Mem)(w:World)(bs:List Nat):Ctx where
 n:=n
 m0:=m
 p:=λ_ M w'=>Keep w.heap.size bs w w'/\∀k,M k->(w.heap.size<=k/\k < w'.heap.size/\Wr w' k)\/k∈bs
 st:=by
  rintro g M M' w1 w2 ⟨h1,h2⟩ hu hg
  refine⟨h1.trans ⟨hu.os,hu.tape,hu.output,hu.size,λk hk hn=>hu.block k (Nat.lt_of_lt_of_le hk h1.size) λhm=>?_,hu.wr⟩,λk hk=>?_⟩
  ·rcases h2 k hm with h|h
   ·omega
   ·exact hn h
  ·rcases hg k hk with h|h
   ·exact(h2 k h).imp_left λh=>⟨h.1,Nat.lt_of_lt_of_le h.2.1 hu.size,hu.wr k h.2.1 h.2.2⟩
   ·have:=h1.size;exact .inl ⟨by omega,h.2⟩
theorem Zqg{n:Nat}{m:Mem}{w:World}{bs:List Nat}(hb:∀k∈bs,k < w.heap.size/\Wr w k){g:Int}{M:Nat->Prop}{w':World}(h:(Zud n m w bs).p g M w')(k:Nat)(hk:M k):Wr w' k:=by
 rcases h.2 k hk with h1|h1
 ·exact h1.2.2
 ·exact h.1.wr k (hb k h1).1 (hb k h1).2
theorem Zjj{C:Ctx}{w:World}{xs:List Box}{svs:List SV}(hs:Sub C.m0 w)(hx:∀x∈xs,Own C.m0 w x/\x.fz=false)(dQ:(xs.map (·.b)).Nodup)(bX:Zji xs svs=true)(hn:svs.length<=C.n)(hp:C.p 0 (λk=>k∈xs.map (·.b)) w):
  Rel C (S0 svs xs) C.m0 { tmps:=(svs.map (ZmT xs)).toArray++Array.replicate (C.n - (svs.map (ZmT xs)).toArray.size) undef,defers:=[] } w:=by
 have hL:∀id x,(S0 svs xs).L id=some x->100000<=id/\xs[id - 100000]?=some x:=λid x h=>by
  simp only[S0]at h
  cases hb:Nat.ble 100000 id with
  | false=>simp[hb]at h
  | true=>simp only[hb,cond_true]at h;exact⟨Nat.le_of_ble_eq_true hb,h⟩
 refine⟨⟨[],rfl,List.nodup_nil,by simp⟩,by simp;omega,?_,?_,?_,?_,by simp[S0],by simp[S0],by simp[S0],hs,Mem.le_refl _,⟨_,hp,λk hk=>?_,λid x hx=>?_,λk t b ht=>by simp[S0]at ht,by simp,λ_ _ _ h=>.inl h⟩⟩
 ·intro i sv he
  simp only[S0]at he
  have aH:=(zA0 he).1
  have h1:=ZgT bX i sv he
  refine⟨ZmT xs sv,?_,?_⟩
  ·cases sv with
   | v x=>rfl
   | loc id off=>
    simp only[Ztu,zA7]at h1
    have h2:id - 100000 < xs.length:=Zj3 h1.2
    simp[St.den,S0,ZmT,h1.1,zA3 h2]
   | sl id n c=>
    simp only[Ztu,zA7]at h1
    have h2:id - 100000 < xs.length:=Zj3 h1.2
    simp[St.den,S0,ZmT,h1.1,zA3 h2]
  ·rw[Array.getElem?_append_left (by simpa using aH)]
   simp[he]
 ·intro id x hx'
  have:=zA2 (hL id x hx').2
  exact(hx x this).1
 ·intro id id' x x' h1 h2 hb
  obtain⟨g1,g2⟩:=hL _ _ h1
  obtain⟨g3,g4⟩:=hL _ _ h2
  have hi:=(zA0 g2).1
  have hi':=(zA0 g4).1
  have:=(List.getElem?_inj (l:=xs.map (·.b)) (i:=id - 100000) (j:=id' - 100000) (by simpa using hi) dQ).1 (by simp[g2,g4,hb])
  omega
 ·intro id x h1
  obtain⟨g1,g2⟩:=hL _ _ h1
  have hi:=(zA0 g2).1
  simp only[S0,List.mem_map,List.mem_range,bid]
  exact⟨id - 100000,hi,by omega⟩
 ·obtain⟨x,h1,h2⟩:=List.mem_map.1 hk
  exact h2 ▸ (hx x h1).1.lt
 ·exact List.mem_map.2 ⟨x,zA2 (hL id x hx).2,rfl⟩
theorem Zlf{n:Nat}{w:World}{m:Mem}{xs:List Box}{svs:List SV}(hs:Sub m w)(hx:∀x∈xs,Own m w x/\x.fz=false)(dQ:(xs.map (·.b)).Nodup)(bX:Zji xs svs=true)(hn:svs.length<=n):
  Rel (Zud n m w (xs.map (·.b))) (S0 svs xs) m { tmps:=(svs.map (ZmT xs)).toArray++Array.replicate (n - (svs.map (ZmT xs)).toArray.size) undef,defers:=[] } w:=
 Zjj (C:=Zud n m w (xs.map (·.b))) hs hx dQ bX hn ⟨Keep.refl _ _ _,λk hk=>.inr hk⟩
theorem Rel.leave{P:Program}{C:Ctx}{S:St}{m:Mem}{fn:Func}{tmps:Array Value}{R:Ending->World->Prop}(h:∀a' w',a'.tmps=tmps->Rel C S m a' w'->∃v,(results fn tmps).run P w'=.ok v w'/\R (.returned v) w'):
  ∀(ms:List Nat)(a:Act)(w:World),a.tmps=tmps->a.defers=ms.map Zhz->Rel C S m a w->LeavesInM Fence.wide 0 P fn tmps R a.defers .returning w
 | [],a,w,ht,hm,hr=>by
  rw[hm]
  simp only[List.map_nil,LeavesInM,LeavesIn]
  exact h a w ht hr
 | D::ms,a,w,ht,hm,hr=>by
  obtain⟨ms',q1,q2,q3⟩:=hr.defers
  have eR:ms'=D::ms:=by
   rw[hm]at q1
   have inj:∀(l l':List Nat),l.map Zhz=l'.map Zhz->l=l':=by
    intro l
    induction l with
    | nil=>intro l' h;cases l' <;> simp_all
    | cons x l ih=>
     intro l' h
     cases l' with
     | nil=>simp at h
     | cons y l'=>simp only[List.map_cons,List.cons.injEq]at h;rw[ih l' h.2];simpa[Zhz]using h.1
   exact(inj _ _ q1).symm
  subst eR
  have hD:=q3 D (by simp)
  rw[hm]
  simp only[List.map_cons,LeavesInM]
  refine⟨by simp,.inl ⟨D,_,rfl,run_takeDeferred hD,?_⟩⟩
  have hr':Rel C S m { a with defers:=ms.map Zhz } (w.putObj D (.deferred none)):=by
   obtain⟨M,hd⟩:=hr.dom
   have vg:M D:=hd.mks D (by rw[hm];simp)
   have cE:∀k,k≠D->(w.putObj D (.deferred none)).heap[k]?=w.heap[k]?:=λk hk=>World.putObj_heap_other hk
   refine hr.swap rfl hr.le rfl rfl rfl rfl hr.env hr.size ⟨ms,rfl,(List.nodup_cons.1 q2).2,λD' hD'=>?_⟩ (λk c T fr hk=>cE k (λe=>by rw[e,hD]at hk;cases hk)) (λk t b ht hb=>((hr.toks k t ht).2 b hb).2) ?_
   ·rw[cE D' (λe=>(List.nodup_cons.1 q2).1 (e ▸ hD'))];exact q3 D' (by simp[hD'])
   ·have h1:=hd.step (m':=m) (ZeU (o:=.deferred none) rfl vg) (λb o v hv=>.inl hv)
    exact⟨_,h1.p,h1.lt,h1.own,h1.tok,λD' hD'=>h1.mks D' (by rw[hm];exact List.mem_cons_of_mem _ hD'),h1.new⟩
  exact Rel.leave h ms { a with defers:=ms.map Zhz } _ ht rfl hr'
theorem Zr7{E:Env}(hE:E.ok){ZaP:Nat->Array Oper->(St->Mem->Prop)->St->Mem->Prop}(hD:Zdt E ZaP)(gl:Zc5 E ZaP){g:FuncId}{fn:Func}{c:Code}
  (hf:E.P.funcs[g]?=some fn) (hn:(fn.name == "runtime.NumGoroutine")=false) (hb:fn.body=some c) (hc:Zaq E c=true) (hl:Zbf fn.ntmps c=true) (hz:ZrO E.frz=true) (dL:E.yl=none)
  {m:Mem} (eH:∀mm,E.m0=some mm->m=mm) {R:Value->Mem->List (List Value)->Prop} (svs:List SV) (xs:List Box) (bG:Nat.ble svs.length fn.ntmps=true) (bX:Zji xs svs=true)
  (h:W E ZaP c (ZuK E fn.results.toList m xs R) (S0 svs xs) m):CX E.P g (svs.map (ZmT xs)).toArray m xs R:=by
 refine⟨ZfV hf hn (by simp[hb]),λw hs hx dQ=>?_⟩
 have aG:=Zlf (n:=fn.ntmps) hs hx dQ bX (Nat.le_of_ble_eq_true bG)
 refine callsIn_wide.1 (callsIn_of_wp_marks (F:=Fence.wide) (n:=0) hf hb trivial ?_)
 refine Zb0 hE hD gl c hc (.inl rfl) (YOk.none dL (λmm eR=>⟨eH mm eR,λg M w' hp k hk=>Zqg (λk hk=>by
  obtain⟨x,h1,rfl⟩:=List.mem_map.1 hk
  exact⟨(hx x h1).1.lt,(hx x h1).1.wr⟩) hp k hk⟩)) (λl hl=>by cases hl) 0 hl aG h ?_
 have key:∀S' m' a' w',Zuz E fn.results.toList m xs R S' m'->Rel (Zud fn.ntmps m w (xs.map (·.b))) S' m' a' w'->LeavesInM Fence.wide 0 E.P fn a'.tmps (λe w'=>
   ∃v_1 m'_1 css,e=Ending.returned v_1/\m.le m'_1/\Sub m'_1 w'/\Zfd m m'_1 w w'/\Keep w.heap.size (xs.map (·.b)) w w'/\css.length=xs.length/\(∀(i:Nat)(x:Box)(cs:List Value),xs[i]?=some x->css[i]?=some cs->Own m'_1 w' { x with cs:=cs })/\R v_1 m'_1 css) a'.defers .returning w':=by
  intro S' m' a' w' hk hr
  obtain⟨ms,q1,_,_⟩:=hr.defers
  refine Rel.leave ?_ ms a' w' rfl q1 hr
  clear hr q1
  intro a2 w2 ht hr
  rw[<-ht]
  obtain⟨vs,hk,bH⟩:=ZdE hE hr hk
  obtain⟨css,h1,h2,m'',h3,h4,h5⟩:=Zfu hk
  obtain⟨M,hd⟩:=hr.dom
  refine⟨Zp5 vs,ZcP bH,Zp5 vs,m'',css,rfl,h3,?_,?_,hd.p.1,h1,?_,h5⟩
  all_goals simp only[ZrO,zA7]at hz
  all_goals have rH:=ZaC hz.1
  all_goals obtain⟨f1,f2,f3⟩:=ZnR hr rH
  ·exact λb o v hv=>f2 b o v (h4 b o v hv)
  ·intro b o v hv
   rcases f3 b o v (h4 b o v hv)with hv|⟨id,cI,x,iv,kf⟩
   ·rcases hd.new b o v hv with h6|h6
    ·exact .inl h6
    ·rcases hd.p.2 b h6 with h6|h6
     ·exact .inr ⟨h6.1,h6.2.2⟩
     ·exfalso
      obtain⟨y,hy,gd⟩:=List.mem_map.1 h6
      obtain⟨i,hi⟩:=List.getElem?_of_mem hy
      obtain⟨cs,_,iA⟩:=h2 i y hi
      have:=(hr.own _ _ iA).free (hx y hy).2 o
      simp only[gd]at this
      rw[this]at hv;cases hv
   ·right
    have h6:=hd.p.2 _ (hd.own id x iv)
    subst kf
    rcases h6 with h6|h6
    ·exact⟨h6.1,h6.2.2⟩
    ·exfalso
     obtain⟨y,hy,gd⟩:=List.mem_map.1 h6
     obtain⟨i,hi⟩:=List.getElem?_of_mem hy
     obtain⟨cs,_,iA⟩:=h2 i y hi
     have:=hr.apart _ _ _ _ iv iA gd.symm
     have aH:id < 100000:=by
      have:=List.all_eq_true.1 hz.2 id cI
      exact Zj3 this
     simp only[bid]at this
     omega
  ·intro i x cs hi bZ
   obtain⟨cs',h6,h7⟩:=h2 i x hi
   rw[bZ]at h6;cases h6
   have ho:=hr.own _ _ h7
   have nV:=(hx x (zA2 hi)).2
   refine⟨ho.cells,λ_ o=>?_,λhz'=>by simp[nV]at hz',ho.whole⟩
   cases hv:m'' x.b o with
   | none=>rfl
   | some v=>
    have h8:=h4 _ _ _ hv
    rw[ZdF S' m' (λid cI y hy e=>?_)]at h8
    ·have:=ho.free nV o
     simp only at this
     rw[this]at h8;cases h8
    ·have:=hr.apart _ _ _ _ hy h7 e
     have aH:id < 100000:=by
      have:=List.all_eq_true.1 hz.2 id cI
      exact Zj3 this
     simp only[bid]at this
     omega
 intro e S' m' a' w' hk hr
 cases e with
 | normal=>exact key S' m' a' w' hk hr
 | ret=>exact key S' m' a' w' hk hr
 | exit _=>exact hk.elim
 | goto _=>exact hk.elim
 | panic _=>exact hk.elim
 | outgrown=>exact hk.elim
def ZtP(E:Env)(rs:List ResultVar)(n:Nat):KT:=λe S m=>match e with
 | .normal=>Zte E S m rs λ_=>S.gh=n\/S.gh=-1
 | .ret=>Zte E S m rs λ_=>S.gh=n\/S.gh=-1
 | _=>False
def Env.yields(E:Env)(l:Nat)(xs:List (List Value)):Env:={ E with yl:=some λl' g v=>l'=l/\0<=g/\xs[g.toNat]?=some v,m0:=none }
theorem Zr8{E:Env}(hE:E.ok){ZaP:(E:Env)->Nat->Array Oper->(St->Mem->Prop)->St->Mem->Prop}{g:FuncId}{fn:Func}{c:Code}
  (hf:E.P.funcs[g]?=some fn) (hn:(fn.name == "runtime.NumGoroutine")=false) (hb:fn.body=some c) (hl:Zbf fn.ntmps c=true)
  {m:Mem} (first captured:List Value) (xs:List (List Value)) (bG:Nat.ble (first.length+captured.length+1) fn.ntmps=true)
  (h:∀l,Zdt (E.yields l xs) (ZaP (E.yields l xs))/\Zc5 (E.yields l xs) (ZaP (E.yields l xs))/\Zaq (E.yields l xs) c=true/\W (E.yields l xs) (ZaP (E.yields l xs)) c (ZtP E fn.results.toList xs.length) (S0 ((first++.func (.yield l) #[] #[]::captured).map .v) []) m):
  IX E.P g first captured m xs:=by
 refine⟨ZfV hf hn (by simp[hb]),λp hp l w hs rd hy=>?_⟩
 obtain⟨hD,gl,hc,h⟩:=h l
 have hE':(E.yields l xs).ok:=hE
 let C:Ctx:=⟨fn.ntmps,m,p,hp⟩
 have bX:∀vs:List Value,Zji [] (vs.map .v)=true:=λvs=>by
  induction vs with
  | nil=>rfl
  | cons v vs ih=>simp[Zji,Ztu,ih]
 have jx:∀vs:List Value,(vs.map SV.v).map (ZmT [])=vs:=λvs=>by
  induction vs with
  | nil=>rfl
  | cons v vs ih=>simp only[List.map_cons,ih];rfl
 have aG:=Zjj (C:=C) (xs:=[]) (svs:=(first++.func (.yield l) #[] #[]::captured).map .v) hs (by simp) (by simp) (bX _) (by have:=Nat.le_of_ble_eq_true bG;simp;omega) (by
  have e:(λk=>k∈([]:List Box).map (·.b))=(λ_:Nat=>False):=by funext k;simp
  rw[e];exact rd)
 rw[jx]at aG
 refine callsIn_wide.1 (callsIn_of_wp_marks (F:=Fence.wide) (n:=0) hf hb trivial ?_)
 refine Zb0 hE' hD gl c hc (.inl rfl) (C:=C) ⟨λY hY=>by
  simp only[Env.yields,Option.some.injEq]at hY
  subst hY;exact hy,λmm eR=>by cases eR⟩ (λl hl=>by cases hl) 0 hl aG h ?_
 have key:∀S' m' a' w',Zte E S' m' fn.results.toList (λ_=>S'.gh=xs.length\/S'.gh=-1)->Rel C S' m' a' w'->LeavesInM Fence.wide 0 E.P fn a'.tmps (λe w'=>∃v M,e=.returned v/\(∀k,M k->k < w'.heap.size)/\(p xs.length M w'\/p (-1) M w')) a'.defers .returning w':=by
  intro S' m' a' w' hk hr
  obtain⟨ms,q1,_,_⟩:=hr.defers
  refine Rel.leave ?_ ms a' w' rfl q1 hr
  clear hr q1
  intro a2 w2 ht hr
  rw[<-ht]
  obtain⟨vs,hk,bH⟩:=ZdE hE hr hk
  obtain⟨M,hd⟩:=hr.dom
  refine⟨Zp5 vs,ZcP bH,_,M,rfl,hd.lt,?_⟩
  have:=hd.p
  rcases hk with hk|hk
  ·rw[hk]at this;exact .inl this
  ·rw[hk]at this;exact .inr this
 intro e S' m' a' w' hk hr
 cases e with
 | normal=>exact key S' m' a' w' hk hr
 | ret=>exact key S' m' a' w' hk hr
 | exit _=>exact hk.elim
 | goto _=>exact hk.elim
 | panic _=>exact hk.elim
 | outgrown=>exact hk.elim
def LC{α β:Type}(T1:(α->Prop)->Prop)(T2:(β->Prop)->Prop)(ρ:α->β->Prop):Prop:=
 T1 (λ_=>True)->T2 (λy2=>∃y1,(∀K,T1 K->K y1)/\ρ y1 y2)
section comb
variable {α β:Type} {ρ:α->β->Prop}
theorem LC.false{T2:(β->Prop)->Prop}:LC (λ_:α->Prop=>False) T2 ρ:=λh=>h.elim
theorem LC.ret{a:α}{b:β}(h:ρ a b):LC (λK=>K a) (λK=>K b) ρ:=λ_=>⟨a,λ_ hK=>hK,h⟩
theorem LC.chk{c:Bool}{T1:(α->Prop)->Prop}{T2:(β->Prop)->Prop}(h:c=true->LC T1 T2 ρ):LC (λK=>chk c (T1 K)) (λK=>chk c (T2 K)) ρ:=by
 cases c
 ·exact λh=>h.elim
 ·exact h rfl
theorem LC.br{c:Bool}{T1 U1:(α->Prop)->Prop}{T2 U2:(β->Prop)->Prop}(h:LC T1 T2 ρ)(k:LC U1 U2 ρ):LC (λK=>br c (T1 K) (U1 K)) (λK=>br c (T2 K) (U2 K)) ρ:=by
 cases c
 ·exact k
 ·exact h
theorem LC.and{p q:Prop}{T1:(α->Prop)->Prop}{T2:(β->Prop)->Prop}(nC:p->q)(h:p->LC T1 T2 ρ)(mono:∀{K K':β->Prop},(∀y,K y->K' y)->T2 K->T2 K'):LC (λK=>p/\T1 K) (λK=>q/\T2 K) ρ:=λ⟨h1,h2⟩=>
 ⟨nC h1,mono (λy ⟨y1,g1,g2⟩=>⟨y1,λK hK=>g1 K hK.2,g2⟩) (h h1 h2)⟩
theorem LC.map{γ δ:Type}{σ:γ->δ->Prop}{T1:(α->Prop)->Prop}{T2:(β->Prop)->Prop}(h:LC T1 T2 ρ)(f:α->γ)(g:β->δ)(vh:∀a b,ρ a b->σ (f a) (g b))(mono:∀{K K':β->Prop},(∀y,K y->K' y)->T2 K->T2 K'):
  LC (λK=>T1 λa=>K (f a)) (λK=>T2 λb=>K (g b)) σ:=λh1=>
 mono (λb ⟨a,g1,g2⟩=>⟨f a,λK hK=>g1 _ hK,vh _ _ g2⟩) (h h1)
end comb
abbrev LE{α:Type}(T1 T2:(α->Prop)->Prop):Prop:=LC T1 T2 Eq
theorem ZnS{l:List Value}{n:Nat}{α β:Type}{ρ:α->β->Prop}{f:Value->α}{g:Value->β}(h:∀v,ρ (f v) (g v)):LC (λK=>Zp3 l n λv=>K (f v)) (λK=>Zp3 l n λv=>K (g v)) ρ:=by
 unfold Zp3
 cases hl:l[n]? with
 | none=>exact LC.false
 | some v=>simp only;exact LC.ret (h v)
theorem Zqh{op:BinOp}{b:Bool}:LE (Zp4 op b) (Zp4 op b):=by
 cases op <;> first
  | exact LC.false
  | exact LC.ret rfl
theorem Zr9{op:BinOp}{k:IntKind}{a b:Int}:LE (Zs6 op k a b) (Zs6 op k a b):=by
 cases op <;> first
  | exact LC.false
  | exact LC.ret rfl
  | exact LC.and id (λ_=>LC.ret rfl) (λh=>h _)
theorem Zo3{op:BinOp}{k:IntKind}{a b:Int}:LE (Zh9 op k a b) (Zh9 op k a b):=by
 cases op <;> first
  | exact LC.false
  | exact LC.and id (λ_=>LC.ret rfl) (λh=>h _)
theorem Zsa{op:BinOp}{a b:ByteArray}:LE (Zs7 op a b) (Zs7 op a b):=by
 cases op <;> first
  | exact LC.false
  | exact LC.ret rfl
  | exact LC.and id (λ_=>LC.ret rfl) (λh=>h _)
theorem EqIs.unique{P:Program}{T:TypeId}{x y:Value}{a b:Bool}(w:World)(h:EqIs P T x y a)(k:EqIs P T x y b):a=b:=by
 have h1:=h.1 w
 rw[k.1 w]at h1
 cases h1;rfl
theorem Zsb{E:Env}(w:World){op:BinOp}{T:TypeId}{x y:Value}:LE (Zs3 E op T x y) (Zs3 E op T x y):=by
 unfold Zs3
 cases ht:E.tt T with
 | none=>exact LC.false
 | some i=>
  simp only
  cases hd:i.d <;> simp only <;> first
   | exact LC.false
   | exact LC.chk λ_=>Zsa
   | exact LC.chk λ_=>Zqh
   | (refine LC.chk λ_=>?_
      rintro⟨b,hb,h⟩
      exact⟨b,hb,Zii (λv ⟨v1,g1,g2⟩=>⟨v1,λK ⟨b',hb',hK⟩=>g1 K (by rw[EqIs.unique w hb hb'];exact hK),g2⟩) (Zqh h)⟩)
   | (cases hs:ZhA op
      ·exact LC.chk λ_=>Zr9
      ·exact LC.chk λ_=>Zo3)
theorem Zq1{E:Env}{s d:TypeId}{v:Value}:LE (ZoK E s d v) (ZoK E s d v):=by
 unfold ZoK
 cases E.tt s with
 | none=>exact LC.false
 | some i=>
  cases E.tt d with
  | none=>exact LC.false
  | some j=>
   simp only
   cases i.d <;> cases j.d <;> simp only <;> first
    | exact LC.false
    | exact LC.chk λ_=>LC.ret rfl
theorem Zsc{E:Env}{T:TypeId}{v:Value}:LE (Ztq E T v) (Ztq E T v):=by
 unfold Ztq
 cases E.tt T with
 | none=>exact LC.false
 | some i=>
  simp only
  cases i.d <;> simp only <;> first
   | exact LC.false
   | exact LC.ret rfl
   | exact LC.chk λ_=>LC.ret rfl
theorem ZeW{α β:Type}{ρ:α->β->Prop}{x:Option Value}{d y:Nat}{U1:Nat->(α->Prop)->Prop}{U2:Nat->(β->Prop)->Prop}(h:∀n,LC (U1 n) (U2 n) ρ)(mono:∀n {K K':β->Prop},(∀y,K y->K' y)->U2 n K->U2 n K'):
  LC (λK=>ZfU x d y λn=>U1 n K) (λK=>ZfU x d y λn=>U2 n K) ρ:=by
 cases x with
 | none=>exact h d
 | some v=>exact LC.chk λ_=>LC.and id (λ_=>h _) (mono _)
theorem ZnT{α β:Type}{ρ:α->β->Prop}{place:Nat->Option (Nat×Nat)}{f:List Value->α}{g:List Value->β}(h:∀v,ρ (f v) (g v)):∀{parts:List (Nat×Value)} {cs:List Value},LC (λK=>Zku place cs parts λr=>K (f r)) (λK=>Zku place cs parts λr=>K (g r)) ρ
 | [],cs=>LC.ret (h cs)
 | (i,v)::rest,cs=>by
  simp only[Zku]
  cases place i with
  | none=>exact LC.false
  | some os=>exact LC.chk λ_=>ZnT h
theorem Zo4{E:Env}{T:TypeId}{v:Value}{lo hi mx:Option Value}:LE (Zhd E T v lo hi mx) (Zhd E T v lo hi mx):=by
 unfold Zhd
 cases ZgL E T with
 | some sz=>
  simp only
  exact LC.chk λ_=>ZeW (λm=>ZeW (λh=>ZeW (λl=>LC.chk λ_=>LC.ret rfl) (λl K K' hh=>Zae (hh _))) (λh K K' hh=>Zbi (λl=>Zae (hh _)))) (λm K K' hh=>Zbi (λh=>Zbi (λl=>Zae (hh _))))
 | none=>
  simp only
  cases Zef E T with
  | false=>exact LC.false
  | true=>exact LC.chk λ_=>ZeW (λh=>ZeW (λl=>LC.ret rfl) (λl K K' hh=>hh _)) (λh K K' hh=>Zbi (λl=>hh _))
structure Less (S1 S2:St):Prop where
 env:∀t sv,S1.env t=some sv->S2.env t=some sv
 L:∀id x,S1.L id=some x->S2.L id=some x
theorem Less.ev{S1 S2:St}(h:Less S1 S2){x:Operand}{sv:SV}(hx:S1.ev x=some sv):S2.ev x=some sv:=by
 cases x with
 | tmp t=>exact h.env t sv hx
 | _=>exact hx
theorem Less.den{S1 S2:St}(h:Less S1 S2){sv:SV}{v:Value}(hx:S1.den sv=some v):S2.den sv=some v:=by
 cases sv with
 | v u=>exact hx
 | loc id off=>
  simp only[St.den]at *
  cases hb:S1.L id with
  | none=>simp[hb]at hx
  | some b=>simp only[hb]at hx;simp only[h.L id b hb];exact hx
 | sl id n c=>
  simp only[St.den]at *
  cases hb:S1.L id with
  | none=>simp[hb]at hx
  | some b=>simp only[hb]at hx;simp only[h.L id b hb];exact hx
theorem Less.val{S1 S2:St}(h:Less S1 S2){x:Operand}{v:Value}(hx:S1.val x=some v):S2.val x=some v:=by
 unfold St.val at *
 cases he:S1.ev x with
 | none=>simp[he]at hx
 | some sv=>simp only[he]at hx;rw[h.ev he];exact h.den hx
section ops
variable {α β:Type} {ρ:α->β->Prop} {S1 S2:St}
theorem Zcq(hs:Less S1 S2){x:Operand}{U1:Value->(α->Prop)->Prop}{U2:Value->(β->Prop)->Prop}(h:∀v,LC (U1 v) (U2 v) ρ):
  LC (λK=>wv S1 x λv=>U1 v K) (λK=>wv S2 x λv=>U2 v K) ρ:=by
 unfold wv
 cases hv:S1.val x with
 | none=>exact LC.false
 | some v=>simp only[hs.val hv];exact h v
theorem Zlg(hs:Less S1 S2):∀{l:List Operand} {U1:List Value->(α->Prop)->Prop} {U2:List Value->(β->Prop)->Prop} (h:∀v,LC (U1 v) (U2 v) ρ),LC (λK=>wvs S1 l λv=>U1 v K) (λK=>wvs S2 l λv=>U2 v K) ρ
 | [],U1,U2,h=>h []
 | x::l,U1,U2,h=>Zcq hs (U1:=λv K=>wvs S1 l λvs=>U1 (v::vs) K) (U2:=λv K=>wvs S2 l λvs=>U2 (v::vs) K) λv=>Zlg hs (λvs=>h (v::vs))
theorem ZnU(hs:Less S1 S2){x:Option Operand}{U1:Option Value->(α->Prop)->Prop}{U2:Option Value->(β->Prop)->Prop}(h:∀v,LC (U1 v) (U2 v) ρ):
  LC (λK=>Zs9 S1 x λv=>U1 v K) (λK=>Zs9 S2 x λv=>U2 v K) ρ:=by
 cases x with
 | none=>exact h none
 | some x=>exact Zcq hs (U1:=λv K=>U1 (some v) K) (U2:=λv K=>U2 (some v) K) λv=>h (some v)
end ops
theorem Zq2{E:Env}{S1 S2:St}(w:World)(hs:Less S1 S2){o:Oper}:LE (Zco E S1 o) (Zco E S2 o):=by
 have hr:∀{a:SV},LE (λK:SV->Prop=>K a) (λK=>K a):=LC.ret rfl
 have gF:∀{c:Bool} {a:SV},LE (λK:SV->Prop=>Eng.chk c (K a)) (λK=>Eng.chk c (K a)):=LC.chk λ_=>LC.ret rfl
 obtain⟨dst,op,type,pos,after,guard⟩:=o
 cases op <;> unfold Zco <;> simp only <;> try exact LC.false
 case unOp op T x=>
  refine Zcq hs λv=>?_
  cases op <;> simp only <;> first
   | exact LC.false
   | exact gF
   | (cases ZbE E T <;> simp only <;> first
     | exact LC.false
     | exact gF)
 case binOp op T x y yT=>
  exact Zcq hs λv=>Zcq hs λv'=>(Zsb w).map _ _ (λa b e=>by rw[e]) (λh=>Zk4 h)
 case convert s d x=>exact Zcq hs λv=>Zq1.map _ _ (λa b e=>by rw[e]) (λh hx=>by
  unfold ZoK at *
  (repeat' split at hx) <;> first|exact hx.elim|exact Zae (h _) hx)
 case makeFunc=>exact Zlg hs λv=>Zlg hs λv'=>hr
 case fieldAddr T x f=>
  cases ZgJ E T f with
  | none=>exact LC.false
  | some fo=>
   simp only
   cases he:S1.ev x with
   | none=>exact LC.false
   | some sv=>
    simp only[hs.ev he]
    cases sv <;> first
     | exact LC.false
     | exact hr
     | exact gF
 case indexAddr T x i=>
  refine Zcq hs λvi=>LC.chk λ_=>?_
  cases Ztp E T with
  | none=>exact LC.false
  | some ix=>
   cases he:S1.ev x with
   | none=>
    cases ix <;> simp only
    ·exact λh=>h.2.elim
    ·exact LC.false
   | some sv=>
    simp only[hs.ev he]
    cases ix <;> simp only
    ·cases sv <;> simp only
     ·exact LC.and id (λ_=>gF) (λh=>Zae (h _))
     ·exact LC.and id (λ_=>hr) (λh=>h _)
     ·exact λh=>h.2.elim
    ·cases sv <;> simp only
     ·refine LC.chk λ_=>?_
      rintro⟨b,o,h1,h2,h3⟩
      refine⟨b,o,h1,h2,_,λK ⟨b',o',g1,g2,g3⟩=>?_,rfl⟩
      rw[h1]at g1
      cases g1
      exact g3
     ·exact LC.false
     ·exact LC.and id (λ_=>hr) (λh=>h _)
 case index T x i=>
  refine Zcq hs λv=>Zcq hs λvi=>LC.chk λ_=>?_
  cases Zef E T <;> simp only[cond_true,cond_false]
  ·cases ZmK E T with
   | none=>exact LC.false
   | some len=>exact LC.chk λ_=>LC.and id (λ_=>ZnS (λ_=>rfl)) (λh=>Zf7 (λu=>h _))
  ·exact LC.chk λ_=>LC.and id (λ_=>hr) (λh=>h _)
 case build T parts=>
  cases ZgK E T with
  | none=>exact LC.false
  | some place=>exact Zlg hs λvs=>ZnT (λ_=>rfl)
 case extract x n=>exact Zcq hs λv=>LC.chk λ_=>ZnS (λ_=>rfl)
 case makeInterface T x=>exact Zcq hs λv=>gF
 case nilCheck x=>
  cases he:S1.ev x with
  | none=>exact LC.false
  | some sv=>
   simp only[hs.ev he]
   cases sv <;> first
    | exact LC.false
    | exact hr
    | exact gF
 case slice T x lo hi mx=>exact Zcq hs λv=>ZnU hs λl=>ZnU hs λh=>ZnU hs λm=>Zo4.map _ _ (λa b e=>by rw[e]) (λh=>ZhE h)
 case call c=>
  split
  ·split
   ·exact Zcq hs λv=>Zsc.map _ _ (λa b e=>by rw[e]) (λh y=>by
     unfold Ztq at *
     (repeat' split at y) <;> first|exact y.elim|exact Zae (h _) y|exact h _ y)
   ·exact LC.false
  ·split
   ·rename_i T _ _ _
    refine Zcq hs λv=>Zcq hs λv'=>?_
    split
    ·exact gF
    ·exact LC.false
   ·exact LC.false
  ·split
   ·refine Zcq hs λv=>Zcq hs λv'=>?_
    split
    ·exact gF
    ·exact LC.false
   ·refine Zcq hs λv=>Zcq hs λv'=>Zcq hs λv''=>?_
    split
    ·exact gF
    ·exact LC.false
   ·exact LC.false
  ·exact LC.false
def Mem.or(a b:Mem):Mem:=λi o=>match a i o with
 | some v=>some v
 | none=>b i o
theorem Mem.le_or(a b:Mem):a.le (a.or b):=λi o v h=>by simp[Mem.or,h]
theorem Mem.or_some{a b:Mem}{i o:Nat}{v:Value}(h:a.or b i o=some v):a i o=some v\/(a i o=none/\b i o=some v):=by
 unfold Mem.or at h
 cases ha:a i o with
 | some u=>simp[ha]at h;exact .inl (by rw[h])
 | none=>simp[ha]at h;exact .inr ⟨rfl,h⟩
theorem CX.frame2{P:Program}{g:FuncId}{args:Array Value}{m M:Mem}{X:List Box}{R:Value->Mem->List (List Value)->Prop}(h:CX P g args m X R)(hm:m.le M):
  CX P g args M X (λv M' css=>∃m',m.le m'/\m'.le M'/\(∀b o u,M b o=some u->∀o',m' b o'=m b o')/\R v m' css):=by
 refine⟨h.1,λw hs hX dQ=>?_⟩
 have bO:∀{b o},M b o=none->m b o=none:=λ{b o} hb=>by
  cases he:m b o with
  | none=>rfl
  | some v=>rw[hm _ _ _ he]at hb;cases hb
 have hX':∀x∈X,Own m w x/\x.fz=false:=λx hx=>by
  obtain⟨ho,hz⟩:=hX x hx
  exact⟨⟨ho.cells,λ_ o=>bO (ho.free hz o),λhz'=>by simp[hz]at hz',ho.whole⟩,hz⟩
 refine(h.2 w (λb o v hv=>hs b o v (hm _ _ _ hv)) hX' dQ).mono ?_
 rintro e w' ⟨v,m',css,rfl,a2,a3,a4,a5,a6,a7,a8⟩
 have cA:m'.le (M.or m'):=λb o u hu=>by
  cases hM:M b o with
  | none=>simp[Mem.or,hM,hu]
  | some u'=>
   rcases a4 b o u hu with h1|h1
   ·rw[hm _ _ _ h1]at hM;cases hM;simp[Mem.or,hm _ _ _ h1]
   ·have:=hs.lt hM;omega
 have cF:∀b o u,M b o=some u->∀o',m' b o'=m b o':=λb o u hu o'=>by
  cases hm':m' b o' with
  | none=>
   cases eH:m b o' with
   | none=>rfl
   | some x=>have:=a2 _ _ _ eH;rw[hm']at this;cases this
  | some x=>
   rcases a4 b o' x hm' with h1|h1
   ·exact h1.symm
   ·have:=hs.lt hu;omega
 refine⟨v,M.or m',css,rfl,Mem.le_or _ _,?_,?_,a5,a6,?_,m',a2,cA,cF,a8⟩
 ·intro b o u hu
  rcases Mem.or_some hu with h1|⟨h1,h2⟩
  ·have aH:=hs.lt h1
   rw[ZaY (a5.block b aH ?_)]
   ·exact hs b o u h1
   ·intro cD
    obtain⟨x,hx,rfl⟩:=List.mem_map.1 cD
    obtain⟨ho,hz⟩:=hX x hx
    have:=ho.free hz o
    rw[h1]at this;cases this
  ·exact a3 b o u h2
 ·intro b o u hu
  rcases Mem.or_some hu with h1|⟨h1,h2⟩
  ·exact .inl h1
  ·rcases a4 b o u h2 with h3|h3
   ·rw[hm _ _ _ h3]at h1;cases h1
   ·exact .inr h3
 ·intro i x cs hi bZ
  have ho:=a7 i x cs hi bZ
  obtain⟨lD,hz⟩:=hX x (zA2 hi)
  refine⟨ho.cells,λ_ o=>?_,λhz'=>by simp[hz]at hz',ho.whole⟩
  simp only[Mem.or,lD.free hz o]
  exact ho.free hz o
theorem CX.frame{P:Program}{g:FuncId}{args:Array Value}{m M:Mem}{X:List Box}{R:Value->Mem->List (List Value)->Prop}(h:CX P g args m X R)(hm:m.le M):
  CX P g args M X (λv M' css=>∃m',m.le m'/\m'.le M'/\R v m' css):=(h.frame2 hm).mono λ_ _ _ _ ⟨m',a1,a2,_,a4⟩=>⟨m',a1,a2,a4⟩
theorem Zek{m:Mem}{b o:Nat}{xs ys:List Value}(h:m.reads b o xs)(k:m.reads b o ys)(hl:xs.length=ys.length):xs=ys:=by
 refine List.ext_getElem hl λi h1 h2=>?_
 have a:=h i _ (zA3 h1)
 have b:=k i _ (zA3 h2)
 rw[a]at b;exact Option.some.inj b
theorem Zel{m:Mem}{a:Option Addr}{xs ys:List Value}(h:rowRd m a xs)(k:rowRd m a ys)(hl:xs.length=ys.length):xs=ys:=by
 rcases h with h|⟨b,o,h1,h2⟩
 ·subst h;simp at hl;exact(List.eq_nil_of_length_eq_zero hl.symm).symm
 ·rcases k with k|⟨b',o',k1,k2⟩
  ·subst k;simpa using hl
  ·rw[h1]at k1;cases k1
   exact Zek h2 k2 hl
theorem ZmV{i:TI}{m M:Mem}(hm:m.le M){b o:Nat}:LE (Zct i m b o) (Zct i M b o):=by
 intro h
 unfold Zct at *
 cases ha:i.agg with
 | false=>
  simp only[ha,cond_false]at *
  obtain⟨v,hv,_⟩:=h
  exact⟨v,hm _ _ _ hv,v,λK ⟨v',hv',hK⟩=>by rw[hv]at hv';cases hv';exact hK,rfl⟩
 | true=>
  simp only[ha,cond_true]at *
  cases hb:Nat.ble i.size 16 with
  | true=>
   simp only[hb,cond_true]at *
   obtain⟨vs,hl,hr,_⟩:=ZgN h
   refine Zib vs hl ⟨hr.mono hm,_,λK hK=>?_,rfl⟩
   obtain⟨vs',hl',hr',hK⟩:=ZgN hK
   rw[Zek hr hr' (by omega)];exact hK
  | false=>
   simp only[hb,cond_false]at *
   obtain⟨vs,hl,hr,_⟩:=h
   refine⟨vs,hl,hr.mono hm,_,λK ⟨vs',hl',hr',hK⟩=>?_,rfl⟩
   rw[Zek hr hr' (by omega)];exact hK
theorem Zjk{i:TI}{x:Box}{off:Nat}:LE (Zb6 i x off) (Zb6 i x off):=by
 unfold Zb6
 cases i.agg <;> simp only[cond_true,cond_false]
 ·exact ZnS (λ_=>rfl)
 ·cases(x.full&&(Nat.beq x.cap i.size&&Nat.beq off 0)) <;> simp only[cond_true,cond_false]
  ·exact LC.chk λ_=>LC.ret rfl
  ·exact LC.ret rfl
theorem Zq3{E:Env}{S1 S2:St}(hs:Less S1 S2){m M:Mem}(hm:m.le M){T:TypeId}{x:Operand}:LE (ZeP E S1 m T x) (ZeP E S2 M T x):=by
 unfold ZeP
 cases E.tt T with
 | none=>exact LC.false
 | some i=>
  simp only
  cases he:S1.ev x with
  | none=>exact LC.false
  | some sv=>
   simp only[hs.ev he]
   cases sv with
   | v u=>
    simp only
    cases Zeg E x with
    | none=>exact LC.chk λ_=>ZmV hm
    | some id=>
     simp only
     cases hx:S1.L id with
     | none=>exact LC.false
     | some bx=>
      simp only[hs.L id bx hx]
      exact LC.chk λ_=>LC.and (λh=>h) (λ_=>Zjk) (λh=>Zc2 h)
   | loc id off=>
    simp only
    cases hx:S1.L id with
    | none=>exact LC.false
    | some bx=>simp only[hs.L id bx hx];exact Zjk
   | sl id n c=>exact LC.false
structure OutB (rs:List Nat)(tk:Option Nat)(g:Bool)(m M:Mem)(S1 S2:St)(y1 y2:St×Mem):Prop where
 env1:y1.1.env=S1.env
 env2:y2.1.env=S2.env
 L:∀id,(id∈rs/\y1.1.L id=y2.1.L id)\/(y1.1.L id=S1.L id/\y2.1.L id=S2.L id)
 tok:∀k,(tk=some k/\y1.1.tok k=y2.1.tok k)\/(y1.1.tok k=S1.tok k/\y2.1.tok k=S2.tok k)
 le:y1.2.le y2.2
 same:g=false->y1.2=m/\y2.2=M
 gh2:y2.1.gh=S2.gh
structure Out (rs:List Nat)(tk:Option Nat)(g:Bool)(m M:Mem)(dst:Option Tmp)(S1 S2:St)(y1 y2:St×Mem):Prop where
 env1:∀t sv,dst=some t->y1.1.env t=some sv->y2.1.env t=some sv
 env2:∀t,dst≠some t->y2.1.env t=S2.env t
 L:∀id,(id∈rs/\y1.1.L id=y2.1.L id)\/(y1.1.L id=S1.L id/\y2.1.L id=S2.L id)
 tok:∀k,(tk=some k/\y1.1.tok k=y2.1.tok k)\/(y1.1.tok k=S1.tok k/\y2.1.tok k=S2.tok k)
 le:y1.2.le y2.2
 same:g=false->y1.2=m/\y2.2=M
 gh2:y2.1.gh=S2.gh
section
variable {rs:List Nat} {tk:Option Nat} {g:Bool} {m M:Mem} {S1 S2:St}
theorem Zuo(S:St)(d:Option Tmp)(x:Option SV):(S.put d x).L=S.L:=by cases d <;> rfl
theorem Zsd(S:St)(d:Option Tmp)(x:Option SV):(S.put d x).tok=S.tok:=by cases d <;> rfl
theorem OutB.put{y1 y2:St×Mem}(h:OutB rs tk g m M S1 S2 y1 y2)(dst:Option Tmp){x1 x2:Option SV}(hx:∀sv,x1=some sv->x2=some sv):Out rs tk g m M dst S1 S2 (y1.1.put dst x1,y1.2) (y2.1.put dst x2,y2.2):=by
 refine⟨?_,?_,by simpa[Zuo]using h.L,by simpa[Zsd]using h.tok,h.le,h.same,by have:=h.gh2;cases dst <;> exact this⟩
 ·intro t sv ht qm
  subst ht
  simp[St.put]at *
  exact hx _ qm
 ·intro t ht
  cases dst with
  | none=>simp[St.put,h.env2]
  | some d=>simp[St.put,Zam (λe=>ht (by rw[e]):t≠d),h.env2]
theorem OutB.refl(hm:m.le M):OutB rs tk g m M S1 S2 (S1,m) (S2,M):=⟨rfl,rfl,λ_=>.inr ⟨rfl,rfl⟩,λ_=>.inr ⟨rfl,rfl⟩,hm,λ_=>⟨rfl,rfl⟩,rfl⟩
theorem Out.put0(hm:m.le M)(dst:Option Tmp){x1 x2:Option SV}(hx:∀sv,x1=some sv->x2=some sv):Out rs tk g m M dst S1 S2 (S1.put dst x1,m) (S2.put dst x2,M):=
 (OutB.refl (rs:=rs) (tk:=tk) (g:=g) (S1:=S1) (S2:=S2) hm).put dst hx
theorem OutB.setL(hm:m.le M){id:Nat}(cI:id∈rs)(x:Option Box):OutB rs tk g m M S1 S2 (S1.setL id x,m) (S2.setL id x,M):=by
 refine⟨rfl,rfl,λi=>?_,λ_=>.inr ⟨rfl,rfl⟩,hm,λ_=>⟨rfl,rfl⟩,rfl⟩
 by_cases hi:i=id
 ·subst hi;exact .inl ⟨cI,by simp[St.setL]⟩
 ·exact .inr (by simp[St.setL,Zam hi])
theorem OutB.newL{m' M':Mem}(hm:m'.le M')(hg:g=false->m'=m/\M'=M){id:Nat}(cI:id∈rs)(x:Box):OutB rs tk g m M S1 S2 (S1.newL id x,m') (S2.newL id x,M'):=by
 refine⟨rfl,rfl,λi=>?_,λ_=>.inr ⟨rfl,rfl⟩,hm,hg,rfl⟩
 by_cases hi:i=id
 ·subst hi;exact .inl ⟨cI,by simp[St.newL]⟩
 ·exact .inr (by simp[St.newL,Zam hi])
end
mutual
theorem Shape.all_intro:∀(s:Shape){k:Value->Prop},(∀v,k v)->s.all k
 | .any,k,h=>by simpa only[Shape.all]using h
 | .int ki,k,h=>by simp only[Shape.all];exact λn=>h _
 | .bool,k,h=>by simp only[Shape.all];exact λn=>h _
 | .str,k,h=>by simp only[Shape.all];exact λn=>h _
 | .slice,k,h=>by simp only[Shape.all];exact λ_ _ _=>h _
 | .agg l,k,h=>by simp only[Shape.all];exact Shape.allL_intro l (λvs=>h _)
 | .tup l,k,h=>by simp only[Shape.all];exact Shape.allL_intro l (λvs=>h _)
 | .fn,k,h=>by simp only[Shape.all];exact λ_ _ _=>h _
 | .cells,k,h=>by simp only[Shape.all];exact λ_=>h _
 | .ptr,k,h=>by simp only[Shape.all];exact λ_ _=>h _
theorem Shape.allL_intro:∀(l:List Shape){k:List Value->Prop},(∀v,k v)->Shape.allL l k
 | [],k,h=>by simp only[Shape.allL];exact h _
 | s::l,k,h=>by simp only[Shape.allL];exact Shape.all_intro s (λv=>Shape.allL_intro l (λvs=>h _))
end
theorem allL_intro:∀{n:Nat} {k:List (List Value)->Prop},(∀l,l.length=n->k l)->allL n k
 | 0,k,h=>h [] rfl
 | n+1,k,h=>λcs=>allL_intro (λl hl=>h (cs::l) (by simp[hl]))
def Env.fixed(E:Env)(f:List Value->Mem->Value->Mem->List (List Value)->Prop):Env:={ E with fix:=some f }
section
variable {rs:List Nat} {tk:Option Nat} {g:Bool} {S1 S2:St} {m M:Mem}
theorem Zo5{E:Env}{f:List Value->Mem->Value->Mem->List (List Value)->Prop}(hs:Less S1 S2)(i7:∀id x,S1.L id=some x->id∈rs)(hm:m.le M){T:TypeId}{x:Operand}{v:Value}:
  LC (λK:St×Mem->Prop=>ZfF (E.fixed f) S1 T x v λS'=>K (S',m)) (λK:St×Mem->Prop=>ZfF E S2 T x v λS'=>K (S',M)) (OutB rs tk g m M S1 S2):=by
 unfold ZfF
 show LC (λK=>match E.tt T with
  | none=>False
  | some i=>_) _ _
 cases E.tt T with
 | none=>exact LC.false
 | some i=>
  simp only
  cases he:S1.ev x with
  | none=>exact LC.false
  | some sv=>
   simp only[hs.ev he]
   cases sv with
   | loc id off=>
    simp only
    cases hx:S1.L id with
    | none=>exact LC.false
    | some bx=>
     simp only[hs.L id bx hx]
     refine LC.chk λ_=>?_
     cases(bx.full&&(Nat.beq bx.cap i.size&&Nat.beq off 0)) <;> simp only[cond_true,cond_false]
     ·exact LC.chk λ_=>LC.ret (OutB.setL hm (i7 id bx hx) _)
     ·exact LC.ret (OutB.setL hm (i7 id bx hx) _)
   | v u=>
    simp only
    show LC (λK=>match Zeg E x with
     | none=>False
     | some id=>_) _ _
    cases Zeg E x with
    | none=>exact LC.false
    | some id=>
     simp only
     cases hx:S1.L id with
     | none=>exact LC.false
     | some bx=>
      simp only[hs.L id bx hx]
      refine LC.chk λ_=>?_
      rintro⟨h1,h2,_⟩
      exact⟨h1,h2,_,λK hK=>hK.2.2,OutB.setL hm (i7 id bx hx) _⟩
   | sl id n c=>exact LC.false
theorem Zq4{E:Env}{f:List Value->Mem->Value->Mem->List (List Value)->Prop}(hs:Less S1 S2)(i7:∀id x,S1.L id=some x->id∈rs)(hm:m.le M){T:TypeId}{id:Nat}{vd vs:Value}:
  LC (λK:Int×(St×Mem)->Prop=>ZmB (E.fixed f) S1 m T id vd vs λn S'=>K (n,(S',m))) (λK:Int×(St×Mem)->Prop=>ZmB E S2 M T id vd vs λn S'=>K (n,(S',M))) (λy1 y2=>y1.1=y2.1/\OutB rs tk g m M S1 S2 y1.2 y2.2/\y1.2.2=m/\y2.2.2=M):=by
 unfold ZmB
 show LC (λK=>match Zav E T with
  | none=>False
  | some (e,j)=>_) _ _
 cases Zav E T with
 | none=>exact LC.false
 | some ej=>
  obtain⟨e,j⟩:=ej
  simp only
  cases hx:S1.L id with
  | none=>exact LC.false
  | some bx=>
   simp only[hs.L id bx hx]
   refine LC.chk λ_=>?_
   intro h vj
   have hf:m.free bx.b:=λo=>by
    cases he:m bx.b o with
    | none=>rfl
    | some u=>have:=hm _ _ _ he;rw[vj o]at this;cases this
   obtain⟨o,xs,h1,h2,h3,h4,h5,_⟩:=h hf
   refine⟨o,xs,h1,h2,h3,h4,h5.imp_left (λh=>h.mono hm),(_,(S1.setL id (some { bx with cs:=Zaw bx.cs o xs }),m)),λK hK=>?_,rfl,OutB.setL hm (i7 id bx hx) _,rfl,rfl⟩
   obtain⟨o',xs',g1,g2,g3,g4,g5,g6⟩:=hK hf
   rw[h1]at g1
   obtain rfl:o=o':=by simpa using g1
   have hl:xs.length=xs'.length:=by rw[h2,g2]
   have dK:∀{as:Option Addr} {ys:List Value} {p:Nat},rowRd m as ys->as=some ⟨bx.b,p,none⟩->ys=[]:=λ{as ys p} hy ha=>by
    rcases hy with hy|⟨b1,o1,lW,hy⟩
    ·exact hy
    ·rw[ha]at lW
     simp only[Option.some.injEq,Addr.mk.injEq,and_true]at lW
     obtain⟨rfl,rfl⟩:=lW
     cases rb:ys with
     | nil=>rfl
     | cons u l=>subst rb;have:=hy 0 u rfl;rw[hf]at this;cases this
   have rI:xs=xs':=by
    rcases h5 with h5|⟨p,hp,h5⟩
    ·rcases g5 with g5|⟨p',hp',g5⟩
     ·exact Zel h5 g5 hl
     ·have:=dK h5 hp';subst this
      exact(List.eq_nil_of_length_eq_zero hl.symm).symm
    ·rcases g5 with g5|⟨p',hp',g5⟩
     ·have:=dK g5 hp;subst this
      exact List.eq_nil_of_length_eq_zero hl
     ·rw[hp]at hp'
      obtain rfl:p=p':=by simpa using hp'
      apply List.ext_getElem?
      intro i
      by_cases hi:i < xs.length
      ·have e1:=h5 i _ (zA3 hi)
       have e2:=g5 i _ (zA3 (by omega))
       rw[e1]at e2
       rw[zA3 hi,zA3 (by omega)]
       exact e2
      ·rw[List.getElem?_eq_none (by omega),List.getElem?_eq_none (by omega)]
   subst rI
   exact g6
theorem Zgd(hs:Less S1 S2):∀{ids:List Nat} {bxs:List Box},Za2 S1 ids=some bxs->Za2 S2 ids=some bxs
 | [],bxs,h=>h
 | id::l,bxs,h=>by
  simp only[Za2]at *
  cases hx:S1.L id with
  | none=>simp[hx]at h
  | some x=>
   simp only[hx]at h
   simp only[hs.L id x hx]
   cases hb:Za2 S1 l with
   | none=>simp[hb]at h
   | some xs=>simp only[hb]at h;simp only[Zgd hs hb];exact h
theorem Zq5{E:Env}(hE:E.fix=none){f:List Value->Mem->Value->Mem->List (List Value)->Prop}(hs:Less S1 S2)(i7:∀id x,S1.L id=some x->id∈rs)(hm:m.le M){rt:TypeId}{gg:FuncId}{args:List Value}{ids:List Nat}{γ:Value->St->Option SV}:
  LC (λK:Value×(St×Mem)->Prop=>Zkv (E.fixed f) S1 m rt gg args ids λv S' m'=>K (v,(S',m'))) (λK:Value×(St×Mem)->Prop=>Zkv E S2 M rt gg args ids λv S' m'=>K (v,(S',m'))) (λy1 y2=>y1.1=y2.1/\OutB rs tk true m M S1 S2 y1.2 y2.2):=by
 intro h
 unfold Zkv at *
 cases hb:Za2 S1 ids with
 | none=>simp[hb]at h
 | some bxs=>
  simp only[hb]at h
  simp only[Zgd hs hb]
  obtain⟨h1,R,h0,gJ,dF,_⟩:=Zad h
  have h0':R=f args m:=h0
  obtain⟨bG,cD⟩:=ZbL hb
  simp only[zA7]at h1
  have dQ:=ZaC h1.2
  refine Zaa (by simp[h1.1,h1.2]) ⟨λv M' css=>∃m',m.le m'/\m'.le M'/\R v m' css,by rw[hE];trivial,gJ.frame hm,λv m' css ⟨_,_,_,hR⟩=>dF _ _ _ hR,?_⟩
  refine Shape.all_intro _ λv M' hM'=>allL_intro λcss eQ ⟨m',g1,g2,hR⟩=>⟨(v,(Zcp S1 ids bxs css,m')),λK hK=>?_,rfl,?_⟩
  ·obtain⟨_,R',h0'',_,_,bR⟩:=Zad hK
   have h0''':R'=f args m:=h0''
   have vk:R'=R:=by rw[h0''',h0']
   subst vk
   exact ZfW (Shape.all_fits _ _ bR v (dF _ _ _ hR) m' g1) css eQ hR
  ·refine⟨by rw[Zcu],by rw[Zcu],λid=>?_,λk=>.inr ⟨by rw[Zcu],by rw[Zcu]⟩,g2,λh=>(by cases h),by rw[Zcu]⟩
   rcases ZdO (S:=S1) dQ bG eQ id with⟨a1,a2⟩|⟨i,x,cs,a1,a2,a3,a4⟩
   ·rcases ZdO (S:=S2) dQ bG eQ id with⟨b1,b2⟩|⟨i',x',cs',b1,b2,b3,b4⟩
    ·exact .inr ⟨a2,b2⟩
    ·exact absurd (zA2 b1) a1
   ·rcases ZdO (S:=S2) dQ bG eQ id with⟨b1,b2⟩|⟨i',x',cs',b1,b2,b3,b4⟩
    ·exact absurd (zA2 a1) b1
    ·obtain⟨id',c1,c2⟩:=cD i x a2
     rw[a1]at c1;cases c1
     have hi:=(zA0 a1).1
     have:i=i':=(List.getElem?_inj hi dQ).1 (by rw[a1,b1])
     subst this
     rw[a2]at b2;rw[a3]at b3;cases b2;cases b3
     exact .inl ⟨i7 _ _ c2,by rw[a4,b4]⟩
theorem ZmW{E:Env}{f:List Value->Mem->Value->Mem->List (List Value)->Prop}(hm:m.le M){T xT:TypeId}{key:Nat}{vs vx:Value}(fW:tk=some key)(bP:∀k,tk=some k->S1.tok k=S2.tok k):
  LC (λK:Value×(St×Mem)->Prop=>ZeG (E.fixed f) S1 m T xT key vs vx λv t m'=>K (v,({ S1 with tok:=t,tkeys:=key::S1.tkeys },m'))) (λK:Value×(St×Mem)->Prop=>ZeG E S2 M T xT key vs vx λv t m'=>K (v,({ S2 with tok:=t,tkeys:=key::S2.tkeys },m'))) (λy1 y2=>y1.1=y2.1/\OutB rs tk true m M S1 S2 y1.2 y2.2):=by
 unfold ZeG
 show LC (λK=>match Zav E T with
  | none=>False
  | some (_,j)=>match Zav E xT with
   | none=>False
   | some (_,j')=>_) _ _
 cases Zav E T with
 | none=>exact LC.false
 | some ej=>
  cases Zav E xT with
  | none=>exact LC.false
  | some ej'=>
   simp only
   refine LC.chk λ_=>?_
   have k6:LC (λK:Value×(St×Mem)->Prop=>Zs4 (E.fixed f) S1 m ej.2 key vs vx λv t m'=>K (v,({ S1 with tok:=t,tkeys:=key::S1.tkeys },m'))) (λK:Value×(St×Mem)->Prop=>Zs4 E S2 M ej.2 key vs vx λv t m'=>K (v,({ S2 with tok:=t,tkeys:=key::S2.tkeys },m'))) (λy1 y2=>y1.1=y2.1/\OutB rs tk true m M S1 S2 y1.2 y2.2):=?body
   case body=>
    unfold Zs4
    rintro⟨ht,xs,ys,a1,a2,a3,a4,a5,a6,a7,_⟩
    rw[bP key fW]at ht
    refine⟨ht,xs,ys,a1,a2,a3.mono hm,a4.mono hm,a5,a6,a7,λa' c' M' hM' hr=>?_⟩
    refine ZoO λnW cS=>⟨(.slice a' (slN vs+slN vx) c',({ S1 with tok:=(λk=>bif Nat.beq k key then some ⟨.slice a' (slN vs+slN vx) c',ej.2.size⟩ else S1.tok k),tkeys:=key::S1.tkeys },M')),λK hK=>?_,rfl,⟨rfl,rfl,λ_=>.inr ⟨rfl,rfl⟩,λk=>?_,Mem.le_refl _,λh=>(by cases h),rfl⟩⟩
    ·obtain⟨_,xs',ys',b1,b2,b3,b4,_,_,_,b8⟩:=hK
     rw[Zel a3 b3 (by omega),Zel a4 b4 (by omega)]at hr
     exact ZjS (b8 a' c' M' (mLt hm hM') hr) (λht=>(nW ht).mono hm) cS
    ·by_cases hk:k=key
     ·subst hk;exact .inl ⟨fW,by simp⟩
     ·exact .inr (by simp[Zam hk])
   show LC (λK=>bif E.tails then br (Nat.beq (slN vx) 0) (chk (Nat.ble (slN vs) (slC vs)) _) _ else _) (λK=>bif E.tails then br (Nat.beq (slN vx) 0) (chk (Nat.ble (slN vs) (slC vs)) _) _ else _) _
   cases E.tails with
   | false=>exact k6
   | true=>
    refine LC.br (LC.chk λ_=>LC.ret ⟨rfl,⟨rfl,rfl,λ_=>.inr ⟨rfl,rfl⟩,λk=>?_,hm,λh=>(by cases h),rfl⟩⟩) k6
    by_cases hk:k=key
    ·subst hk;exact .inl ⟨fW,bP k fW⟩
    ·exact .inr ⟨rfl,rfl⟩
end
theorem Mem.add_le{m M:Mem}(h:m.le M)(b:Nat)(cs:List Value):(m.add b cs).le (M.add b cs):=λb' o v hv=>by
 by_cases hb:b'=b
 ·subst hb;rw[Mem.add_same]at hv ⊢;exact hv
 ·rw[Mem.add_other _ hb]at hv ⊢;exact h _ _ _ hv
theorem ZhL{S1 S2:St}(hs:Less S1 S2):∀{l:List Operand} {k:List Value->Prop},wvs S1 l k->Zcv S1 l=Zcv S2 l
 | [],k,h=>rfl
 | x::l,k,h=>by
  obtain⟨v,hv,h⟩:=Zay h
  have ih:=ZhL hs h
  unfold St.val at hv
  cases he:S1.ev x with
  | none=>simp[he]at hv
  | some sv=>
   simp only[Zcv,he,hs.ev he,ih]
   cases sv with
   | loc id off=>
    simp only[he,St.den]at hv
    cases hx:S1.L id with
    | none=>simp[hx]at hv
    | some x=>simp only[hx,hs.L id x hx]
   | _=>rfl
def Zq6(E:Env)(rs:List Nat)(tk:Option Nat)(o:Oper):Bool:=match o.op with
 | .alloc _=>(match o.dst with
  | some d=>rs.any (Nat.beq d ·)
  | none=>false)
 | .box _ _=>(match o.dst with
  | some d=>rs.any (Nat.beq d ·)
  | none=>false)
 | .buildSlice _ _ _=>(match o.dst with
  | some d=>rs.any (Nat.beq d ·)
  | none=>false)
 | .makeSlice _ _ _=>(match o.dst with
  | some d=>rs.any (Nat.beq d ·)
  | none=>false)
 | .call c=>(match c.callee with
  | .builtin .append=>(match o.dst,tk with
   | some d,some k=>Nat.beq (E.tokOf d) k
   | _,_=>false)
  | _=>(ZdP E o.dst).isNone)
 | .store _ x _=>(match ZkX E x with
  | none=>true
  | some _=>false)
 | _=>true
theorem Zjl{E:Env}{rs:List Nat}{tk:Option Nat}{o:Oper}(h:Zq6 E rs tk o=true):Zk7 E o:=by
 refine⟨λT x y e=>?_,λf as ats e=>?_⟩
 ·unfold Zq6 at h
  rw[e]at h
  cases hs:ZkX E x with
  | none=>rfl
  | some k=>simp[hs]at h
 ·unfold Zq6 at h
  rw[e]at h
  simpa using h
def Zlh(rs:List Nat)(o:Oper):List Nat:=match o.op with
 | .alloc _=>dl o.dst
 | .box _ _=>dl o.dst
 | .buildSlice _ _ _=>dl o.dst
 | .makeSlice _ _ _=>dl o.dst
 | .store _ _ _=>rs
 | .call c=>(match c.callee with
  | .value _=>rs
  | .builtin .copy=>rs
  | _=>[])
 | _=>[]
def Zdf(o:Oper):Bool:=match o.op with
 | .buildSlice _ _ _=>true
 | .call c=>(match c.callee with
  | .value _=>true
  | .builtin .append=>true
  | _=>false)
 | _=>false
section
variable {rs:List Nat} {tk:Option Nat} {S1 S2:St} {m M:Mem}
theorem Ztv{E:Env}(w:World)(hE:E.fix=none){f:List Value->Mem->Value->Mem->List (List Value)->Prop}(hs:Less S1 S2)(i7:∀id x,S1.L id=some x->id∈rs)(hL:∀id∈rs,S1.L id=S2.L id)
  (bP:∀k,tk=some k->S1.tok k=S2.tok k) (hm:m.le M) {o:Oper} (iB:Zq6 E rs tk o=true):
  LC (λK:St×Mem->Prop=>opW (E.fixed f) S1 m o λS' m'=>K (S',m')) (λK:St×Mem->Prop=>opW E S2 M o λS' m'=>K (S',m')) (Out (Zlh rs o) tk (Zdf o) m M o.dst S1 S2):=by
 have eL:∀(rs:List Nat)(g:Bool)(o:Oper),LC (λK:St×Mem->Prop=>Zco (E.fixed f) S1 o λsv=>K (S1.put o.dst (some sv),m)) (λK:St×Mem->Prop=>Zco E S2 o λsv=>K (S2.put o.dst (some sv),M)) (Out rs tk g m M o.dst S1 S2):=λrs g o=>by
  refine LC.map (f:=λsv=>(S1.put o.dst (some sv),m)) (g:=λsv=>(S2.put o.dst (some sv),M)) (ρ:=Eq) (T1:=λK=>Zco (E.fixed f) S1 o K) (T2:=λK=>Zco E S2 o K) ?_ ?_ ?_
  ·exact(Zq2 w hs:LE (Zco E S1 o) (Zco E S2 o))
  ·rintro a b rfl
   exact Out.put0 hm _ (λsv h=>h)
  ·exact λh=>Zje h
 obtain⟨dst,op,type,pos,after,guard⟩:=o
 have ig:∀(rs:List Nat)(g:Bool)(x:Operand),LC (λK:St×Mem->Prop=>K (S1.put dst (S1.ev x),m)) (λK:St×Mem->Prop=>K (S2.put dst (S2.ev x),M)) (Out rs tk g m M dst S1 S2):=λrs g x=>LC.ret (Out.put0 hm _ (λsv h=>hs.ev h))
 have cF:∀{g:Bool} {d:Nat} {x:Box} {sv:SV},Out [d] tk g m M (some d) S1 S2 ((S1.newL d x).put (some d) (some sv),m) ((S2.newL d x).put (some d) (some sv),M):=λ{g d x sv}=>(OutB.newL hm (λ_=>⟨rfl,rfl⟩) (by simp) x).put (some d) (λsv h=>h)
 cases op with
 | move x=>exact ig _ _ x
 | assign x=>exact ig _ _ x
 | pick c x y=>exact Zcq hs λv=>LC.chk λ_=>LC.br (ig _ _ x) (ig _ _ y)
 | load T x=>
  have hq:ZnL (E.fixed f) dst=ZnL E dst:=rfl
  simp only[opW,hq]
  cases mZ:ZnL E dst with
  | some y=>exact LC.false
  | none=>
  refine LC.map (f:=λv=>(S1.put dst (some (.v v)),m)) (g:=λv=>(S2.put dst (some (.v v)),M)) (ρ:=Eq) (T1:=λK=>ZeP (E.fixed f) S1 m T x K) (T2:=λK=>ZeP E S2 M T x K) ?_ ?_ ?_
  ·exact(Zq3 hs hm:LE (ZeP E S1 m T x) (ZeP E S2 M T x))
  ·rintro a b rfl
   exact Out.put0 hm _ (λsv h=>h)
  ·exact λh=>ZeS h
 | store T x y=>
  refine Zcq hs λv=>?_
  show LC (λK=>match ZkX E x with
   | none=>_
   | some key=>bif (E.fixed f).fix.isSome then False else _) (λK=>match ZkX E x with
   | none=>_
   | some key=>_) _
  cases ZkX E x with
  | some key=>exact LC.false
  | none=>
  refine LC.map (f:=λy:St×Mem=>(y.1.put dst none,m)) (g:=λy:St×Mem=>(y.1.put dst none,M)) (ρ:=λy1 y2=>OutB rs tk false m M S1 S2 y1 y2/\y1.2=m/\y2.2=M) ?_ ?_ ?_ (T1:=λK=>ZfF (E.fixed f) S1 T x v λS'=>K (S',m)) (T2:=λK=>ZfF E S2 T x v λS'=>K (S',M))
  ·exact λh=>Zfr (λS' _ ⟨y1,g1,g2⟩=>⟨(y1.1,m),λK hK=>g1 (λy=>K (y.1,m)) hK,⟨g2.env1,g2.env2,g2.L,g2.tok,hm,λ_=>⟨rfl,rfl⟩,g2.gh2⟩,rfl,rfl⟩) (Zo5 (tk:=tk) (rs:=rs) (g:=false) hs i7 hm h)
  ·rintro a b ⟨h1,h2,h3⟩
   have:=h1.put dst (x1:=none) (x2:=none) (λsv h=>h)
   rw[h2,h3]at this;exact this
  ·exact λh=>Zfr (λS' _=>h _)
 | alloc T=>
  simp only[opW,ZoN,Zq6]at *
  cases dst with
  | none=>exact LC.false
  | some d=>
   simp only
   show LC (λK=>match E.tt T with
    | none=>False
    | some i=>_) _ _
   cases E.tt T with
   | none=>exact LC.false
   | some i=>
    simp only at iB ⊢
    rw[hL d (ZeI.1 iB)]
    cases hx:S2.L d with
    | some x=>exact LC.false
    | none=>exact λ_ b=>⟨_,λK hK=>hK b,cF⟩
 | box T x=>
  refine Zcq hs λv=>?_
  show LC (λK=>bif Zfj E dst then(bif (E.fixed f).fix.isSome then False else _)else _) (λK=>bif Zfj E dst then _ else _) _
  cases gE:Zfj E dst with
  | true=>exact LC.false
  | false=>
  simp only[cond_false]
  simp only[Zuj,Zq6]at *
  cases dst with
  | none=>exact LC.false
  | some d=>
   simp only
   show LC (λK=>match E.tt T with
    | none=>False
    | some i=>_) _ _
   cases E.tt T with
   | none=>exact LC.false
   | some i=>
    simp only at iB ⊢
    rw[hL d (ZeI.1 iB)]
    cases hx:S2.L d with
    | some x=>exact LC.false
    | none=>exact LC.chk λ_ _ b=>⟨_,λK hK=>hK b,cF⟩
 | buildSlice T len parts=>
  simp only[opW]
  have hq:ZcH (E.fixed f) dst=ZcH E dst:=rfl
  simp only[hq]
  cases gV:ZcH E dst with
  | some ke=>exact LC.false
  | none=>
  simp only[ZdQ,Zq6]at *
  cases dst with
  | none=>exact LC.false
  | some d=>
   simp only
   show LC (λK=>match E.tt T with
    | none=>False
    | some t=>match t.d with
     | .slice e=>match E.tt e with
      | none=>False
      | some i=>_
     | _=>False) _ _
   cases E.tt T with
   | none=>exact LC.false
   | some t=>
    simp only
    cases t.d <;> simp only <;> try exact LC.false
    rename_i e
    cases E.tt e with
    | none=>exact LC.false
    | some i=>
     simp only at iB ⊢
     rw[hL d (ZeI.1 iB)]
     cases hx:S2.L d with
     | some x=>exact LC.false
     | none=>
      refine LC.chk λ_=>Zlg hs λvs=>LC.chk λ_ _ b hb=>⟨_,λK hK=>hK b ?_,?_⟩
      ·intro o
       cases he:m b o with
       | none=>rfl
       | some v=>have:=hm _ _ _ he;rw[hb o]at this;cases this
      ·exact(OutB.newL (Mem.add_le hm b (Zbn vs)) (λh=>by cases h) (by simp[Zlh,dl]) _).put (some d) (λsv h=>h)
 | makeSlice T l c=>
  have hq:ZcH (E.fixed f) dst=ZcH E dst:=rfl
  simp only[opW,hq]
  have nL:Zqd (E.fixed f) dst=Zqd E dst:=rfl
  cases gV:ZcH E dst with
  | some ke=>exact LC.false
  | none=>
  simp only[nL]
  cases j5:Zqd E dst with
  | true=>exact LC.false
  | false=>
  simp only[cond_false]
  simp only[ZrL,Zq6]at *
  cases dst with
  | none=>exact LC.false
  | some d=>
   simp only
   show LC (λK=>match Zav E T with
    | none=>False
    | some (e,j)=>_) _ _
   cases Zav E T with
   | none=>exact LC.false
   | some ej=>
    simp only at iB ⊢
    rw[hL d (ZeI.1 iB)]
    cases hx:S2.L d with
    | some x=>exact LC.false
    | none=>exact Zcq hs λv=>Zcq hs λv'=>LC.chk λ_ ⟨h1,_⟩=>⟨h1,λb=>⟨_,λK hK=>hK.2 b,cF⟩⟩
 | convert s d x=>
  simp only[opW]
  show LC (λK=>bif Zfp E s d then _ else _) _ _
  cases Zfp E s d with
  | false=>
   simp only[cond_false]
   show LC (λK=>bif Zcj E s d then _ else _) _ _
   cases Zcj E s d with
   | false=>
    simp only[cond_false]
    show LC (λK=>bif Zck E s d then _ else _) _ _
    cases Zck E s d with
    | false=>exact eL _ _ ⟨dst,.convert s d x,type,pos,after,guard⟩
    | true=>exact LC.false
   | true=>exact LC.false
  | true=>
   simp only[cond_true]
   cases he:S1.ev x with
   | none=>exact LC.false
   | some sv=>
    simp only[hs.ev he]
    cases sv <;> first
     | exact LC.false
     | exact LC.ret (Out.put0 hm _ (λsv h=>h))
 | call c=>
  obtain⟨callee,args,argTypes⟩:=c
  cases callee with
  | value g=>
   simp only[opW,ZrW]
   show LC (λK=>match Zde E dst with
    | []=>_
    | ids=>bif (E.fixed f).fix.isSome then False else _) (λK=>match Zde E dst with
    | []=>_
    | ids=>_) _
   cases ii:Zde E dst with
   | cons i l=>exact LC.false
   | nil=>
   simp only[ZrK]
   have hP:ZdP E dst=none:=(Zjl iB).2 _ _ _ rfl
   have rJ:ZdP (E.fixed f) dst=none:=hP
   cases he:S1.ev g with
   | none=>exact LC.false
   | some sv=>
    simp only[hs.ev he]
    cases sv with
    | loc id off=>exact LC.false
    | sl id n c=>exact LC.false
    | v u=>
     cases u <;> try exact LC.false
     rename_i fv first captured
     cases fv <;> try exact LC.false
     rename_i gg
     have jE:Zp9 (E.fixed f) dst=Zp9 E dst:=rfl
     have vm:ZnM (E.fixed f) dst=ZnM E dst:=rfl
     simp only[vm]
     cases jz:ZnM E dst with
     | true=>exact LC.false
     | false=>
     simp only[cond_false]
     simp only[jE,hP,rJ]
     cases ni:Zp9 E dst with
     | true=>exact LC.false
     | false=>
     simp only[cond_false]
     have hq:ZcH (E.fixed f) dst=ZcH E dst:=rfl
     simp only[hq]
     cases gV:ZcH E dst with
     | some ke=>exact LC.false
     | none=>
     intro h
     have rK:=ZhL hs h
     revert h
     rw[<-rK]
     show LC (λK:St×Mem->Prop=>wvs S1 args.toList λvs=>Zkv (E.fixed f) S1 m type gg (first.toList++vs++captured.toList) (Zcv S1 args.toList++ZcV E dst) λv S' m'=>K (S'.put dst (some (SV.v v)),m'))
      (λK:St×Mem->Prop=>wvs S2 args.toList λvs=>Zkv E S2 M type gg (first.toList++vs++captured.toList) (Zcv S1 args.toList++ZcV E dst) λv S' m'=>K (S'.put dst (some (SV.v v)),m')) _
     refine Zlg hs λvs=>?_
     refine LC.map (f:=λy:Value×(St×Mem)=>(y.2.1.put dst (some (.v y.1)),y.2.2)) (g:=λy:Value×(St×Mem)=>(y.2.1.put dst (some (.v y.1)),y.2.2)) (Zq5 (rs:=rs) (tk:=tk) (γ:=λ_ _=>none) hE (f:=f) hs i7 hm) ?_ ?_
     ·rintro⟨v1,y1⟩ ⟨v2,y2⟩ ⟨rfl,h2⟩
      exact h2.put dst (λsv h=>h)
     ·exact λh=>Zjg (λv S' m' _ _=>h _)
  | invoke r mm=>
   simp only[opW]
   exact eL _ _ ⟨dst,_,type,pos,after,guard⟩
  | builtin b=>
   cases b with
   | append=>
    simp only[opW,Zq6]at *
    split
    ·rename_i s x T xT d _ _
     cases fW:tk with
     | none=>simp[fW]at iB
     | some key=>
      simp only[fW]at iB
      obtain rfl:=Nat.eq_of_beq_eq_true iB
      simp only[ZrW]
      show LC (λK=>match Zde E (some d)with
       | []=>_
       | ids=>bif (E.fixed f).fix.isSome then False else _) (λK=>match Zde E (some d)with
       | []=>_
       | ids=>_) _
      cases ii:Zde E (some d)with
      | cons i l=>exact LC.false
      | nil=>
      refine Zcq hs λv=>Zcq hs λv'=>?_
      have z:=ZmW (E:=E) (rs:=[]) (tk:=some (E.tokOf d)) (key:=E.tokOf d) (S1:=S1) (S2:=S2) (f:=f) (T:=T) (xT:=xT) (vs:=v) (vx:=v') hm rfl (λk hk=>bP k (fW.trans hk))
      refine LC.map z (f:=λy:Value×(St×Mem)=>(y.2.1.put (some d) (some (.v y.1)),y.2.2)) (g:=λy:Value×(St×Mem)=>(y.2.1.put (some d) (some (.v y.1)),y.2.2)) ?_ ?_
      ·rintro⟨v1,y1⟩ ⟨v2,y2⟩ ⟨rfl,h2⟩
       exact h2.put (some d) (λsv h=>h)
      ·exact λh=>Zf9 (λv t m' _=>h _)
    ·exact LC.false
   | copy=>
    simp only[opW,Zq6]at *
    split
    ·rename_i d s T xT _ _
     have hq:Zeg (E.fixed f) d=Zeg E d:=rfl
     simp only[hq]
     cases Zeg E d with
     | none=>exact LC.false
     | some id=>
      refine Zcq hs λv=>Zcq hs λv'=>?_
      have z:=Zq4 (E:=E) (rs:=rs) (tk:=tk) (g:=false) (S1:=S1) (S2:=S2) (f:=f) (T:=T) (id:=id) (vd:=v) (vs:=v') hs i7 hm
      refine LC.map z (f:=λy:Int×(St×Mem)=>(y.2.1.put dst (some (.v (.int .i64 y.1))),m)) (g:=λy:Int×(St×Mem)=>(y.2.1.put dst (some (.v (.int .i64 y.1))),M)) ?_ ?_
      ·rintro⟨n1,y1⟩ ⟨n2,y2⟩ ⟨rfl,h2,h3,h4⟩
       have:=h2.put dst (x1:=some (.v (.int .i64 n1))) (x2:=some (.v (.int .i64 n1))) (λsv h=>h)
       rw[h3,h4]at this;exact this
      ·exact λh=>Zjf (λn S' _=>h _)
    ·exact LC.false
   | _=>
    simp only[opW]
    exact eL _ _ ⟨dst,_,type,pos,after,guard⟩
 | _=>
  simp only[opW]
  exact eL _ _ ⟨dst,_,type,pos,after,guard⟩
theorem Ztw{E:Env}(w:World)(hE:E.fix=none){f:List Value->Mem->Value->Mem->List (List Value)->Prop}(hs:Less S1 S2)(i7:∀id x,S1.L id=some x->id∈rs)(hL:∀id∈rs,S1.L id=S2.L id)
  (bP:∀k,tk=some k->S1.tok k=S2.tok k) (hm:m.le M) {ops:Array Oper} {o:Oper} (iB:Zq6 E rs tk o=true):
  LC (λK:St×Mem->Prop=>opG (E.fixed f) ops o S1 m λS' m'=>K (S',m')) (λK:St×Mem->Prop=>opG E ops o S2 M λS' m'=>K (S',m')) (Out (Zlh rs o) tk (Zdf o) m M o.dst S1 S2):=by
 have h1:=Ztv w hE (f:=f) hs i7 hL bP hm iB
 have h0:LC (λK:St×Mem->Prop=>K (S1.put o.dst (some (.v undef)),m)) (λK:St×Mem->Prop=>K (S2.put o.dst (some (.v undef)),M)) (Out (Zlh rs o) tk (Zdf o) m M o.dst S1 S2):=LC.ret (Out.put0 hm _ (λsv h=>h))
 unfold opG
 cases hg:o.guard with
 | none=>exact h1
 | some jw=>
  obtain⟨j,want⟩:=jw
  simp only
  cases ops.toList[j]? with
  | none=>exact LC.false
  | some oj=>
   simp only
   cases oj.dst with
   | none=>exact LC.false
   | some t=>
    simp only
    cases he:S1.env t with
    | none=>exact LC.false
    | some sv=>
     simp only[hs.env t sv he]
     cases sv with
     | loc id off=>exact LC.false
     | sl id n c=>exact LC.false
     | v u=>
      simp only
      cases Zcw u with
      | true=>exact h0
      | false=>
       refine LC.chk λ_=>?_
       cases want
       ·exact LC.br h0 h1
       ·exact LC.br h1 h0
end
def mem(l:List Nat)(i:Nat):Bool:=l.any (Nat.beq i ·)
theorem ZaN{l:List Nat}{i:Nat}:mem l i=true↔i∈l:=ZeI
def Zo6(t:Option Nat)(k:Nat):Bool:=match t with
 | some q=>Nat.beq k q
 | none=>false
theorem Zbo{t:Option Nat}{k:Nat}:Zo6 t k=true↔t=some k:=by
 cases t with
 | none=>simp[Zo6]
 | some q=>
  simp only[Zo6,Option.some.injEq]
  exact⟨λh=>(Nat.eq_of_beq_eq_true h).symm,λh=>by subst h;exact Nat.beq_refl _⟩
def ZeX(o:Oper)(t:Nat):Bool:=Zo6 o.dst t
def ZmX(ops:Array Oper)(d:DOp)(o:Oper)(S:St):St:=
 {env:=λt=>bif mem (o.looksAt ops) t then S.env t else none
  L:=λid=>bif mem d.rs id then S.L id else none
  ids:=S.ids
  tok:=λk=>bif Zo6 d.tk k then S.tok k else none
  tkeys:=S.tkeys
  gh:=S.gh }
def Zli(d:DOp)(o:Oper)(S S':St):St:=
 {env:=λt=>bif ZeX o t then S'.env t else S.env t
  L:=λid=>bif mem d.ws id then S'.L id else S.L id
  ids:=S.ids
  tok:=λk=>bif Zo6 d.tk k then S'.tok k else S.tok k
  tkeys:=S.tkeys
  gh:=S.gh }
def upd(μ:Nat->Mem)(i:Nat)(m:Mem):Nat->Mem:=λj=>bif Nat.beq j i then m else μ j
def ZmC(μ:Nat->Mem)(M:Mem):List Nat->Prop->Prop
 | [],p=>p
 | j::l,p=>(μ j).le M->ZmC μ M l p
def ZnV(μ:Nat->Mem)(m0:Mem):List Nat->(Mem->Prop)->Prop
 | [],k=>k m0
 | [j],k=>k (μ j)
 | l,k=>∀V:Mem,m0.le V->ZmC μ V l (k V)
abbrev Fx:=Nat->List Value->Mem->Value->Mem->List (List Value)->Prop
def Zp6(E:Env)(ops:Array Oper)(m0:Mem)(f:Fx)(d:DOp)(S:St)(μ:Nat->Mem)(K:St->Mem->Prop):Prop:=match ops.toList[d.i]? with
 | none=>False
 | some o=>ZnV μ m0 d.vw λV=>opG (E.fixed (f d.i)) ops o (ZmX ops d o S) V K
def ZmY(ops:Array Oper)(d:DOp)(S S':St):St:=match ops.toList[d.i]? with
 | none=>S
 | some o=>Zli d o S S'
def Zip(E:Env)(ops:Array Oper)(m0:Mem)(f:Fx)(d:DOp)(S:St)(μ:Nat->Mem)(K:St->(Nat->Mem)->Prop):Prop:=
 Zp6 E ops m0 f d S μ λS' m'=>K (ZmY ops d S S') (upd μ d.i m')
def Zha(E:Env)(ops:Array Oper)(m0:Mem)(f:Fx):List DOp->(St->(Nat->Mem)->Prop)->St->(Nat->Mem)->Prop
 | [],K,S,μ=>K S μ
 | d::r,K,S,μ=>Zip E ops m0 f d S μ (Zha E ops m0 f r K)
def Ztf(ops:Array Oper)(d:DOp):Option Nat:=match ops.toList[d.i]? with
 | none=>none
 | some o=>ZeQ ops o
def Zhb(E:Env)(ops:Array Oper)(m0:Mem)(f:Fx):List DOp->(St->(Nat->Mem)->Prop)->St->(Nat->Mem)->Prop
 | [],K,S,μ=>K S μ
 | d::r,K,S,μ=>match Ztf ops d with
  | none=>Zip E ops m0 f d S μ (Zhb E ops m0 f r K)
  | some t=>match S.env t with
   | some (.v v)=>bif Zcw v then Zip E ops m0 f d S μ (Zhb E ops m0 f r K)else chk (ZeN v) (br (Zb2 v) (Zip E ops m0 f d (S.put (some t) (some (.v (.bool true)))) μ (Zhb E ops m0 f r K)) (Zip E ops m0 f d (S.put (some t) (some (.v (.bool false)))) μ (Zhb E ops m0 f r K)))
   | _=>False
def Ztg(m0:Mem)(μ:Nat->Mem):List Nat->(Mem->Prop)->Prop
 | [],k=>k m0
 | l,k=>∀M:Mem,m0.le M->ZmC μ M l (k M)
def Zhc(ops:Array Oper):List DOp->List Nat
 | []=>[]
 | d::r=>match ops.toList[d.i]? with
  | none=>Zhc ops r
  | some o=>bif Zdf o then d.i::Zhc ops r else Zhc ops r
def Zse:List DOp->List Nat
 | []=>[]
 | d::r=>d.ws++Zse r
def ZrP:List DOp->List Nat
 | []=>[]
 | d::r=>match d.tk with
  | none=>ZrP r
  | some k=>k::ZrP r
def Ziq(ds:List DOp)(S:St):St:={ S with ids:=Zse ds++S.ids,tkeys:=ZrP ds++S.tkeys }
def Zup(a b:List Nat):Bool:=a.all λi=>!mem b i
def Zue(a b:List Nat):Bool:=a.all λi=>mem b i
def Zlj(o:Oper)(l:List Nat):Bool:=match o.dst with
 | none=>true
 | some t=>!mem l t
def Zth(a b:Oper):Bool:=match a.dst with
 | none=>true
 | some t=>!ZeX b t
def ZuA(a b:Option Nat):Bool:=match a with
 | none=>true
 | some k=>!Zo6 b k
def ZnW(ops:Array Oper)(c d:DOp):Bool:=match ops.toList[c.i]?,ops.toList[d.i]? with
 | some oc,some od=>(Zlj oc (od.looksAt ops)&&Zlj od (oc.looksAt ops)&&Zth oc od)&&(Zup c.ws d.rs&&Zup d.ws c.rs&&ZuA c.tk d.tk)&&(!mem d.vw c.i&&!mem c.vw d.i&&!Nat.beq c.i d.i)
 | _,_=>false
def Za3(o:Oper):List Nat:=(o.after.toList.filter (Region.binds .any ·)).map (·.on)
def ZtQ:List DOp->Nat->List Nat
 | [],_=>[]
 | d::r,i=>bif Nat.beq d.i i then d.an else ZtQ r i
def Zti(E:Env)(ops:Array Oper)(d:DOp)(before:List DOp):Bool:=match ops.toList[d.i]? with
 | none=>false
 | some o=>(Zq6 E d.rs d.tk o&&Zue (Zlh d.rs o) d.ws&&Zue d.ws d.rs)&&(Zue d.vw d.an&&Zue (Za3 o) (before.map (·.i))) &&
   (d.an.all λj=>mem (Za3 o) j||(Za3 o).any λp=>mem (ZtQ before p) j)&&(before.all λc=>mem d.an c.i||ZnW ops c d)&&(before.all λc=>!Nat.beq c.i d.i)
def Zhg(E:Env)(ops:Array Oper):List DOp->List DOp->Bool
 | [],_=>true
 | d::r,before=>Zti E ops d before&&Zhg E ops r (d::before)
def Zsf(E:Env)(ops:Array Oper)(ds:List DOp)(n:Nat):Bool:=(List.range n).all (λi=>ds.any λd=>Nat.beq d.i i)&&Nat.ble ds.length ops.size&&Zhg E ops ds []&&E.fix.isNone
def Zqi:List Oper->Bool
 | []=>false
 | o::l=>(match o.op with
  | .call c=>(match c.callee with
   | .value _=>true
   | _=>false)
  | _=>false)||Zqi l
def ZuU:Fx:=λ_ _ _ _ _ _=>True
def exF(b:Bool)(p:Fx->Prop):Prop:=match b with
 | true=>∃f,p f
 | false=>p ZuU
theorem Zq7{b:Bool}{p:Fx->Prop}(h:exF b p):∃f,p f:=by
 cases b
 ·exact⟨_,h⟩
 ·exact h
theorem Zq8{b:Bool}{p q:Fx->Prop}(h:∀f,p f->q f)(x:exF b p):exF b q:=by
 cases b
 ·exact h _ x
 ·obtain⟨f,x⟩:=x;exact⟨f,h f x⟩
def Zsg(ops:Array Oper)(ds:List DOp)(k:Nat):Bool:=(Nat.ble k ops.size&&(List.range k).all λj=>match ops.toList[ops.size - k+j]? with
 | none=>false
 | some o=>(List.range j).all (λi=>mem (Za3 o) (ops.size - k+i))&&((Za3 o).all (λi=>Nat.ble (i+1) (ops.size - k+j))&&(bif Nat.beq j 0 then(List.range (ops.size - k)).all (λi=>mem (Za3 o) i||(Za3 o).any λp=>mem (ZtQ ds p) i)else true)))&&ds.all λd=>Nat.ble (d.i+1) (ops.size - k)
def ZhM(E:Env)(ops:Array Oper)(K:St->Mem->Prop):List Oper->St->Mem->Prop
 | [],S,m=>K S m
 | o::r,S,m=>Zts E ops o S m (ZhM E ops K r)
def Zo7(E:Env)(ops:Array Oper)(k:Nat)(K:St->Mem->Prop)(S:St)(m:Mem):Prop:=ZhM E ops K (ops.toList.drop (ops.size - k)) S m
def Zqj(E:Env)(S:St)(ids:List Nat)(T:TypeId)(x:Operand)(k:Value->Prop):Prop:=match E.tt T with
 | none=>False
 | some i=>match S.ev x with
  | some (.loc id off)=>match S.L id with
   | none=>False
   | some bx=>chk (!mem ids id) (Zb6 i bx off k)
  | some (.v v)=>match E.m0 with
   | none=>False
   | some m0=>chk (Zds v&&(Zeg E x).isNone) (Zct i m0 (ZkL v) (Zkz v) k)
  | _=>False
def Zj4(E:Env)(S:St)(ids:List Nat):List Oper->St->(St->Prop)->Prop
 | [],S1,k=>k S1
 | o::r,S1,k=>match o.op with
  | .load T x=>Zqj E S ids T x λv=>Zj4 E S ids r (S1.put o.dst (some (.v v))) k
  | _=>False
def Zo8{α:Type}:List α->Bool
 | []=>true
 | _=>false
def Zlk(l:List Nat):Operand->Bool
 | .tmp t=>!mem l t
 | _=>true
def ZtR:Operand->Bool
 | .func _=>true
 | _=>false
def Zqk(E:Env)(ops:Array Oper)(o:Oper):Bool:=o.guard.isNone&&(Zo8 (Za3 o)&&(match o.op with
 | .load _ x=>(ZnL E o.dst).isNone&&(o.dst.isSome&&Zlk (Zao ops.toList) x)
 | _=>false))
def Zll(E:Env)(ops:Array Oper)(c:Nat)(lds:List Oper)(o:Oper):Bool:=o.guard.isNone&&(match o.op with
 | .call q=>(match q.callee with
  | .value f=>(ZdP E o.dst).isSome&&((Zo8 (Zde E o.dst)&&!ZnM E o.dst)&&(o.dst.isSome&&(Zlj o (Zao lds)&&(ZtR f &&
    ((List.range c).all λj=>mem (Za3 o) j||match ops.toList[j]? with
     | none=>false
     | some oj=>match oj.dst with
      | none=>false
      | some t=>q.args.toList.all (Zlk [t]))))))&&(Za3 o).all λj=>Nat.ble (j+1) c
  | _=>false)
 | _=>false)
def Ztj(E:Env)(ops:Array Oper)(k:Nat):Bool:=
 (Nat.ble k ops.size&&(Nat.ble 1 k&&E.thaw))&&((ops.toList.take (ops.size - k)).all (Zqk E ops)&&(ZaU (Zao (ops.toList.take (ops.size - k))) &&
  ((match ops.toList[ops.size - k]? with
   | none=>false
   | some o=>Zll E ops (ops.size - k) (ops.toList.take (ops.size - k)) o) &&
  (List.range k).all λj=>bif Nat.beq j 0 then true else match ops.toList[ops.size - k+j]?,ops.toList[ops.size - k]? with
   | some o,some oc=>(List.range j).all (λi=>mem (Za3 o) (ops.size - k+i))&&((Za3 o).all (λi=>Nat.ble (i+1) (ops.size - k+j)) &&
     (bif Nat.beq j 1 then(List.range (ops.size - k)).all (λi=>mem (Za3 o) i||mem (Za3 oc) i)else true))
   | _,_=>false)))
def ZtS(E:Env)(id:Nat)(ops:Array Oper)(K:St->Mem->Prop)(S:St)(m:Mem):Prop:=
 chk (E.last id&&Ztj E ops (E.lastK id)) (match ops.toList.drop (ops.size - E.lastK id)with
  | []=>False
  | o::r=>match o.op with
   | .call q=>Zj4 E S (ZcV E o.dst) (ops.toList.take (ops.size - E.lastK id)) S λS1=>chk (Zo8 (Zcv S1 q.args.toList)) (opG E ops o S1 m (ZhM E ops K r))
   | _=>False)
def Zir(E:Env)(id:Nat)(ops:Array Oper)(K:St->Mem->Prop)(S:St)(m:Mem):Prop:=
 bif E.hot id then ZtS E id ops K S m else
 chk (Zsf E ops (E.dr id) (bif E.last id then ops.size - E.lastK id else ops.size)&&(bif E.last id then Zsg ops (E.dr id) (E.lastK id)else true)) (exF (Zqi ops.toList) λf=>bif E.gb then Zhb E ops m f (E.dr id) (λS' μ=>Ztg m μ (Zhc ops (E.dr id)) λM=>bif E.last id then Zo7 E ops (E.lastK id) K S' M else K S' M) (Ziq (E.dr id) S) (λ_=>m)else Zha E ops m f (E.dr id) (λS' μ=>Ztg m μ (Zhc ops (E.dr id)) λM=>bif E.last id then Zo7 E ops (E.lastK id) K S' M else K S' M) (Ziq (E.dr id) S) (λ_=>m))
def Zuf(S:St)(y:Option SV):Option SV:=match y with
 | some (.loc i off)=>(match S.L i with
  | some x=>some (.v (.pointer (some ⟨x.b,off,none⟩)))
  | none=>none)
 | y=>y
def ptrS(S:St)(ts:List Nat):St:={ S with env:=λt=>bif mem ts t then Zuf S (S.env t)else S.env t }
def Zhh(S S':St):List Nat->Prop->Prop
 | [],p=>p
 | t::l,p=>match S.env t with
  | some (.loc i _)=>S'.L i=S.L i/\Zhh S S' l p
  | some (.v _)=>Zhh S S' l p
  | _=>False
def Zsh(S S':St)(ts:List Nat):St:={ S' with env:=λt=>bif mem ts t then S.env t else S'.env t }
def ZtT(ts ds:List Nat)(f:(St->Mem->Prop)->St->Mem->Prop)(K:St->Mem->Prop)(S:St)(m:Mem):Prop:=match ts with
 | []=>f K S m
 | _::_=>chk (Zup ts ds) (f (λS' m'=>Zhh S S' ts (K (Zsh S S' ts) m')) (ptrS S ts) m)
def ZaP(E:Env)(id:Nat)(ops:Array Oper)(K:St->Mem->Prop)(S:St)(m:Mem):Prop:=ZrW E (some (1000000+id)) S m λS m=>Zr3 E (bif E.last id then E.acq id else none) (ZtT (E.ptrAt id) (Zao ops.toList) (Zir E id ops)) K S m
theorem ZgU{μ:Nat->Mem}{M:Mem}{p q:Prop}(h:p->q):∀{l:List Nat},ZmC μ M l p->ZmC μ M l q
 | [],x=>h x
 | j::l,x=>λy=>ZgU h (x y)
theorem ZgV{μ:Nat->Mem}{M:Mem}{p:Prop}:∀{l:List Nat},ZmC μ M l p->(∀j∈l,(μ j).le M)->p
 | [],x,_=>x
 | j::l,x,h=>ZgV (x (h j (by simp))) (λi hi=>h i (by simp[hi]))
theorem ZmZ{μ:Nat->Mem}{m0:Mem}{k k':Mem->Prop}(h:∀V,k V->k' V):∀{l:List Nat},ZnV μ m0 l k->ZnV μ m0 l k'
 | [],x=>h _ x
 | [j],x=>h _ x
 | i::j::l,x=>λV hV=>ZgU (h V) (x V hV)
theorem Zm0{μ:Nat->Mem}{m0 A:Mem}{l:List Nat}(h0:m0.le A)(hl:∀j∈l,(μ j).le A):∃V:Mem,V.le A/\∀k:Mem->Prop,ZnV μ m0 l k->k V:=by
 match l with
 | []=>exact⟨m0,h0,λk x=>x⟩
 | [j]=>exact⟨μ j,hl j (by simp),λk x=>x⟩
 | i::j::l=>exact⟨A,Mem.le_refl A,λk x=>ZgV (x A h0) hl⟩
theorem Zo9{μ:Nat->Mem}{m0:Mem}{i:Nat}{m:Mem}{l:List Nat}(h:i ∉ l)(k:Mem->Prop):ZnV (upd μ i m) m0 l k=ZnV μ m0 l k:=by
 have one:∀{j},j∈l->upd μ i m j=μ j:=λ{j} hj=>by
  have:j≠i:=λe=>h (e ▸ hj)
  simp[upd,Zam this]
 have all:∀{l':List Nat},(∀j∈l',j∈l)->∀(M:Mem)(p:Prop),ZmC (upd μ i m) M l' p=ZmC μ M l' p:=by
  intro l'
  induction l' with
  | nil=>intro _ M p;rfl
  | cons j l' ih=>
   intro hs M p
   simp only[ZmC]
   rw[one (hs j (by simp)),ih (λx hx=>hs x (by simp[hx]))]
 match l with
 | []=>rfl
 | [j]=>simp only[ZnV];rw[one (by simp)]
 | a::b::l=>
  simp only[ZnV]
  exact propext ⟨λx V hV=>by have:=x V hV;rwa [all (λj hj=>hj)]at this,λx V hV=>by rw[all (λj hj=>hj)];exact x V hV⟩
theorem Zpa{m0:Mem}{μ:Nat->Mem}{l:List Nat}{k:Mem->Prop}{A:Mem}(h:Ztg m0 μ l k)(h0:m0.le A)(he:l=[]->A=m0)(hl:∀j∈l,(μ j).le A):k A:=by
 match l with
 | []=>rw[he rfl];exact h
 | i::l=>exact ZgV (h A h0) hl
theorem Zlm{m0:Mem}{μ:Nat->Mem}{l:List Nat}{k k':Mem->Prop}(h:∀M:Mem,m0.le M->k M->k' M)(x:Ztg m0 μ l k):Ztg m0 μ l k':=by
 match l with
 | []=>exact h _ (Mem.le_refl _) x
 | i::l=>exact λM hM=>ZgU (h M hM) (x M hM)
theorem ZdT{E:Env}{ops:Array Oper}{m0:Mem}{f:Fx}{d:DOp}{S:St}{μ:Nat->Mem}{K K':St->Mem->Prop}(h:∀S' m',K S' m'->K' S' m')(hx:Zp6 E ops m0 f d S μ K):Zp6 E ops m0 f d S μ K':=by
 unfold Zp6 at *
 split at hx
 ·exact hx.elim
 ·exact ZmZ (λV y=>Zfs (th:=true) (.inl rfl) (λS' m' _ _=>h S' m') y) hx
theorem Zjm{E:Env}{ops:Array Oper}{m0:Mem}{f:Fx}:∀{r:List DOp} {K K':St->(Nat->Mem)->Prop} {S:St} {μ:Nat->Mem},(∀S' μ',SameOut (Zao ops.toList) S S'->K S' μ'->K' S' μ')->Zha E ops m0 f r K S μ->Zha E ops m0 f r K' S μ
 | [],K,K',S,μ,h,hx=>h _ _ (SameOut.refl _ S) hx
 | d::r,K,K',S,μ,h,hx=>by
  refine ZdT (λS' m' y=>Zjm (λS'' μ'' hs y=>h _ _ (SameOut.trans ?_ hs) y) y) hx
  intro t ht
  unfold ZmY
  cases ho:ops.toList[d.i]? with
  | none=>rfl
  | some o=>
   have:ZeX o t=false:=by
    cases hd:ZeX o t with
    | false=>rfl
    | true=>exact absurd (ZaO ho (Zbo.1 hd)) ht
   simp[Zli,this]
theorem Zpb{ops:Array Oper}{d:DOp}{S S':St}:SameOut (Zao ops.toList) S (ZmY ops d S S'):=by
 intro t ht
 unfold ZmY
 cases ho:ops.toList[d.i]? with
 | none=>rfl
 | some o=>
  have:ZeX o t=false:=by
   cases hd:ZeX o t with
   | false=>rfl
   | true=>exact absurd (ZaO ho (Zbo.1 hd)) ht
  simp[Zli,this]
theorem Zpc{ops:Array Oper}{d:DOp}{t:Nat}(h:Ztf ops d=some t):t∈Zao ops.toList:=by
 unfold Ztf ZeQ at h
 split at h
 ·cases h
 ·split at h
  ·cases h
  ·split at h
   ·cases h
   ·rename_i oj hj
    exact ZaO hj h
theorem Zjn{E:Env}{ops:Array Oper}{m0:Mem}{f:Fx}:∀{r:List DOp} {K K':St->(Nat->Mem)->Prop} {S:St} {μ:Nat->Mem},(∀S' μ',SameOut (Zao ops.toList) S S'->K S' μ'->K' S' μ')->Zhb E ops m0 f r K S μ->Zhb E ops m0 f r K' S μ
 | [],K,K',S,μ,h,hx=>h _ _ (SameOut.refl _ S) hx
 | d::r,K,K',S,μ,h,hx=>by
  have step:∀{S1:St},SameOut (Zao ops.toList) S S1->Zip E ops m0 f d S1 μ (Zhb E ops m0 f r K)->Zip E ops m0 f d S1 μ (Zhb E ops m0 f r K'):=λhs y=>
   ZdT (λS' m' y=>Zjn (λS'' μ'' eU y=>h _ _ (SameOut.trans (SameOut.trans hs Zpb) eU) y) y) y
  unfold Zhb at hx ⊢
  split at hx
  ·exact step (SameOut.refl _ S) hx
  ·rename_i t ht
   have ig:∀x,SameOut (Zao ops.toList) S (S.put (some t) x):=λx=>(SameOut.refl _ S).put (λt' e=>by cases e;exact Zpc ht) x
   split at hx
   ·rename_i v hv
    cases hu:Zcw v with
    | true=>simp only[hu,cond_true]at hx ⊢;exact step (SameOut.refl _ S) hx
    | false=>
     simp only[hu,cond_false]at hx ⊢
     refine Zae (λy=>?_) hx
     cases hb:Zb2 v with
     | true=>rw[hb]at y;exact step (ig _) y
     | false=>rw[hb]at y;exact step (ig _) y
   ·exact hx.elim
theorem ZnX{S:St}{t:Nat}{x:SV}(h:S.env t=some x):S.put (some t) (some x)=S:=by
 cases S with
 | mk env L ids tok tkeys gh=>
  simp only[St.put]
  congr 1
  funext i
  by_cases e:i=t
  ·subst e;simp at h ⊢;exact h.symm
  ·simp[Zam e]
theorem ZhN{E:Env}{ops:Array Oper}{m0:Mem}{f:Fx}:∀{r:List DOp} {K:St->(Nat->Mem)->Prop} {S:St} {μ:Nat->Mem},Zhb E ops m0 f r K S μ->Zha E ops m0 f r K S μ
 | [],K,S,μ,hx=>hx
 | d::r,K,S,μ,hx=>by
  have step:∀{S1:St},Zip E ops m0 f d S1 μ (Zhb E ops m0 f r K)->Zip E ops m0 f d S1 μ (Zha E ops m0 f r K):=λy=>ZdT (λS' m' y=>ZhN y) y
  unfold Zhb at hx
  show Zip E ops m0 f d S μ (Zha E ops m0 f r K)
  split at hx
  ·exact step hx
  ·split at hx
   ·rename_i v hv
    cases hu:Zcw v with
    | true=>simp only[hu,cond_true]at hx;exact step hx
    | false=>
     simp only[hu,cond_false]at hx
     obtain⟨h1,h2⟩:=Zad hx
     have he:=Zby h1
     cases hb:Zb2 v with
     | true=>
      rw[hb]at he h2
      subst he
      have h3:Zip E ops m0 f d (S.put (some _) (some (.v (.bool true)))) μ (Zhb E ops m0 f r K):=h2
      rw[ZnX hv]at h3;exact step h3
     | false=>
      rw[hb]at he h2
      subst he
      have h3:Zip E ops m0 f d (S.put (some _) (some (.v (.bool false)))) μ (Zhb E ops m0 f r K):=h2
      rw[ZnX hv]at h3;exact step h3
   ·exact hx.elim
theorem Zjo{E:Env}{id:Nat}{ops:Array Oper}{K K':St->Mem->Prop}{S:St}{m:Mem}(h:∀S' m',SameOut (Zao ops.toList) S S'->leD E id m m'->K S' m'->K' S' m'){S':St}{M:Mem}(hs:SameOut (Zao ops.toList) S S')(hM:m.le M)(y:bif E.last id then Zo7 E ops (E.lastK id) K S' M else K S' M):bif E.last id then Zo7 E ops (E.lastK id) K' S' M else K' S' M:=by
 cases hl:E.last id with
 | false=>
  rw[hl]at y
  exact h _ _ hs (by unfold leD;rw[hl];exact hM) y
 | true=>
  rw[hl]at y
  simp only[cond_true]at y ⊢
  unfold Zo7 at y ⊢
  have key:∀(r:List Oper),(∀o∈r,o∈ops.toList)->∀(S':St)(M:Mem),SameOut (Zao ops.toList) S S'->leT E.thaw m M->ZhM E ops K r S' M->ZhM E ops K' r S' M:=by
   intro r
   induction r with
   | nil=>exact λ_ S' M hs hM y=>h _ _ hs (by unfold leD;rw[hl];exact hM) y
   | cons o r ih=>
    intro hr S' M hs hM y
    simp only[ZhM]at y ⊢
    obtain⟨i,ho⟩:=List.getElem?_of_mem (hr o (by simp))
    exact Zil (λt ht=>ZaO ho ht) (λS2 m2 eU bN y=>ih (λo ho=>hr o (by simp[ho])) _ _ (hs.trans eU) (leT.trans hM bN) y) y
  exact key _ (λo ho=>List.mem_of_mem_drop ho) _ _ hs (.of hM) y
theorem Zjp{E:Env}{ops:Array Oper}{K K':St->Mem->Prop}{S:St}{m:Mem}(h:∀S' m',SameOut (Zao ops.toList) S S'->leT E.thaw m m'->K S' m'->K' S' m'):∀(r:List Oper),(∀o∈r,o∈ops.toList)->∀(S':St)(M:Mem),SameOut (Zao ops.toList) S S'->leT E.thaw m M->ZhM E ops K r S' M->ZhM E ops K' r S' M
 | [],_,S',M,hs,hM,y=>h _ _ hs hM y
 | o::r,hr,S',M,hs,hM,y=>by
  simp only[ZhM]at y ⊢
  obtain⟨i,ho⟩:=List.getElem?_of_mem (hr o (by simp))
  exact Zil (λt ht=>ZaO ho ht) (λS2 m2 eU bN y=>Zjp h r (λo ho=>hr o (by simp[ho])) _ _ (hs.trans eU) (leT.trans hM bN) y) y
theorem Zm1{E:Env}{S:St}{ids:List Nat}{T:TypeId}{x:Operand}{k k':Value->Prop}(h:∀v,k v->k' v)(hx:Zqj E S ids T x k):Zqj E S ids T x k':=by
 unfold Zqj at *
 split at hx
 ·exact hx
 ·split at hx
  ·split at hx
   ·exact hx
   ·exact Zae (Zc2 h) hx
  ·split at hx
   ·exact hx
   ·exact Zae (Zf8 h) hx
  ·exact hx
theorem ZhO{E:Env}{S:St}{ids:List Nat}{D:List Nat}:∀{r:List Oper} {S1:St} {k k':St->Prop},(∀o∈r,∀t,o.dst=some t->t∈D)->(∀S',SameOut D S1 S'->k S'->k' S')->Zj4 E S ids r S1 k->Zj4 E S ids r S1 k'
 | [],S1,k,k',_,h,hx=>h _ (SameOut.refl _ S1) hx
 | o::r,S1,k,k',hd,h,hx=>by
  unfold Zj4 at *
  split at hx
  ·refine Zm1 (λv y=>ZhO (λo ho=>hd o (by simp[ho])) (λS' hs y=>h _ (SameOut.trans ?_ hs) y) y) hx
   exact(SameOut.refl _ S1).put (λt e=>hd o (by simp) t e) _
  ·exact hx
theorem Zsi{E:Env}{id:Nat}{ops:Array Oper}{K K':St->Mem->Prop}{S:St}{m:Mem}(h:∀S' m',SameOut (Zao ops.toList) S S'->leD E id m m'->K S' m'->K' S' m')(hx:ZtS E id ops K S m):ZtS E id ops K' S m:=by
 unfold ZtS at *
 obtain⟨h1,h2⟩:=Zad hx
 refine Zaa h1 ?_
 simp only[zA7]at h1
 have ie:E.thaw=true:=by
  have:=h1.2
  simp only[Ztj,zA7]at this
  exact this.1.2.2
 split at h2
 ·exact h2
 ·rename_i o r nm
  split at h2
  ·rename_i q hq
   have cD:∀o'∈ops.toList.drop (ops.size - E.lastK id),o'∈ops.toList:=λo' ho'=>List.mem_of_mem_drop ho'
   rw[nm]at cD
   have inD:∀o'∈ops.toList,∀t,o'.dst=some t->t∈Zao ops.toList:=λo' ho' t ht=>by
    obtain⟨i,hi⟩:=List.getElem?_of_mem ho'
    exact ZaO hi ht
   refine ZhO (D:=Zao ops.toList) (λo' ho' t ht=>inD o' (List.mem_of_mem_take ho') t ht) (λS1 hs y=>Zae (λy=>?_) y) h2
   refine Zfs (th:=true) (.inl rfl) (λS2 m2 eU _ y=>?_) y
   refine Zjp (S:=S) (m:=m) (λS3 m3 t8 _ y=>h _ _ t8 (by unfold leD;rw[h1.1,ie];trivial) y) r (λo' ho'=>cD o' (by simp[ho'])) _ _ (hs.trans ?_) (by rw[ie];trivial) y
   exact eU.mono λt ht=>by
    cases hd:o.dst with
    | none=>simp[hd,dl]at ht
    | some d=>simp[hd,dl]at ht;subst ht;exact inD o (cD o (by simp)) _ hd
  ·exact h2
theorem Zis(E:Env):Zdt E (Zir E):=by
 intro id ops K K' S m h hx
 unfold Zir at *
 cases hh:E.hot id with
 | true=>simp only[hh,cond_true]at hx ⊢;exact Zsi h hx
 | false=>
 simp only[hh,cond_false]at hx ⊢
 refine Zae (λy=>?_) hx
 refine Zq8 (λf y=>?_) y
 cases nX:E.gb with
 | false=>
  simp only[nX,cond_false]at y ⊢
  exact Zjm (λS' μ hs y=>Zlm (λM hM y=>Zjo h hs hM y) y) y
 | true=>
  simp only[nX,cond_true]at y ⊢
  exact Zjn (λS' μ hs y=>Zlm (λM hM y=>Zjo h hs hM y) y) y
theorem Zfv{S S':St}{p q:Prop}(h:p->q):∀{l:List Nat},Zhh S S' l p->Zhh S S' l q
 | [],x=>h x
 | t::l,x=>by
  unfold Zhh at *
  split at x
  ·exact⟨x.1,Zfv h x.2⟩
  ·exact Zfv h x
  ·exact x
theorem Zfw{S S':St}{p:Prop}:∀{l:List Nat},Zhh S S' l p->p/\∀t∈l,(∃i off,S.env t=some (.loc i off)/\S'.L i=S.L i)\/∃v,S.env t=some (.v v)
 | [],x=>⟨x,by simp⟩
 | t::l,x=>by
  unfold Zhh at x
  split at x
  ·rename_i i off he
   obtain⟨h1,h2⟩:=Zfw x.2
   refine⟨h1,λt' ht=>?_⟩
   rcases List.mem_cons.1 ht with rfl|ht
   ·exact .inl ⟨i,off,he,x.1⟩
   ·exact h2 t' ht
  ·rename_i v he
   obtain⟨h1,h2⟩:=Zfw x
   refine⟨h1,λt' ht=>?_⟩
   rcases List.mem_cons.1 ht with rfl|ht
   ·exact .inr ⟨v,he⟩
   ·exact h2 t' ht
  ·exact x.elim
theorem Zpd{S S':St}{ts ds:List Nat}(h:SameOut ds (ptrS S ts) S'):SameOut ds S (Zsh S S' ts):=by
 intro t ht
 show(bif mem ts t then S.env t else S'.env t)=_
 cases hm:mem ts t with
 | true=>rfl
 | false=>
  rw[cond_false,h t ht]
  show(bif mem ts t then _ else S.env t)=_
  rw[hm];rfl
theorem ZnY{E:Env}{id:Nat}{ops:Array Oper}{ts:List Nat}{K K':St->Mem->Prop}{S:St}{m:Mem}(h:∀S' m',SameOut (Zao ops.toList) S S'->leD E id m m'->K S' m'->K' S' m')
  (y:ZtT ts (Zao ops.toList) (Zir E id ops) K S m):ZtT ts (Zao ops.toList) (Zir E id ops) K' S m:=by
 unfold ZtT at *
 split at y
 ·exact Zis E id ops K K' S m h y
 ·exact Zae (λy=>Zis E id ops _ _ _ m (λS' m' hs hl y=>Zfv (λy=>h _ m' (Zpd hs) hl y) y) y) y
theorem Zit(E:Env):Zdt E (ZaP E):=by
 intro id ops K K' S m h hx
 refine Zie (λS1 m1 he hm y=>?_) hx
 have up:∀{m'},leD E id m1 m'->leD E id m m':=λhl=>by
  unfold leD at hl ⊢
  cases hl':E.last id with
  | true=>rw[hl']at hl;exact leT.trans (.of hm) hl
  | false=>rw[hl']at hl;exact mLt hm hl
 cases hl:E.last id with
 | false=>
  simp only[hl,cond_false,Zr3]at y ⊢
  exact ZnY (λS' m' hs hl y=>h S' m' ((ZcM he).trans hs) (up hl) y) y
 | true=>
  simp only[hl,cond_true]at y ⊢
  unfold Zr3 at *
  split at y
  ·exact ZnY (λS' m' hs hl y=>h S' m' ((ZcM he).trans hs) (up hl) y) y
  ·obtain⟨y1,y2⟩:=Zad y
   refine Zaa y1 ?_
   simp only[zA7]at y1
   split at y2
   ·exact y2
   ·obtain⟨a,n,c,z1,z2,z3⟩:=y2
    refine⟨a,n,c,z1,z2,ZnY (λS' m' hs _ z=>?_) z3⟩
    split at z
    ·exact z
    ·exact Zae (λz zs hz=>h _ _ ((ZcM he).trans (λt ht=>hs t ht)) (by unfold leD;rw[hl,y1.1];trivial) (z zs hz)) z
theorem St.ext'{a b:St}(h1:a.env=b.env)(h2:a.L=b.L)(h3:a.ids=b.ids)(h4:a.tok=b.tok)(h5:a.tkeys=b.tkeys)(h6:a.gh=b.gh):a=b:=by
 cases a;cases b;simp at *;exact⟨h1,h2,h3,h4,h5,h6⟩
structure Ind (ops:Array Oper)(c d:DOp)(oc od:Oper):Prop where
 hc:ops.toList[c.i]?=some oc
 hd:ops.toList[d.i]?=some od
 cd:∀t,ZeX oc t=true->mem (od.looksAt ops) t=false
 dc:∀t,ZeX od t=true->mem (oc.looksAt ops) t=false
 ne:∀t,ZeX oc t=true->ZeX od t=false
 lcd:∀id,mem c.ws id=true->mem d.rs id=false
 ldc:∀id,mem d.ws id=true->mem c.rs id=false
 tk:∀k,Zo6 c.tk k=true->Zo6 d.tk k=false
 vcd:c.i ∉ d.vw
 vdc:d.i ∉ c.vw
 i:c.i≠d.i
theorem Zln{a b:List Nat}(h:Zup a b=true):∀i,mem a i=true->mem b i=false:=λi hi=>by
 have:=List.all_eq_true.1 h i (ZaN.1 hi)
 simpa using this
theorem Zge{a b:List Nat}(h:Zue a b=true):∀i,i∈a->i∈b:=λi hi=>ZaN.1 (List.all_eq_true.1 h i hi)
theorem ZhP{o:Oper}{l:List Nat}(h:Zlj o l=true):∀t,ZeX o t=true->mem l t=false:=λt ht=>by
 have:=Zbo.1 ht
 simpa[Zlj,this]using h
theorem Zm2{a b:Oper}(h:Zth a b=true):∀t,ZeX a t=true->ZeX b t=false:=λt ht=>by
 have:=Zbo.1 ht
 simpa[Zth,this]using h
theorem Zpe{a b:Option Nat}(h:ZuA a b=true):∀t,Zo6 a t=true->Zo6 b t=false:=λt ht=>by
 have:=Zbo.1 ht
 simpa[ZuA,this]using h
theorem Zjq{ops:Array Oper}{c d:DOp}(h:ZnW ops c d=true):∃oc od,Ind ops c d oc od:=by
 unfold ZnW at h
 split at h
 ·rename_i oc od hc hd
  simp only[zA7,Bool.not_eq_true']at h
  obtain⟨⟨⟨⟨h1,h2⟩,h3⟩,⟨h4,h5⟩,h6⟩,⟨h7,h8⟩,h9⟩:=h
  refine⟨oc,od,hc,hd,ZhP h1,ZhP h2,Zm2 h3,Zln h4,Zln h5,Zpe h6,?_,?_,?_⟩
  ·intro hm;rw[ZaN.2 hm]at h7;cases h7
  ·intro hm;rw[ZaN.2 hm]at h8;cases h8
  ·intro e;rw[e,ZbO]at h9;cases h9
 ·cases h
theorem Ind.symm'{ops:Array Oper}{c d:DOp}{oc od:Oper}(h:Ind ops c d oc od):Ind ops d c od oc:=by
 refine⟨h.hd,h.hc,h.dc,h.cd,?_,h.ldc,h.lcd,?_,h.vdc,h.vcd,h.i.symm⟩
 ·intro t ht
  cases hh:ZeX oc t with
  | false=>rfl
  | true=>rw[h.ne t hh]at ht;cases ht
 ·intro k hk
  cases hh:Zo6 c.tk k with
  | false=>rfl
  | true=>rw[h.tk k hh]at hk;cases hk
section
variable {E:Env} {ops:Array Oper} {m0:Mem} {f:Fx} {c d:DOp} {oc od:Oper}
theorem Zq9(h:Ind ops c d oc od)(S S':St):ZmX ops d od (Zli c oc S S')=ZmX ops d od S:=by
 refine St.ext' (funext λt=>?_) (funext λid=>?_) rfl (funext λk=>?_) rfl rfl
 ·simp only[ZmX,Zli]
  cases ht:ZeX oc t with
  | true=>simp[h.cd t ht]
  | false=>simp
 ·simp only[ZmX,Zli]
  cases ht:mem c.ws id with
  | true=>simp[h.lcd id ht]
  | false=>simp
 ·simp only[ZmX,Zli]
  cases ht:Zo6 c.tk k with
  | true=>simp[h.tk k ht]
  | false=>simp
theorem Zra(h:Ind ops c d oc od)(hw:∀id,id∈d.ws->id∈d.rs)(S Sc Sd:St):Zli c oc (Zli d od S Sd) Sc=Zli d od (Zli c oc S Sc) Sd:=by
 refine St.ext' (funext λt=>?_) (funext λid=>?_) rfl (funext λk=>?_) rfl rfl
 ·simp only[Zli]
  cases ht:ZeX oc t with
  | true=>simp[h.ne t ht]
  | false=>simp
 ·simp only[Zli]
  cases ht:mem c.ws id with
  | true=>
   have:mem d.ws id=false:=by
    cases hh:mem d.ws id with
    | false=>rfl
    | true=>
     have h1:=h.lcd id ht
     rw[ZaN.2 (hw id (ZaN.1 hh))]at h1;cases h1
   simp[this]
  | false=>simp
 ·simp only[Zli]
  cases ht:Zo6 c.tk k with
  | true=>simp[h.tk k ht]
  | false=>simp
theorem Zrb{μ:Nat->Mem}{i j:Nat}(h:i≠j)(a b:Mem):upd (upd μ i a) j b=upd (upd μ j b) i a:=by
 funext k
 simp only[upd]
 by_cases hk:k=j
 ·subst hk;simp[Zam (Ne.symm h)]
 ·simp[Zam hk]
theorem ZgW(h:Ind ops c d oc od)(S S':St)(μ:Nat->Mem)(m':Mem)(K:St->Mem->Prop):Zp6 E ops m0 f d (ZmY ops c S S') (upd μ c.i m') K=Zp6 E ops m0 f d S μ K:=by
 unfold Zp6 ZmY
 simp only[h.hd,h.hc,Zq9 h,Zo9 h.vcd]
theorem Zlo(S:St)(μ:Nat->Mem)(K:St->(Nat->Mem)->Prop):Zip E ops m0 f d S μ K=Zp6 E ops m0 f d S μ λS' m'=>K (ZmY ops d S S') (upd μ d.i m'):=rfl
def ZuL(E:Env)(ops:Array Oper)(m0:Mem)(f:Fx)(d:DOp)(S:St)(μ:Nat->Mem)(S':St)(m':Mem):Prop:=∀K:St->Mem->Prop,Zp6 E ops m0 f d S μ K->K S' m'
theorem ZnZ{K:St->(Nat->Mem)->Prop}{S':St}{m':Mem}(hw:∀id,id∈d.ws->id∈d.rs):∀{r1 r2:List DOp} {S:St} {μ:Nat->Mem},(∀c∈r1,ZnW ops c d=true)->Zha E ops m0 f (r1++d::r2) K S μ->ZuL E ops m0 f d S μ S' m'->
  Zha E ops m0 f (r1++r2) K (ZmY ops d S S') (upd μ d.i m')
 | [],r2,S,μ,_,h,ho=>ho _ h
 | c::r1,r2,S,μ,hi,h,ho=>by
  obtain⟨oc,od,fZ⟩:=Zjq (hi c (by simp))
  simp only[List.cons_append,Zha,Zlo]at h ⊢
  rw[ZgW fZ.symm']
  refine ZdT (λSc mc y=>?_) h
  have ih:=ZnZ (S':=S') (m':=m') hw (r1:=r1) (r2:=r2) (λc hc=>hi c (by simp[hc])) y (λK hK=>by rw[ZgW fZ]at hK;exact ho K hK)
  rw[Zrb fZ.i]at ih
  have e:ZmY ops c (ZmY ops d S S') Sc=ZmY ops d (ZmY ops c S Sc) S':=by
   simp only[ZmY,fZ.hc,fZ.hd]
   exact Zra fZ hw S Sc S'
  rw[e];exact ih
end
theorem Zm3{F:Fence}(hF:FOk F){n:Nat}{P:Program}{o:Oper}{a:Act}{w:World}{p:Prop}(h:o.wpIn F n P a w (λ_ _=>p) (λ_ _ _=>p)):p:=by
 have cB:∀k,F.room k:=λk d hd=>by rw[hF.depth]at hd;cases hd
 have h:=h.2
 generalize (o.semAt F.round a.eval).run P w=r at h
 cases r with
 | ok x w'=>
  cases x <;> simp only[Oper.uponIn]at h
  all_goals first
   | exact h
   | exact h.elim
   | (obtain⟨e,w'',fr,h,_⟩:=h.2.2 [] (cB _)
      cases e <;> first
       | exact h
       | (obtain⟨_,_,h⟩:=h;exact h))
   | (obtain⟨v,w'',h,_⟩:=h.2 default [] (cB _)
      exact h)
   | (obtain⟨e,w'',h,_⟩:=h.2.2 default [] (cB _)
      cases e <;> first
       | exact h
       | (obtain⟨_,_,h⟩:=h;exact h))
 | halt x w'=>
  cases x <;> simp only[Oper.uponIn]at h
  all_goals first
   | exact h
   | exact h.elim
theorem Zpf{a b:St}(h:∀id,a.L id=b.L id)(sv:SV):a.den sv=b.den sv:=by
 cases sv <;> simp only[St.den,h]
section
variable {C:Ctx} {E:Env} {ops:Array Oper} {m0:Mem} {f:Fx} {d:DOp} {o:Oper} {S:St} {μ:Nat->Mem} {A:Mem} {a:Act} {w:World}
theorem Zsj(rL:∀i,i∈Zlh d.rs o->i∈d.ws)(nG:∀i,i∈d.ws->i∈d.rs)(dI:∀i,i∈d.ws->i∈S.ids)(fW:∀k,d.tk=some k->k∈S.tkeys)(hr:Rel C S A a w)
  {S2:St} {A2:Mem} {a':Act} {w':World} {y:St×Mem} {g:Bool} {m M:Mem} (h:Rel C S2 A2 a' w') (ho:Out (Zlh d.rs o) d.tk g m M o.dst (ZmX ops d o S) S y (S2,A2)):Rel C (Zli d o S y.1) A2 a' w':=by
 have hL:∀id,(Zli d o S y.1).L id=S2.L id:=by
  intro id
  simp only[Zli]
  cases hm:mem d.ws id with
  | true=>
   simp only[cond_true]
   rcases ho.L id with⟨_,e⟩|⟨e1,e2⟩
   ·exact e
   ·rw[e1,e2]
    simp[ZmX,ZaN.2 (nG id (ZaN.1 hm))]
  | false=>
   simp only[cond_false]
   rcases ho.L id with⟨hc,_⟩|⟨e1,e2⟩
   ·rw[ZaN.2 (rL id hc)]at hm;cases hm
   ·exact e2.symm
 have hT:∀k,(Zli d o S y.1).tok k=S2.tok k:=by
  intro k
  simp only[Zli]
  cases hm:Zo6 d.tk k with
  | true=>
   simp only[cond_true]
   rcases ho.tok k with⟨_,e⟩|⟨e1,e2⟩
   ·exact e
   ·rw[e1,e2]
    simp[ZmX,hm]
  | false=>
   simp only[cond_false]
   rcases ho.tok k with⟨hc,_⟩|⟨e1,e2⟩
   ·rw[Zbo.2 hc]at hm;cases hm
   ·exact e2.symm
 refine h.restrict ho.gh2.symm (λid x hx=>by rw[<-hL];exact hx) (λk t ht=>.inl (by rw[<-hT];exact ht)) ?_ ?_ ?_
 ·intro i sv he
  have he':S2.env i=some sv:=by
   simp only[Zli]at he
   cases hd:ZeX o i with
   | true=>
    simp only[hd,cond_true]at he
    exact ho.env1 i sv (Zbo.1 hd) he
   | false=>
    simp only[hd,cond_false]at he
    have:o.dst≠some i:=λe=>by rw[show ZeX o i=true from Zbo.2 e]at hd;cases hd
    exact(ho.env2 i this).trans he
  obtain⟨v,h1,h2⟩:=h.env i sv he'
  exact⟨v,by rw[Zpf hL];exact h1,h2⟩
 ·intro id x hx
  show id∈S.ids
  cases hm:mem d.ws id with
  | true=>exact dI id (ZaN.1 hm)
  | false=>simp only[Zli,hm,cond_false]at hx;exact hr.ids id x hx
 ·intro k t ht
  show k∈S.tkeys
  cases hm:Zo6 d.tk k with
  | true=>exact fW k (Zbo.1 hm)
  | false=>simp only[Zli,hm,cond_false]at ht;exact hr.tkeys k t ht
structure DOk (E:Env)(ops:Array Oper)(d:DOp)(o:Oper):Prop where
 at_:ops.toList[d.i]?=some o
 fp:Zq6 E d.rs d.tk o=true
 chg:∀i,i∈Zlh d.rs o->i∈d.ws
 ws:∀i,i∈d.ws->i∈d.rs
theorem Zn0(hE:E.ok){F:Fence}(hF:FOk F)(hY:YOk E C)(aH:Zjb C.n ops.toList=true)(gm:E.fix=none)(hd:DOk E ops d o)(dI:∀i,i∈d.ws->i∈S.ids)(fW:∀k,d.tk=some k->k∈S.tkeys)
  (hr:Rel C S A a w) (h0:m0.le A) (hv:∀j,j∈d.vw->(μ j).le A) (h:Zp6 E ops m0 f d S μ (λ_ _=>True)) {n:Nat} {Q:Exit->Act->World->Prop} {next:Act->World->Prop}
  (hK:∀S' m' A' a' w',ZuL E ops m0 f d S μ S' m'->Rel C (ZmY ops d S S') A' a' w'->A.le A'->m'.le A'->(Zdf o=false->A'=A)->next a' w'):wpOpIn F n E.P ops Q d.i next a w:=by
 unfold Zp6 at h
 simp only[hd.at_]at h
 obtain⟨V,ub,hV⟩:=Zm0 (l:=d.vw) h0 hv
 have nY:Less (ZmX ops d o S) S:=⟨λt sv ht=>by
  simp only[ZmX]at ht
  cases hm:mem (o.looksAt ops) t <;> simp[hm]at ht;exact ht,λid x hx=>by
  simp only[ZmX]at hx
  cases hm:mem d.rs id <;> simp[hm]at hx;exact hx⟩
 have h2:opG E ops o S A (λS2 A2=>∃y1:St×Mem,(∀K:St×Mem->Prop,opG (E.fixed (f d.i)) ops o (ZmX ops d o S) V (λS' m'=>K (S',m'))->K y1)/\Out (Zlh d.rs o) d.tk (Zdf o) V A o.dst (ZmX ops d o S) S y1 (S2,A2)):=
  Ztw (rs:=d.rs) (tk:=d.tk) w gm nY (λid x hx=>by
   simp only[ZmX]at hx
   cases hm:mem d.rs id with
   | true=>exact ZaN.1 hm
   | false=>simp[hm]at hx) (λid cI=>by simp[ZmX,ZaN.2 cI]) (λk hk=>by simp[ZmX,Zbo.2 hk]) ub hd.fp (hV _ h)
 have h3:=Zfs (th:=false) (.inr (Zjl hd.fp)) (K':=λS2 A2=>A.le A2/\∃y1:St×Mem,(∀K:St×Mem->Prop,opG (E.fixed (f d.i)) ops o (ZmX ops d o S) V (λS' m'=>K (S',m'))->K y1)/\Out (Zlh d.rs o) d.tk (Zdf o) V A o.dst (ZmX ops d o S) S y1 (S2,A2)) (λS' m' _ hm y=>⟨hm,y⟩) h2
 have ho':ops[d.i]?=some o:=by simpa using hd.at_
 have:=Zc1 hE hF hY (Zcl aH d.i o hd.at_) hr h3 (n:=n) (Q:=Q) (next:=next) (λS2 A2 a' w' ⟨hA,y1,g1,g2⟩ aG=>by
  refine hK y1.1 y1.2 A2 a' w' ?_ ?_ hA g2.le (λhg=>(g2.same hg).2)
  ·intro K rM
   unfold Zp6 at rM
   simp only[hd.at_]at rM
   exact g1 (λy=>K y.1 y.2) (hV _ rM)
  ·simp only[ZmY,hd.at_]
   exact Zsj hd.chg hd.ws dI fW hr aG g2)
 unfold wpOpIn
 simp only[ho']
 exact this
end
theorem Ziu(ops:Array Oper)(d:DOp)(S S':St):(ZmY ops d S S').ids=S.ids/\(ZmY ops d S S').tkeys=S.tkeys:=by
 unfold ZmY
 cases ops.toList[d.i]? <;> exact⟨rfl,rfl⟩
theorem Zn1(μ:Nat->Mem)(i:Nat)(m:Mem):upd μ i m i=m:=by simp[upd]
theorem Zsk{μ:Nat->Mem}{i j:Nat}(h:j≠i)(m:Mem):upd μ i m j=μ j:=by simp[upd,Zam h]
def Ztk:(Nat->Prop)->List DOp->Prop
 | _,[]=>True
 | D,c::r=>(∀j,j∈c.vw->D j)/\Ztk (λj=>D j\/j=c.i) r
theorem extract{C:Ctx}{E:Env}(hE:E.ok){F:Fence}(hF:FOk F)(hY:YOk E C){ops:Array Oper}(aH:Zjb C.n ops.toList=true)(gm:E.fix=none){m0:Mem}{f:Fx}{d:DOp}{r2:List DOp}{K:St->(Nat->Mem)->Prop}:
  ∀{r1:List DOp} {D:Nat->Prop} {S:St} {μ:Nat->Mem} {A:Mem} {a:Act} {w:World},Rel C S A a w->m0.le A->(∀j,D j->(μ j).le A)->Ztk D r1->(∀c∈r1,(∃o,DOk E ops c o)/\(∀i,i∈c.ws->i∈S.ids)/\(∀k,c.tk=some k->k∈S.tkeys))->(∀c∈r1,ZnW ops c d=true)->
   Zha E ops m0 f (r1++d::r2) K S μ->Zp6 E ops m0 f d S μ (λ_ _=>True)
 | [],D,S,μ,A,a,w,hr,h0,hD,ht,hc,hi,h=>ZdT (λ_ _ _=>trivial) h
 | c::r1,D,S,μ,A,a,w,hr,h0,hD,ht,hc,hi,h=>by
  obtain⟨oc,od,fZ⟩:=Zjq (hi c (by simp))
  obtain⟨⟨o,bX⟩,dI,fW⟩:=hc c (by simp)
  simp only[List.cons_append,Zha,Zlo]at h
  have key:=Zn0 (n:=0) (next:=λ_ _=>Zp6 E ops m0 f d S μ (λ_ _=>True)) (Q:=λ_ _ _=>Zp6 E ops m0 f d S μ (λ_ _=>True)) hE hF hY aH gm bX dI fW hr h0 (λj hj=>hD j (ht.1 j hj)) (ZdT (λ_ _ _=>trivial) h) (λS' m' A' a' w' eT aG hA hm _=>by
   have:=extract hE hF hY aH gm (r1:=r1) (D:=λj=>D j\/j=c.i) aG (mLt h0 hA) (λj hj=>by
    by_cases e:j=c.i
    ·subst e;rw[Zn1];exact hm
    ·rw[Zsk e];exact mLt (hD j (hj.resolve_right e)) hA) ht.2 (λc' hc'=>by
     obtain⟨h1,h2,h3⟩:=hc c' (by simp[hc'])
     exact⟨h1,λi hi=>by rw[(Ziu ops c S S').1];exact h2 i hi,λk hk=>by rw[(Ziu ops c S S').2];exact h3 k hk⟩) (λc' hc'=>hi c' (by simp[hc'])) (eT _ h)
   rwa [ZgW fZ]at this)
  unfold wpOpIn at key
  have ho':ops[c.i]?=some o:=by simpa using bX.at_
  simp only[ho']at key
  split at key
  ·exact Zm3 hF key
  ·exact key.2
theorem Zca{l:Array Bool}{i:Nat}(h:i < l.size):(l.setIfInBounds i true).getD i false=true:=by simp[Array.getD,h]
theorem Zn2{E:Env}(hE:E.ok){F:Fence}(hF:FOk F){C:Ctx}(hY:YOk E C){ops:Array Oper}(aH:Zjb C.n ops.toList=true){n:Nat}{Q:Exit->Act->World->Prop}{K:St->Mem->Prop}{i0:Nat}
  (over:∀(fuel:Nat)(listed:Array Bool)(S':St)(m':Mem)(a':Act)(w':World),listed.size=ops.size->(∀j,j < ops.size->listed.getD j false=true)->K S' m'->Rel C S' m' a' w'->wpAnyIn F n E.P .any ops Q fuel listed a' w')
  (fA:∀i,i0<=i->i < ops.size->∃o,ops[i]?=some o/\(∀j,i0<=j->j < i->j∈Za3 o)/\(∀j∈Za3 o,j < i)):
  ∀(r:List Oper)(i:Nat),ops.toList.drop i=r->i0<=i->i<=ops.size->∀(fuel:Nat)(listed:Array Bool)(S':St)(m':Mem)(a':Act)(w':World),r.length<=fuel->listed.size=ops.size->(∀j,j < i->listed.getD j false=true)->(∀j,i<=j->listed.getD j false=false)->ZhM E ops K r S' m'->Rel C S' m' a' w'->wpAnyIn F n E.P .any ops Q fuel listed a' w':=by
 intro r
 induction r with
 | nil=>
  intro i hi h1 h2 fuel listed S' m' a' w' _ bU bR _ hk aG
  have:ops.size<=i:=by
   have:=congrArg List.length hi
   simp at this
   omega
  exact over fuel listed S' m' a' w' bU (λj hj=>bR j (by omega)) hk aG
 | cons o r ih=>
  intro i hi h1 h2 fuel listed S' m' a' w' j8 bU bR dA hk aG
  have gp:i < ops.size:=by
   have:=congrArg List.length hi
   simp at this
   omega
  obtain⟨o',ho',nZ,dZ⟩:=fA i h1 gp
  have k7:ops.toList[i]?=some o:=by
   have:=congrArg (λl=>l[0]?) hi
   simpa using this
  have rN:o'=o:=by
   have:ops.toList[i]?=some o':=by simpa using ho'
   rw[k7]at this;cases this;rfl
  subst rN
  have rO:ops.toList.drop (i+1)=r:=by
   have:=congrArg (List.drop 1) hi
   simpa[List.drop_drop,Nat.add_comm]using this
  obtain⟨fuel,rfl⟩:∃k,fuel=k+1:=⟨fuel - 1,by simp at j8;omega⟩
  have hQ:listed.getD i false=false:=dA i (Nat.le_refl _)
  have dM:i < listed.size:=by omega
  refine⟨λcM=>?_,λq hq=>?_⟩
  ·exfalso
   have:i∈Region.ready .any ops listed:=mem_ready.2 ⟨by simpa[Array.getD,dM]using hQ,o',ho',λe he hb=>?_⟩
   ·rw[cM]at this;simp at this
   ·have hm:e.on∈Za3 o':=by
     simp only[Za3,List.mem_map,List.mem_filter]
     exact⟨e,⟨by simpa using he,hb⟩,rfl⟩
    exact bR _ (dZ _ hm)
  ·obtain⟨oa,o2,fw,fG⟩:=mem_ready.1 hq
   have hq':q < ops.size:=(Array.getElem?_eq_some_iff.1 fw).1
   have:q=i:=by
    by_cases h3:q < i
    ·have h4:=bR q h3
     have hl:q < listed.size:=by omega
     simp[Array.getD,hl]at oa h4
     rw[oa]at h4;cases h4
    ·by_cases h4:q=i
     ·exact h4
     ·exfalso
      obtain⟨o3,lZ,kt,_⟩:=fA q (by omega) hq'
      rw[lZ]at fw;cases fw
      have:=kt i h1 (by omega)
      simp only[Za3,List.mem_map,List.mem_filter]at this
      obtain⟨e,⟨he,hb⟩,h5⟩:=this
      have:=fG e (by simpa using he) hb
      rw[h5,hQ]at this;cases this
   subst this
   simp only[ZhM]at hk
   have:=ZgR hE hF hY (Zcl aH _ o' k7) aG hk (n:=n) (Q:=Q) (next:=wpAnyIn F n E.P .any ops Q fuel (listed.setIfInBounds q true)) (λS2 m2 a2 w2 eK f0=>ih (q+1) rO (by omega) (by omega) fuel _ S2 m2 a2 w2 (by simp at j8;omega) (by simpa using bU) (λj hj=>by
    by_cases e:j=q
    ·subst e;simp[Array.getD,dM]
    ·rw[getD_set_ne false (Ne.symm e)]
     exact bR j (by omega)) (λj hj=>by
    rw[getD_set_ne false (by omega)]
    exact dA j (by omega)) eK f0)
   unfold wpOpIn
   simp only[ho']
   exact this
def St.wenv(S:St)(e:Nat->Option SV):St:={ S with env:=e }
theorem Zgf(S:St)(e:Nat->Option SV):∀ids,Za2 (S.wenv e) ids=Za2 S ids
 | []=>rfl
 | id::l=>by simp only[Za2,Zgf S e l];rfl
theorem ZhQ(S:St)(e:Nat->Option SV):∀ks,Zdg (S.wenv e) ks=Zdg S ks
 | []=>rfl
 | q::l=>by simp only[Zdg,ZhQ S e l];rfl
theorem Zn3(S:St)(e:Nat->Option SV)(b:Nat)(k:Prop):∀l,nfz (S.wenv e) b l k=nfz S b l k
 | []=>rfl
 | id::l=>by simp only[nfz,Zn3 S e b k l];rfl
theorem Zn4(S:St)(e:Nat->Option SV)(b:Nat)(ks:List Nat):∀l,ntk (S.wenv e) b ks l=ntk S b ks l
 | []=>rfl
 | k::l=>by simp only[ntk,Zn4 S e b ks l];rfl
theorem Zjr(S:St)(e:Nat->Option SV):∀(ids:List Nat)(bxs:List Box) (css:List (List Value)),Zcp (S.wenv e) ids bxs css=(Zcp S ids bxs css).wenv e
 | [],_,_=>by simp[Zcp]
 | id::ids,[],_=>by simp[Zcp]
 | id::ids,x::xs,[]=>by simp[Zcp]
 | id::ids,x::xs,cs::css=>by simp only[Zcp,Zjr S e ids xs css];rfl
theorem Zrc{S:St}{e:Nat->Option SV}{x:Operand}(h:∀t,x=.tmp t->e t=S.env t):(S.wenv e).val x=S.val x:=by
 unfold St.val
 have:(S.wenv e).ev x=S.ev x:=by
  cases x with
  | tmp t=>exact h t rfl
  | _=>rfl
 rw[this]
 cases S.ev x with
 | none=>rfl
 | some sv=>cases sv <;> rfl
theorem Zsl{S:St}{e:Nat->Option SV}{x:Operand}(h:∀t,x=.tmp t->e t=S.env t):(S.wenv e).ev x=S.ev x:=by
 cases x with
 | tmp t=>exact h t rfl
 | _=>rfl
theorem Zn5{S:St}{e:Nat->Option SV}{k:List Value->Prop}:∀{l:List Operand},(∀x∈l,∀t,x=.tmp t->e t=S.env t)->wvs (S.wenv e) l k=wvs S l k
 | [],_=>rfl
 | x::l,h=>by
  simp only[wvs,wv]
  rw[Zrc (h x (by simp))]
  cases S.val x with
  | none=>rfl
  | some v=>exact Zn5 λy hy=>h y (by simp[hy])
theorem ZhR{S:St}{e:Nat->Option SV}:∀{l:List Operand},(∀x∈l,∀t,x=.tmp t->e t=S.env t)->Zcv (S.wenv e) l=Zcv S l
 | [],_=>rfl
 | x::l,h=>by
  simp only[Zcv]
  rw[Zsl (h x (by simp)),ZhR λy hy=>h y (by simp[hy])]
  rfl
theorem Zjs:∀{n:Nat} {k k':List (List Value)->Prop},(∀v,v.length=n->k v->k' v)->allL n k->allL n k'
 | 0,k,k',h,hx=>h _ rfl hx
 | n+1,k,k',h,hx=>λcs=>Zjs (λl hl hx=>h _ (by simp[hl]) hx) (hx cs)
theorem Zlp{E:Env}{S:St}{e:Nat->Option SV}{m:Mem}{rt:TypeId}{g:FuncId}{args:List Value}{ids:List Nat}{ks:List (Nat×Nat)}{K:Value->St->Mem->Prop}
  (h:Zhe E (S.wenv e) m rt g args ids ks K):Zhe E S m rt g args ids ks λv S' m'=>K v (S'.wenv e) m'/\S'.env=S.env/\∀id,id ∉ ids->S'.L id=S.L id:=by
 unfold Zhe at *
 rw[Zgf]at h
 cases hb:Za2 S ids with
 | none=>simp[hb]at h
 | some bxs=>
  simp only[hb]at h ⊢
  cases hm:E.m0 with
  | none=>simp[hm]at h
  | some m0=>
   simp only[hm]at h ⊢
   obtain⟨h1,Y,R,h2,h3,h4,h5,h6⟩:=Zad h
   rw[ZhQ]at h2 h3 h4 h6
   refine Zaa h1 ⟨Y,R,h2,h3,λb hb=>?_,h5,?_⟩
   ·rcases h4 b hb with q|⟨q1,q2,q3⟩
    ·exact .inl q
    ·have e1:∀k,nfz (S.wenv e) b S.ids k=nfz S b S.ids k:=λk=>Zn3 S e b k S.ids
     have e2:ntk (S.wenv e) b (ks.map (·.1)) S.tkeys=ntk S b (ks.map (·.1)) S.tkeys:=Zn4 S e b _ S.tkeys
     refine .inr ⟨q1,q2,?_⟩
     have q3:nfz (S.wenv e) b S.ids (ntk (S.wenv e) b (ks.map (·.1)) S.tkeys):=q3
     rw[e1,e2]at q3;exact q3
   ·simp only[zA7]at h1
    have dQ:=ZaC h1.2.1
    have bG:=(ZbL hb).1
    refine Shape.all_mono _ (λv z m' hm' hn=>?_) h6
    refine Zjs (λcss hc z=>ZgQ (λtvs z hR=>⟨?_,?_,λid cI=>?_⟩) z) (z m' hm' hn)
    ·have:=z hR
     rw[Zjr]at this;exact this
    ·rw[Zcu]
    ·rcases ZdO (S:=S) dQ bG hc id with⟨_,q⟩|⟨i,x,cs,q,_⟩
     ·exact q
     ·exact absurd (zA2 q) cI
theorem Zrd{l:List Value}{n:Nat}{k:Value->Prop}(h:Zp3 l n k):∃v,k v/\Zp3 l n (·=v):=by
 obtain⟨v,h1,h2⟩:=ZfT h
 exact⟨v,h2,Zal h1 rfl⟩
theorem Zlq{i:TI}{x:Box}{off:Nat}{k:Value->Prop}(h:Zb6 i x off k):∃v,k v/\Zb6 i x off (·=v):=by
 unfold Zb6 at *
 cases ha:i.agg with
 | true=>
  simp only[ha,cond_true]at *
  cases hf:(x.full&&(Nat.beq x.cap i.size&&Nat.beq off 0))with
  | true=>
   simp only[hf,cond_true]at *
   exact⟨_,h,rfl⟩
  | false=>
   simp only[hf,cond_false]at *
   obtain⟨h1,h2⟩:=Zad h
   exact⟨_,h2,Zaa h1 rfl⟩
 | false=>
  simp only[ha,cond_false]at *
  exact Zrd h
theorem Zlr{i:TI}{m:Mem}{b o:Nat}{k:Value->Prop}(h:Zct i m b o k):∃v,k v/\∀m':Mem,m.le m'->Zct i m' b o (·=v):=by
 unfold Zct at *
 cases ha:i.agg with
 | false=>
  simp only[ha,cond_false]at *
  obtain⟨v,h1,h2⟩:=h
  exact⟨v,h2,λm' hm=>⟨v,hm _ _ _ h1,rfl⟩⟩
 | true=>
  simp only[ha,cond_true]at *
  cases hb:Nat.ble i.size 16 with
  | true=>
   simp only[hb,cond_true]at *
   obtain⟨vs,h1,h2,h3⟩:=ZgN h
   exact⟨_,h3,λm' hm=>Zib vs h1 ⟨λj v hv=>hm _ _ _ (h2 j v hv),rfl⟩⟩
  | false=>
   simp only[hb,cond_false]at *
   obtain⟨vs,h1,h2,h3⟩:=h
   exact⟨_,h3,λm' hm=>⟨vs,h1,λj v hv=>hm _ _ _ (h2 j v hv),rfl⟩⟩
def ZuM(E:Env)(S:St)(ids:List Nat)(o:Oper)(X:St):Prop:=
 ∃T x d v,o.op=.load T x/\o.dst=some d/\X.env d=some (.v v)/\∀(S':St)(m':Mem),(∀t,x=.tmp t->S'.env t=S.env t)->(∀id,id ∉ ids->S'.L id=S.L id)->(∀mm:Mem,E.m0=some mm->mm.le m')->ZeP E S' m' T x (·=v)
theorem Zpg{E:Env}{S:St}{ids:List Nat}{T:TypeId}{x:Operand}{k:Value->Prop}(h:Zqj E S ids T x k):
  ∃v,k v/\∀(S':St)(m':Mem),(∀t,x=.tmp t->S'.env t=S.env t)->(∀id,id ∉ ids->S'.L id=S.L id)->(∀mm:Mem,E.m0=some mm->mm.le m')->ZeP E S' m' T x (·=v):=by
 have jp:∀S':St,(∀t,x=.tmp t->S'.env t=S.env t)->S'.ev x=S.ev x:=λS' h=>by
  cases x with
  | tmp t=>exact h t rfl
  | _=>rfl
 unfold Zqj at h
 cases ht:E.tt T with
 | none=>simp[ht]at h
 | some i=>
  simp only[ht]at h
  split at h
  ·rename_i id off he
   cases hL:S.L id with
   | none=>simp[hL]at h
   | some bx=>
    simp only[hL]at h
    obtain⟨h1,h2⟩:=Zad h
    obtain⟨v,h3,h4⟩:=Zlq h2
    refine⟨v,h3,λS' m' q1 q2 q3=>?_⟩
    have cI:id ∉ ids:=λhm=>by rw[ZaN.2 hm]at h1;cases h1
    unfold ZeP
    simp only[ht,jp S' q1,he,q2 id cI,hL]
    exact h4
  ·rename_i v0 he
   cases hm:E.m0 with
   | none=>simp[hm]at h
   | some m0=>
    simp only[hm]at h
    obtain⟨h1,h2⟩:=Zad h
    simp only[zA7,Option.isNone_iff_eq_none]at h1
    obtain⟨v,h3,h4⟩:=Zlr h2
    refine⟨v,h3,λS' m' q1 q2 q3=>?_⟩
    unfold ZeP
    simp only[ht,jp S' q1,he,h1.2]
    exact Zaa h1.1 (h4 m' (q3 m0 rfl))
  ·exact h.elim
theorem ZhS{E:Env}{S:St}{ids:List Nat}:∀{r:List Oper} {S1:St} {k:St->Prop},ZaU (Zao r)=true->(∀o∈r,o.dst.isSome=true)->Zj4 E S ids r S1 k->
  ∃e:Nat->Option SV,k (S1.wenv e)/\(∀o∈r,ZuM E S ids o (S1.wenv e))/\∀t,t ∉ Zao r->e t=S1.env t
 | [],S1,k,_,_,h=>⟨S1.env,h,by simp,λ_ _=>rfl⟩
 | o::r,S1,k,hn,hd,h=>by
  have oe:=hd o (by simp)
  obtain⟨d,og⟩:=Option.isSome_iff_exists.1 oe
  unfold Zj4 at h
  split at h
  ·rename_i T x ho
   obtain⟨v,h1,h2⟩:=Zpg h
   have hn':=ZaC hn
   simp only[Zao,og,List.nodup_cons]at hn'
   have kb:ZaU (Zao r)=true:=by
    simp only[Zao,og,ZaU,zA7]at hn
    exact hn.2
   obtain⟨e,g1,g2,g3⟩:=ZhS kb (λo ho=>hd o (by simp[ho])) h1
   rw[og]at g1 g2 g3
   refine⟨e,g1,λo' ho'=>?_,λt ht=>?_⟩
   ·rcases List.mem_cons.1 ho' with rfl|ho'
    ·refine⟨T,x,d,v,ho,og,?_,h2⟩
     show e d=_
     rw[g3 d hn'.1]
     simp[St.put,ZbO]
    ·exact g2 o' ho'
   ·simp only[Zao,og,List.mem_cons,not_or]at ht
    rw[g3 t ht.2]
    simp[St.put,Zam ht.1]
  ·exact h.elim
theorem ZgX{α:Type}{l:List α}(h:Zo8 l=true):l=[]:=by
 cases l with
 | nil=>rfl
 | cons=>cases h
theorem Zls{E:Env}{ops:Array Oper}{o:Oper}{q:Go.Call}{f:Operand}{S:St}{e:Nat->Option SV}{m:Mem}{K:St->Mem->Prop}(hg:o.guard=none)(hq:o.op=.call q)(hf:q.callee=.value f)(hP:(ZdP E o.dst).isSome=true)(jo:Zde E o.dst=[])(jz:ZnM E o.dst=false)
  (oe:o.dst.isSome=true) {g0:FuncId} (vn:f=.func g0) (ha:∀x∈q.args.toList,∀t,x=.tmp t->e t=S.env t) (hl:Zcv (S.wenv e) q.args.toList=[]) (h:opG E ops o (S.wenv e) m K):
  opG E ops o S m λS' m'=>∃S2,K S2 m'/\S'.wenv S2.env=S2/\(∀t,o.dst≠some t->S2.env t=e t/\S'.env t=S.env t)/\(∀t,o.dst=some t->S'.env t=S2.env t)/\∀id,id ∉ ZcV E o.dst->S2.L id=S.L id:=by
 unfold opG at *
 simp only[hg]at h ⊢
 unfold opW at *
 simp only[hq,hf]at h ⊢
 unfold ZrW at *
 simp only[jo]at h ⊢
 obtain⟨ks,km⟩:=Option.isSome_iff_exists.1 hP
 obtain⟨d,hd⟩:=Option.isSome_iff_exists.1 oe
 unfold ZrK at *
 subst vn
 simp only[St.ev]at h ⊢
 have hl':Zcv S q.args.toList=[]:=by rw[<-ZhR (e:=e) ha];exact hl
 simp only[km,jz,cond_false]at h ⊢
 cases bY:E.fix with
 | some f=>simp[bY]at h
 | none=>
  simp only[bY,Option.isSome_none,cond_false]at h ⊢
  rw[Zn5 ha]at h
  refine ZbR (λvs y=>?_) h
  rw[hl]at y
  rw[hl']
  refine ZhF (λv S' m' _ z=>?_) (Zlp y)
  obtain⟨z1,z2,z3⟩:=z
  rw[hd]at z1 ⊢
  refine⟨_,z1,rfl,λt ht=>?_,λt ht=>?_,λid cI=>?_⟩
  ·have:t≠d:=λe=>ht (by rw[e])
   simp[St.put,Zam this,St.wenv,z2]
  ·cases ht
   simp[St.put,ZbO,St.wenv]
  ·exact z3 id (by simpa[hd]using cI)
theorem ZhT{p q:Nat->Bool}{i:Nat}(hp:p i=true)(hq:∀j,q j=(p j&&!Nat.beq j i)):∀{l:List Nat},l.Nodup->i∈l->l.countP q+1=l.countP p
 | [],_,h=>by cases h
 | x::l,hn,hi=>by
  rw[List.nodup_cons]at hn
  rw[List.countP_cons,List.countP_cons]
  by_cases e:x=i
  ·subst e
   have:l.countP q=l.countP p:=List.countP_congr λj hj=>by
    have:j≠x:=λe=>hn.1 (e ▸ hj)
    rw[hq,Zam this];simp
   rw[this,hq,ZbO,hp];simp
  ·have ih:=ZhT hp hq hn.2 ((List.mem_cons.1 hi).resolve_left λh=>e h.symm)
   rw[hq x,Zam e]
   simp only[Bool.not_false,Bool.and_true]
   omega
def unl(ops:Array Oper)(c:Nat)(listed:Array Bool)(t:Nat):Bool:=(List.range c).any λj=>!listed.getD j false&&match ops.toList[j]? with
 | none=>false
 | some o=>ZeX o t
def ZoH(ops:Array Oper)(c:Nat)(listed:Array Bool)(S X:St):St:=X.wenv λt=>bif unl ops c listed t then S.env t else X.env t
theorem Zjt:∀{l:List Oper},(Zao l).Nodup->∀{i j:Nat} {o o':Oper} {t:Nat},l[i]?=some o->l[j]?=some o'->o.dst=some t->o'.dst=some t->i=j
 | [],_,i,j,o,o',t,h,_,_,_=>by simp at h
 | x::l,hn,0,0,_,_,_,_,_,_,_=>rfl
 | x::l,hn,0,j+1,o,o',t,h1,h2,h3,h4=>by
  simp at h1 h2;subst h1
  simp only[Zao,h3,List.nodup_cons]at hn
  exact absurd (ZaO h2 h4) hn.1
 | x::l,hn,i+1,0,o,o',t,h1,h2,h3,h4=>by
  simp at h1 h2;subst h2
  simp only[Zao,h4,List.nodup_cons]at hn
  exact absurd (ZaO h1 h3) hn.1
 | x::l,hn,i+1,j+1,o,o',t,h1,h2,h3,h4=>by
  simp at h1 h2
  have:(Zao l).Nodup:=by
   unfold Zao at hn
   split at hn
   ·exact hn
   ·exact(List.nodup_cons.1 hn).2
  rw[Zjt this h1 h2 h3 h4]
theorem Zsm{E:Env}(hE:E.ok){F:Fence}(hF:FOk F){C:Ctx}(hY:YOk E C){ops:Array Oper}(aH:Zjb C.n ops.toList=true){id n:Nat}{Q:Exit->Act->World->Prop}{K:St->Mem->Prop}
  (over:∀(fuel:Nat)(listed:Array Bool)(S':St)(m':Mem)(a':Act)(w':World),listed.size=ops.size->(∀j,j < ops.size->listed.getD j false=true)->K S' m'->Rel C S' m' a' w'->wpAnyIn F n E.P .any ops Q fuel listed a' w')
  {S:St} {m:Mem} {a:Act} {w:World} (hr:Rel C S m a w) (h:ZtS E id ops K S m):wpAnyIn F n E.P .any ops Q ops.size (Array.replicate ops.size false) a w:=by
 unfold ZtS at h
 obtain⟨h1,h2⟩:=Zad h
 generalize E.lastK id=k at *
 simp only[zA7]at h1
 have bX:=h1.2
 unfold Ztj at bX
 simp only[zA7,List.all_eq_true]at bX
 obtain⟨⟨gK,eK,ie⟩,rP,dQ,cV,oh⟩:=bX
 have gK:=Nat.le_of_ble_eq_true gK
 have eK:=Nat.le_of_ble_eq_true eK
 have rQ:=ZaC dQ
 generalize hc:ops.size - k=c at *
 have tV:c < ops.size:=by omega
 split at h2
 ·exact h2.elim
 rename_i oc r nm
 have lR:ops.toList[c]?=some oc:=by
  have:=congrArg (λl=>l[0]?) nm
  simpa using this
 have oi:ops[c]?=some oc:=by simpa using lR
 rw[lR]at cV
 simp only at cV
 split at h2
 rotate_left
 ·exact h2.elim
 rename_i q hq
 unfold Zll at cV
 simp only[hq,zA7]at cV
 obtain⟨rR,cV⟩:=cV
 cases ku:q.callee with
 | builtin b=>simp[ku]at cV
 | invoke _ _=>simp[ku]at cV
 | value f=>
 simp only[ku,zA7,List.all_eq_true]at cV
 obtain⟨⟨hP,⟨rS,l3⟩,om,l4,vo,qo⟩,oo⟩:=cV
 have l3:=(Bool.not_eq_true' _).mp l3
 have rR:=Option.isNone_iff_eq_none.1 rR
 obtain⟨g0,vp⟩:∃g0,f=.func g0:=by
  cases f <;> simp[ZtR]at vo
  exact⟨_,rfl⟩
 obtain⟨dc,oq⟩:=Option.isSome_iff_exists.1 om
 have ldAt:∀j,j < c->∃o,ops[j]?=some o/\(ops.toList.take c)[j]?=some o:=λj hj=>by
  have:j < ops.toList.length:=by simp;omega
  refine⟨ops[j]'(by omega),by simp[show j < ops.size by omega],?_⟩
  rw[List.getElem?_take_of_lt hj];simp[show j < ops.size by omega]
 have ldOk:∀o∈ops.toList.take c,o.guard=none/\Za3 o=[]/\∃T x d,o.op=.load T x/\o.dst=some d/\ZnL E o.dst=none/\∀t,x=.tmp t->t ∉ Zao ops.toList:=λo ho=>by
  have:=rP o ho
  unfold Zqk at this
  simp only[zA7]at this
  obtain⟨q1,q2,q3⟩:=this
  split at q3
  ·rename_i T x ly
   simp only[zA7]at q3
   obtain⟨q4,q5,q6⟩:=q3
   obtain⟨d,hd⟩:=Option.isSome_iff_exists.1 q5
   refine⟨Option.isNone_iff_eq_none.1 q1,ZgX q2,T,x,d,ly,hd,Option.isNone_iff_eq_none.1 q4,λt e hm=>?_⟩
   subst e
   simp only[Zlk,Bool.not_eq_true']at q6
   rw[ZaN.2 hm]at q6;cases q6
  ·cases q3
 have ou:dc ∉ Zao (ops.toList.take c):=λhm=>by
  simp only[Zlj,oq,Bool.not_eq_true']at l4
  rw[ZaN.2 hm]at l4;cases l4
 obtain⟨e,h3,hV,he⟩:=ZhS dQ (λo ho=>by
  obtain⟨_,_,_,_,d,_,hd,_⟩:=ldOk o ho
  simp[hd]) h2
 obtain⟨h4,h5⟩:=Zad h3
 have h4:=ZgX h4
 have unl_mem:∀{listed:Array Bool} {t:Nat},unl ops c listed t=true->t∈Zao (ops.toList.take c):=λ{listed t} hu=>by
  unfold unl at hu
  simp only[List.any_eq_true,zA7,List.mem_range]at hu
  obtain⟨j,hj,_,hu⟩:=hu
  obtain⟨o,ho,ho'⟩:=ldAt j hj
  have:ops.toList[j]?=some o:=by simpa using ho
  rw[this]at hu
  exact ZaO ho' (Zbo.1 hu)
 have takeSub:∀t,t∈Zao (ops.toList.take c)->t∈Zao ops.toList:=by
  have:∀(l:List Oper)(k t:Nat),t∈Zao (l.take k)->t∈Zao l:=by
   intro l
   induction l with
   | nil=>intro k t h;simp[Zao]at h
   | cons x l ih=>
    intro k t h
    cases k with
    | zero=>simp[Zao]at h
    | succ k=>
     simp only[List.take_succ_cons,Zao]at h ⊢
     cases hx:x.dst with
     | none=>simp only[hx]at h ⊢;exact ih k t h
     | some d=>
      simp only[hx,List.mem_cons]at h ⊢
      exact h.imp (λh=>h) (ih k t)
  exact this _ c
 have fA:∀i,c+1<=i->i < ops.size->∃o,ops[i]?=some o/\(∀j,c<=j->j < i->j∈Za3 o)/\(∀j∈Za3 o,j < i)/\(i=c+1->∀j,j < c->j∈Za3 o\/j∈Za3 oc):=by
  intro i gQ gS
  have:=oh (i - c) (List.mem_range.2 (by omega))
  have cE:Nat.beq (i - c) 0=false:=Zam (by omega)
  rw[cE,cond_false,show c+(i - c)=i by omega,lR]at this
  split at this
  ·rename_i o oc' ho rT
   cases rT
   simp only[zA7,List.all_eq_true]at this
   refine⟨o,by simpa using ho,λj ud hj=>?_,λj hj=>Nat.le_of_ble_eq_true (this.2.1 j hj),λhi j hj=>?_⟩
   ·have h3:=ZaN.1 (this.1 (j - c) (List.mem_range.2 (by omega)))
    rw[show c+(j - c)=j by omega]at h3
    exact h3
   ·have h3:=this.2.2
    rw[hi,show c+1 - c=1 by omega]at h3
    simp only[show Nat.beq 1 1=true from rfl,cond_true,List.all_eq_true,Bool.or_eq_true,List.mem_range]at h3
    exact(h3 j hj).imp ZaN.1 ZaN.1
  ·cases this
 have l5:ops.toList.drop (c+1)=r:=by
  have:=congrArg (List.drop 1) nm
  simpa[List.drop_drop,Nat.add_comm]using this
 have ue:r.length=ops.size - (c+1):=by rw[<-l5];simp
 have memo:∀mm:Mem,E.m0=some mm->C.m0=mm:=λmm hm=>(hY.m0 mm hm).1
 have prd:∀{o:Oper} {listed:Array Bool},(∀e∈o.after,Region.binds .any e=true->listed.getD e.on false=true)->∀j∈Za3 o,listed.getD j false=true:=λ{o listed} fG j hj=>by
  simp only[Za3,List.mem_map,List.mem_filter]at hj
  obtain⟨e,⟨he,hb⟩,rfl⟩:=hj
  exact fG e (by simpa using he) hb
 have prd':∀{o:Oper} {listed:Array Bool},(∀j∈Za3 o,listed.getD j false=true)->∀e∈o.after,Region.binds .any e=true->listed.getD e.on false=true:=λ{o listed} fG e he hb=>fG e.on (by
  simp only[Za3,List.mem_map,List.mem_filter]
  exact⟨e,⟨by simpa using he,hb⟩,rfl⟩)
 have main:∀(fuel:Nat)(listed:Array Bool)(X:St)(m':Mem)(a':Act)(w':World),listed.size=ops.size->(∀j,c+1<=j->listed.getD j false=false)->
   ((List.range (c+1)).countP λj=>!listed.getD j false)+r.length<=fuel->(∀o∈ops.toList.take c,ZuM E S (ZcV E oc.dst) o X)->(∀id,id ∉ ZcV E oc.dst->X.L id=S.L id)->SameOut (Zao ops.toList) S X->
   (listed.getD c false=false->m'=m/\X=S.wenv e)->(listed.getD c false=true->ZhM E ops K r X m'/\∀p∈Za3 oc,listed.getD p false=true)->
   Rel C (ZoH ops c listed S X) m' a' w'->wpAnyIn F n E.P .any ops Q fuel listed a' w':=by
  intro fuel
  induction fuel with
  | zero=>
   intro listed X m' a' w' bU gX j8 hX qp qr hA hB aG
   have hz:((List.range (c+1)).countP λj=>!listed.getD j false)=0:=by omega
   have bR:∀j,j < c+1->listed.getD j false=true:=λj hj=>by
    have:=List.countP_eq_zero.1 hz j (List.mem_range.2 hj)
    simpa using this
   have gU:ZoH ops c listed S X=X:=by
    have:∀t,unl ops c listed t=false:=λt=>by
     cases hu:unl ops c listed t with
     | false=>rfl
     | true=>
      exfalso
      unfold unl at hu
      simp only[List.any_eq_true,zA7,List.mem_range]at hu
      obtain⟨j,hj,hu,_⟩:=hu
      rw[bR j (by omega)]at hu;cases hu
    unfold ZoH
    simp only[this,cond_false];rfl
   rw[gU]at aG
   exact Zn2 hE hF hY aH over (i0:=c+1) (λi h1 h2=>by
    obtain⟨o,q1,q2,q3,_⟩:=fA i h1 h2
    exact⟨o,q1,λj hj=>q2 j (by omega),q3⟩) r (c+1) l5 (Nat.le_refl _) (by omega) 0 listed X m' a' w' (by omega) bU bR gX (hB (bR c (by omega))).1 aG
  | succ fuel ih=>
   intro listed X m' a' w' bU gX j8 hX qp qr hA hB aG
   by_cases bR:∀j,j < c+1->listed.getD j false=true
   ·have gU:ZoH ops c listed S X=X:=by
     have:∀t,unl ops c listed t=false:=λt=>by
      cases hu:unl ops c listed t with
      | false=>rfl
      | true=>
       exfalso
       unfold unl at hu
       simp only[List.any_eq_true,zA7,List.mem_range]at hu
       obtain⟨j,hj,hu,_⟩:=hu
       rw[bR j (by omega)]at hu;cases hu
     unfold ZoH
     simp only[this,cond_false];rfl
    rw[gU]at aG
    exact Zn2 hE hF hY aH over (i0:=c+1) (λi h1 h2=>by
     obtain⟨o,q1,q2,q3,_⟩:=fA i h1 h2
     exact⟨o,q1,λj hj=>q2 j (by omega),q3⟩) r (c+1) l5 (Nat.le_refl _) (by omega) _ listed X m' a' w' (by omega) bU bR gX (hB (bR c (by omega))).1 aG
   have dec:∀{i:Nat},i < c+1->listed.getD i false=false->((List.range (c+1)).countP λj=>!(listed.setIfInBounds i true).getD j false)+1=((List.range (c+1)).countP λj=>!listed.getD j false):=λ{i} hi hQ=>
    ZhT (p:=λj=>!listed.getD j false) (q:=λj=>!(listed.setIfInBounds i true).getD j false) (i:=i) (by simp[hQ]) (λj=>by
     by_cases e:j=i
     ·subst e;rw[Zca (by omega),ZbO];simp
     ·rw[getD_set_ne false (Ne.symm e),Zam e];simp) List.nodup_range (List.mem_range.2 hi)
   refine⟨λcM=>?_,λi hi=>?_⟩
   ·exfalso
    apply bR
    have hl:∀j,j < c->listed.getD j false=true:=λj hj=>by
     cases hb:listed.getD j false with
     | true=>rfl
     | false=>
      exfalso
      obtain⟨o,ho,ho'⟩:=ldAt j hj
      obtain⟨_,hp,_⟩:=ldOk o (zA2 ho')
      have dM:j < listed.size:=by omega
      have:j∈Region.ready .any ops listed:=mem_ready.2 ⟨by simpa[Array.getD,dM]using hb,o,ho,prd' (by rw[hp];intro j hj;cases hj)⟩
      rw[cM]at this;simp at this
    intro j hj
    by_cases e:j=c
    ·subst e
     cases hb:listed.getD j false with
     | true=>rfl
     | false=>
      exfalso
      have dM:j < listed.size:=by omega
      have:j∈Region.ready .any ops listed:=mem_ready.2 ⟨by simpa[Array.getD,dM]using hb,oc,oi,prd' λp hp=>hl p (Nat.le_of_ble_eq_true (oo p hp))⟩
      rw[cM]at this;simp at this
    ·exact hl j (by omega)
   obtain⟨hQ,o,ho,fG⟩:=mem_ready.1 hi
   have hi':i < ops.size:=(Array.getElem?_eq_some_iff.1 ho).1
   have hl:i < listed.size:=by omega
   have jI:listed.getD i false=false:=by simp[Array.getD,hl]at hQ ⊢;exact hQ
   have fG:=prd fG
   have k7:ops.toList[i]?=some o:=by simpa using ho
   have gk:∀j,c+1<=j->(i < c+1)->(listed.setIfInBounds i true).getD j false=false:=λj hj hi=>by
    rw[getD_set_ne false (by omega)];exact gX j hj
   have eH:∀mm:Mem,E.m0=some mm->mm.le m':=λmm hm=>by rw[<-memo mm hm];exact aG.le
   unfold wpOpIn
   simp only[ho]
   rcases Nat.lt_trichotomy i c with qs|qs|qs
   ·
    obtain⟨o',jr,fw⟩:=ldAt i qs
    rw[ho]at jr;cases jr
    have eW:=zA2 fw
    obtain⟨hg,_,T,x,d,ly,hd,vq,vr⟩:=ldOk o eW
    obtain⟨T',x',d',v,q1,q2,q3,q4⟩:=hX o eW
    rw[ly]at q1;cases q1
    rw[hd]at q2;cases q2
    have ov:opG E ops o (ZoH ops c listed S X) m' λS' m''=>S'=(ZoH ops c listed S X).put (some d) (some (.v v))/\m''=m':=by
     unfold opG
     simp only[hg]
     unfold opW
     simp only[ly,vq]
     refine ZeS (λu hu=>?_) (q4 (ZoH ops c listed S X) m' (λt ht=>?_) (λid cI=>qp id cI) eH)
     ·subst hu;rw[hd];first|exact⟨rfl,rfl⟩|exact⟨rfl,trivial⟩
     ·have vt:=vr t ht
      show(bif unl ops c listed t then S.env t else X.env t)=S.env t
      cases unl ops c listed t with
      | true=>rfl
      | false=>exact(qr t vt)
    refine Zc1 hE hF hY (Zcl aH _ o k7) aG ov (n:=n) (Q:=Q) (next:=wpAnyIn F n E.P .any ops Q fuel (listed.setIfInBounds i true)) (λS2 m2 a2 w2 eK f0=>?_)
    obtain⟨rfl,rfl⟩:=eK
    have uf:(listed.setIfInBounds i true).getD c false=listed.getD c false:=getD_set_ne false (by omega)
    refine ih _ X m2 a2 w2 (by simpa using bU) (λj hj=>gk j hj (by omega)) (by have:=dec (i:=i) (by omega) jI;omega) hX qp qr (λhb=>hA (uf ▸ hb)) (λhb=>?_) ?_
    ·obtain⟨q5,q6⟩:=hB (uf ▸ hb)
     refine⟨q5,λp hp=>?_⟩
     by_cases e:p=i
     ·subst e;exact Zca hl
     ·rw[getD_set_ne false (Ne.symm e)];exact q6 p hp
    ·have:(ZoH ops c listed S X).put (some d) (some (.v v))=ZoH ops c (listed.setIfInBounds i true) S X:=by
      have l6:∀t,unl ops c (listed.setIfInBounds i true) t=(unl ops c listed t&&!Nat.beq t d):=λt=>by
       by_cases ht:t=d
       ·subst ht
        rw[ZbO]
        simp only[Bool.not_true,Bool.and_false]
        cases hu:unl ops c (listed.setIfInBounds i true) t with
        | false=>rfl
        | true=>
         exfalso
         unfold unl at hu
         simp only[List.any_eq_true,zA7,List.mem_range]at hu
         obtain⟨j,hj,fR,ij⟩:=hu
         obtain⟨oj,rU,rV⟩:=ldAt j hj
         have:ops.toList[j]?=some oj:=by simpa using rU
         rw[this]at ij
         have:j=i:=Zjt rQ rV fw (Zbo.1 ij) hd
         subst this
         rw[Zca hl]at fR;cases fR
       ·rw[Zam ht]
        simp only[Bool.not_false,Bool.and_true]
        unfold unl
        rw[Bool.eq_iff_iff]
        simp only[List.any_eq_true,zA7,List.mem_range]
        constructor
        ·rintro⟨j,hj,fR,ij⟩
         refine⟨j,hj,?_,ij⟩
         by_cases e:j=i
         ·subst e;rw[Zca hl]at fR;cases fR
         ·rw[getD_set_ne false (Ne.symm e)]at fR;exact fR
        ·rintro⟨j,hj,fR,ij⟩
         refine⟨j,hj,?_,ij⟩
         by_cases e:j=i
         ·subst e
          rw[k7]at ij
          have:=Zbo.1 ij
          rw[hd]at this;cases this
          exact absurd rfl ht
         ·rw[getD_set_ne false (Ne.symm e)];exact fR
      unfold ZoH St.wenv St.put
      simp only[l6]
      congr 1
      funext t
      by_cases ht:t=d
      ·subst ht;simp[ZbO,q3]
      ·simp[Zam ht]
     rw[<-this];exact f0
   ·
    subst qs
    rw[oi]at ho;cases ho
    obtain⟨rfl,rfl⟩:=hA jI
    have vu:S.wenv e=(ZoH ops i listed S (S.wenv e)).wenv e:=rfl
    have lC:∀x∈q.args.toList,∀t,x=.tmp t->e t=(ZoH ops i listed S (S.wenv e)).env t:=λx hx t ht=>by
     show e t=(bif unl ops i listed t then S.env t else e t)
     cases hu:unl ops i listed t with
     | false=>rfl
     | true=>
      exfalso
      unfold unl at hu
      simp only[List.any_eq_true,zA7,List.mem_range]at hu
      obtain⟨j,hj,fR,ij⟩:=hu
      have:=qo j (List.mem_range.2 hj)
      simp only[Bool.or_eq_true]at this
      rcases this with h6|h6
      ·rw[fG j (ZaN.1 h6)]at fR;cases fR
      ·split at h6
       ·cases h6
       ·rename_i oj rU
        rw[rU]at ij
        have vv:=Zbo.1 ij
        simp only[vv,List.all_eq_true]at h6
        have:=h6 x hx
        subst ht
        simp[Zlk,mem,ZbO]at this
    rw[vu]at h5 h4
    have h6:=Zls rR hq ku hP (ZgX rS) l3 om vp lC h4 h5
    refine Zc1 hE hF hY (Zcl aH _ _ lR) aG h6 (n:=n) (Q:=Q) (next:=wpAnyIn F n E.P .any ops Q fuel (listed.setIfInBounds i true)) (λS2 m2 a2 w2 eK f0=>?_)
    obtain⟨X2,z1,z2,z3,z4,z5⟩:=eK
    have rW:∀t,t≠dc->X2.env t=e t:=λt ht=>(z3 t (by rw[oq];exact λh=>ht (Option.some.inj h).symm)).1
    refine ih _ X2 m2 a2 w2 (by simpa using bU) (λj hj=>gk j hj (by omega)) (by have:=dec (i:=i) (by omega) jI;omega) (λo' ho'=>?_) (λid cI=>(z5 id cI).trans (qp id cI)) (λt ht=>?_) (λhb=>?_) (λ_=>⟨z1,λp hp=>?_⟩) ?_
    ·obtain⟨T',x',d',v,q1,q2,q3,q4⟩:=hX o' ho'
     refine⟨T',x',d',v,q1,q2,?_,q4⟩
     obtain⟨j,hj⟩:=List.getElem?_of_mem ho'
     rw[rW d' (λe=>ou (e ▸ ZaO hj q2))];exact q3
    ·have:t≠dc:=λe=>ht (e ▸ ZaO lR oq)
     rw[rW t this];exact qr t ht
    ·rw[Zca hl]at hb;cases hb
    ·have:=fG p hp
     by_cases e:p=i
     ·subst e;exact Zca hl
     ·rw[getD_set_ne false (Ne.symm e)];exact this
    ·have:S2=ZoH ops i (listed.setIfInBounds i true) S X2:=by
      have l6:∀t,unl ops i (listed.setIfInBounds i true) t=unl ops i listed t:=λt=>by
       unfold unl
       rw[Bool.eq_iff_iff]
       simp only[List.any_eq_true,zA7,List.mem_range]
       constructor
       ·rintro⟨j,hj,fR,ij⟩
        rw[getD_set_ne false (by omega)]at fR
        exact⟨j,hj,fR,ij⟩
       ·rintro⟨j,hj,fR,ij⟩
        exact⟨j,hj,by rw[getD_set_ne false (by omega)];exact fR,ij⟩
      have hs:S2=X2.wenv S2.env:=by rw[<-z2];rfl
      rw[hs]
      unfold ZoH
      congr 1
      funext t
      rw[l6]
      by_cases ht:t=dc
      ·subst ht
       have:unl ops i listed t=false:=by
        cases hu:unl ops i listed t with
        | false=>rfl
        | true=>exact absurd (unl_mem hu) ou
       rw[this,cond_false]
       exact z4 t oq
      ·rw[(z3 t (by rw[oq];exact λh=>ht (Option.some.inj h).symm)).2,rW t ht]
       rfl
     rw[<-this];exact f0
   ·exfalso
    obtain⟨o3,lZ,kt,_,rX⟩:=fA i (by omega) hi'
    rw[lZ]at ho;cases ho
    by_cases rY:i=c+1
    ·apply bR
     intro j hj
     by_cases e:j=c
     ·subst e;exact fG _ (kt _ (Nat.le_refl _) (by omega))
     ·rcases rX rY j (by omega)with h6|h6
      ·exact fG j h6
      ·exact(hB (fG c (kt c (Nat.le_refl _) (by omega)))).2 j h6
    ·have:=fG (c+1) (kt (c+1) (by omega) (by omega))
     rw[gX (c+1) (Nat.le_refl _)]at this;cases this
 have none0:∀j,(Array.replicate ops.size false).getD j false=false:=λj=>by simp[Array.getD]
 refine main ops.size _ (S.wenv e) m a w (by simp) (λj _=>none0 j) ?_ hV (λ_ _=>rfl) (λt ht=>he t (λhm=>ht (takeSub t hm))) (λ_=>⟨rfl,rfl⟩) (λhb=>?_) ?_
 ·have:=List.countP_le_length (p:=λj=>!(Array.replicate ops.size false).getD j false) (l:=List.range (c+1))
  simp only[List.length_range]at this
  omega
 ·rw[none0]at hb;cases hb
 ·have:ZoH ops c (Array.replicate ops.size false) S (S.wenv e)=S:=by
   have:∀t,(bif unl ops c (Array.replicate ops.size false) t then S.env t else e t)=S.env t:=λt=>by
    cases hu:unl ops c (Array.replicate ops.size false) t with
    | true=>rfl
    | false=>
     refine he t λhm=>?_
     have:unl ops c (Array.replicate ops.size false) t=true:=by
      have vA:∀{l:List Oper} {t:Nat},t∈Zao l->∃(j:Nat)(o:Oper),l[j]?=some o/\o.dst=some t:=by
       intro l
       induction l with
       | nil=>intro t h;simp[Zao]at h
       | cons x l ih=>
        intro t h
        unfold Zao at h
        split at h
        ·obtain⟨j,o,h1,h2⟩:=ih h
         exact⟨j+1,o,by simpa using h1,h2⟩
        ·rename_i d hd
         rcases List.mem_cons.1 h with rfl|h
         ·exact⟨0,x,by simp,hd⟩
         ·obtain⟨j,o,h1,h2⟩:=ih h
          exact⟨j+1,o,by simpa using h1,h2⟩
      obtain⟨j,o,hj,hd⟩:=vA hm
      have ug:j < c:=by
       have:=(zA0 hj).1
       simp at this;omega
      have hj':ops.toList[j]?=some o:=by rw[List.getElem?_take_of_lt ug]at hj;exact hj
      unfold unl
      simp only[List.any_eq_true,zA7,List.mem_range]
      refine⟨j,ug,by rw[none0];rfl,?_⟩
      rw[hj'];exact Zbo.2 hd
     rw[hu]at this;cases this
   unfold ZoH St.wenv
   cases S
   simp only at this ⊢
   congr 1
   funext t;exact this t
  rw[this];exact hr
theorem Ziv:∀{l:List DOp} {p j:Nat},j∈ZtQ l p->∃c∈l,c.i=p/\j∈c.an
 | [],p,j,h=>by simp[ZtQ]at h
 | d::l,p,j,h=>by
  simp only[ZtQ]at h
  cases hb:Nat.beq d.i p with
  | true=>simp only[hb,cond_true]at h;exact⟨d,by simp,Nat.eq_of_beq_eq_true hb,h⟩
  | false=>
   simp only[hb,cond_false]at h
   obtain⟨c,hc,h1⟩:=Ziv h
   exact⟨c,by simp[hc],h1⟩
theorem Zlt{E:Env}{ops:Array Oper}:∀{r before l1:List DOp} {d:DOp} {l2:List DOp},Zhg E ops r before=true->r=l1++d::l2->Zti E ops d (l1.reverse++before)=true
 | [],before,l1,d,l2,h,e=>by simp at e
 | x::r,before,[],d,l2,h,e=>by
  simp only[Zhg,zA7]at h
  simp at e
  rw[<-e.1];exact h.1
 | x::r,before,y::l1,d,l2,h,e=>by
  simp only[Zhg,zA7]at h
  simp at e
  obtain⟨rfl,e⟩:=e
  have:=Zlt h.2 e
  simpa using this
structure Fact (E:Env)(ops:Array Oper)(ds:List DOp)(d:DOp)(o:Oper):Prop where
 ok:DOk E ops d o
 vw:∀j,j∈d.vw->j∈d.an
 an:∀j,j∈d.an->j∈Za3 o\/∃p∈Za3 o,∃c∈ds,c.i=p/\j∈c.an
theorem Ziw{E:Env}{ops:Array Oper}{ds:List DOp}(h:Zhg E ops ds []=true){l1 l2:List DOp}{d:DOp}(e:ds=l1++d::l2):
  ∃o,Fact E ops ds d o/\(∀p∈Za3 o,∃c∈l1,c.i=p)/\(∀c∈l1,(c.i∈d.an\/ZnW ops c d=true)/\c.i≠d.i):=by
 have h1:=Zlt h e
 simp only[List.append_nil]at h1
 unfold Zti at h1
 split at h1
 ·cases h1
 ·rename_i o ho
  simp only[zA7,List.all_eq_true,Bool.or_eq_true,List.any_eq_true]at h1
  obtain⟨⟨⟨⟨⟨⟨g1,g2⟩,g3⟩,g4,g5⟩,g6⟩,g7⟩,g8⟩:=h1
  have eW:∀c∈l1.reverse,c∈ds:=λc hc=>by rw[e];simp at hc ⊢;exact .inl hc
  refine⟨o,⟨⟨ho,g1,Zge g2,Zge g3⟩,Zge g4,λj hj=>?_⟩,λp hp=>?_,λc hc=>⟨?_,?_⟩⟩
  ·rcases g6 j hj with h2|⟨p,hp,h2⟩
   ·exact .inl (ZaN.1 h2)
   ·obtain⟨c,hc,h3,h4⟩:=Ziv (ZaN.1 h2)
    exact .inr ⟨p,hp,c,eW c hc,h3,h4⟩
  ·have:=Zge g5 p hp
   obtain⟨c,hc,h2⟩:=List.mem_map.1 this
   exact⟨c,by simpa using hc,h2⟩
  ·exact(g7 c (by simpa using hc)).imp ZaN.1 id
  ·have:=g8 c (by simpa using hc)
   intro e;rw[e,ZbO]at this;simp at this
theorem Zfx{α:Type}{R:α->α->Prop}:∀{l:List α},(∀l1 d l2,l=l1++d::l2->∀c∈l1,R c d)->l.Pairwise R
 | [],_=>List.Pairwise.nil
 | x::l,h=>by
  refine List.Pairwise.cons (λy hy=>?_) (Zfx λl1 d l2 e c hc=>h (x::l1) d l2 (by simp[e]) c (by simp[hc]))
  obtain⟨s,t,rfl⟩:=List.append_of_mem hy
  exact h (x::s) y t (by simp) x (by simp)
structure Inv (ds:List DOp)(dn:Nat->Bool)(rem:List DOp):Prop where
 rem:rem=ds.filter λc=>!dn c.i
 closed:∀d∈ds,dn d.i=true->∀j,j∈d.an->dn j=true
section
variable {E:Env} {ops:Array Oper} {ds:List DOp} {dn:Nat->Bool}
theorem Inv.an_of{rem:List DOp}(h:Inv ds dn rem){d:DOp}{o:Oper}(hd:Fact E ops ds d o)(hp:∀p,p∈Za3 o->dn p=true):∀j,j∈d.an->dn j=true:=λj hj=>by
 rcases hd.an j hj with h1|⟨p,h1,c,h2,h3,h4⟩
 ·exact hp j h1
 ·exact h.closed c h2 (h3 ▸ hp p h1) j h4
theorem Inv.step{r1 r2:List DOp}{d:DOp}(hp:ds.Pairwise λc d=>c.i≠d.i)(h:Inv ds dn (r1++d::r2))(hd:∀j,j∈d.an->dn j=true):Inv ds (λj=>dn j||Nat.beq j d.i) (r1++r2):=by
 have fG:(r1++d::r2).Pairwise λc d=>c.i≠d.i:=by rw[h.rem];exact hp.sublist List.filter_sublist
 refine⟨?_,λc hc om j hj=>?_⟩
 ·have e:(ds.filter λc=>!(dn c.i||Nat.beq c.i d.i))=(r1++d::r2).filter λc=>!Nat.beq c.i d.i:=by
   rw[h.rem,List.filter_filter]
   congr 1;funext c
   cases dn c.i <;> simp
  rw[e,List.filter_append,List.filter_cons]
  simp only[ZbO,Bool.not_true,Bool.false_eq_true,if_false]
  rw[List.pairwise_append]at fG
  obtain⟨_,h2,h3⟩:=fG
  rw[List.pairwise_cons]at h2
  rw[List.filter_eq_self.2,List.filter_eq_self.2]
  ·intro c hc
   have:=h2.1 c hc
   simp[Zam (Ne.symm this)]
  ·intro c hc
   have:=h3 c hc d (by simp)
   simp[Zam this]
 ·simp only[Bool.or_eq_true]at om ⊢
  rcases om with h1|h1
  ·exact .inl (h.closed c hc h1 j hj)
  ·have:c=d:=by
    have k8:d∈ds:=by
     have:d∈ds.filter λc=>!dn c.i:=by rw[<-h.rem];simp
     exact(List.mem_filter.1 this).1
    have hi:=Nat.eq_of_beq_eq_true h1
    by_cases e:c=d
    ·exact e
    ·exfalso
     obtain⟨s,t,rfl⟩:=List.append_of_mem hc
     rw[List.pairwise_append,List.pairwise_cons]at hp
     simp only[List.mem_append,List.mem_cons]at k8
     rcases k8 with k8|k8|k8
     ·exact hp.2.2 d k8 c (by simp) hi.symm
     ·exact e k8.symm
     ·exact hp.2.1.1 d k8 hi
   subst this
   exact .inl (hd j hj)
theorem Inv.head{d:DOp}{r:List DOp}(bX:Zhg E ops ds []=true)(h:Inv ds dn (d::r)):∃o,Fact E ops ds d o/\∀p,p∈Za3 o->dn p=true:=by
 obtain⟨l1,l2,h1,h2,h3,_⟩:=List.filter_eq_cons_iff.1 h.rem.symm
 obtain⟨o,hf,hp,_⟩:=Ziw bX h1
 refine⟨o,hf,λp nK=>?_⟩
 obtain⟨c,hc,rfl⟩:=hp p nK
 have:=h2 c hc
 simpa using this
theorem Inv.topo(bX:Zhg E ops ds []=true)(hp:ds.Pairwise λc d=>c.i≠d.i):∀{r1 r2:List DOp} {dn:Nat->Bool},Inv ds dn (r1++r2)->Ztk (λj=>dn j=true) r1
 | [],r2,dn,h=>trivial
 | c::r1,r2,dn,h=>by
  obtain⟨o,hf,fG⟩:=h.head bX
  have np:=h.an_of hf fG
  refine⟨λj hj=>np j (hf.vw j hj),?_⟩
  have:=Inv.topo bX hp (r1:=r1) (r2:=r2) (Inv.step (r1:=[]) hp h np)
  have e:(λj=>(dn j||Nat.beq j c.i)=true)=(λj=>dn j=true\/j=c.i):=by
   funext j
   rw[Bool.or_eq_true]
   exact propext ⟨λh=>h.imp id Nat.eq_of_beq_eq_true,λh=>h.imp id λe=>by rw[e];exact ZbO _⟩
  rw[e]at this
  exact this
end
theorem Zgg{ops:Array Oper}:∀{ds:List DOp} {j:Nat},j∈Zhc ops ds->∃d∈ds,d.i=j
 | [],j,h=>by simp[Zhc]at h
 | d::r,j,h=>by
  simp only[Zhc]at h
  split at h
  ·obtain⟨c,hc,e⟩:=Zgg h;exact⟨c,by simp[hc],e⟩
  ·rename_i o _
   cases hg:Zdf o with
   | true=>
    simp only[hg,cond_true,List.mem_cons]at h
    rcases h with h|h
    ·exact⟨d,by simp,h.symm⟩
    ·obtain⟨c,hc,e⟩:=Zgg h;exact⟨c,by simp[hc],e⟩
   | false=>
    simp only[hg,cond_false]at h
    obtain⟨c,hc,e⟩:=Zgg h;exact⟨c,by simp[hc],e⟩
theorem Zix{ops:Array Oper}:∀{ds:List DOp},Zhc ops ds=[]->∀d∈ds,∀o,ops.toList[d.i]?=some o->Zdf o=false
 | [],_,d,hd=>by simp at hd
 | c::r,h,d,hd=>λo ho=>by
  simp only[Zhc]at h
  rcases List.mem_cons.1 hd with rfl|hd
  ·simp only[ho]at h
   cases hg:Zdf o with
   | false=>rfl
   | true=>simp[hg]at h
  ·split at h
   ·exact Zix h d hd o ho
   ·rename_i oc _
    cases hg:Zdf oc with
    | true=>simp[hg]at h
    | false=>simp only[hg,cond_false]at h;exact Zix h d hd o ho
theorem Zlu{C:Ctx}{E:Env}(hE:E.ok){F:Fence}(hF:FOk F)(hY:YOk E C){ops:Array Oper}(aH:Zjb C.n ops.toList=true)(gm:E.fix=none){m0:Mem}{f:Fx}{ds:List DOp}(bX:Zhg E ops ds []=true)
  {n e:Nat} {Q:Exit->Act->World->Prop} {K:St->Mem->Prop}
  (l7:∀(listed:Array Bool)(rem:List DOp) i,Inv ds (λj=>listed.getD j false) rem->(∀j,listed.getD j false=true->∃d∈ds,d.i=j)->listed.size=ops.size->i∈Region.ready .any ops listed->(∃d∈ds,d.i=i)\/∀d∈ds,listed.getD d.i false=true)
  (jG:∀(fuel:Nat)(listed:Array Bool)(S':St)(m':Mem)(a':Act)(w':World),e<=fuel->listed.size=ops.size->(∀d∈ds,listed.getD d.i false=true)->(∀j,listed.getD j false=true->∃d∈ds,d.i=j)->K S' m'->Rel C S' m' a' w'->wpAnyIn F n E.P .any ops Q fuel listed a' w'):
  ∀(fuel:Nat){listed:Array Bool}{rem:List DOp}{S:St}{μ:Nat->Mem}{A:Mem}{a:Act}{w:World},listed.size=ops.size->Inv ds (λj=>listed.getD j false) rem->rem.length+e<=fuel->Rel C S A a w->m0.le A->
   (∀j,listed.getD j false=true->(μ j).le A)->(∀j,listed.getD j false=true->∃d∈ds,d.i=j)->(Zhc ops ds=[]->A=m0)->(∀d∈ds,(∀i,i∈d.ws->i∈S.ids)/\∀k,d.tk=some k->k∈S.tkeys)->
   Zha E ops m0 f rem (λS' μ=>Ztg m0 μ (Zhc ops ds) λM=>K S' M) S μ->wpAnyIn F n E.P .any ops Q fuel listed a w:=by
 have j6:ds.Pairwise λc d=>(c.i∈d.an\/ZnW ops c d=true)/\c.i≠d.i:=Zfx λl1 d l2 e c hc=>by
  obtain⟨o,_,_,h⟩:=Ziw bX e
  exact h c hc
 have kZ:ds.Pairwise λc d=>c.i≠d.i:=j6.imp λh=>h.2
 have factOf:∀d∈ds,∃o,Fact E ops ds d o:=λd hd=>by
  obtain⟨s,t,e⟩:=List.append_of_mem hd
  obtain⟨o,h,_⟩:=Ziw bX e
  exact⟨o,h⟩
 have allOf:∀{listed:Array Bool} {rem:List DOp},Inv ds (λj=>listed.getD j false) rem->rem=[]->∀d∈ds,listed.getD d.i false=true:=λcN he d hd=>by
  subst he
  have:=List.filter_eq_nil_iff.1 cN.rem.symm d hd
  simpa using this
 have fin:∀{fuel:Nat} {listed:Array Bool} {rem:List DOp} {S:St} {μ:Nat->Mem} {A:Mem} {a:Act} {w:World},listed.size=ops.size->Inv ds (λj=>listed.getD j false) rem->Rel C S A a w->m0.le A->(∀j,listed.getD j false=true->(μ j).le A)->(∀j,listed.getD j false=true->∃d∈ds,d.i=j)->(Zhc ops ds=[]->A=m0)->
   Zha E ops m0 f rem (λS' μ=>Ztg m0 μ (Zhc ops ds) λM=>K S' M) S μ->rem=[]->e<=fuel->wpAnyIn F n E.P .any ops Q fuel listed a w:=by
  intro fuel listed rem S μ A a w bU cN hr h0 hμ hl hg hn he j8
  have bR:=allOf cN he
  subst he
  refine jG fuel listed S A a w j8 bU bR hl (Zpa hn h0 hg λj hj=>?_) hr
  obtain⟨d,hd,rfl⟩:=Zgg hj
  exact hμ _ (bR d hd)
 have stuck:∀{listed:Array Bool} {rem:List DOp},listed.size=ops.size->Inv ds (λj=>listed.getD j false) rem->Region.ready .any ops listed=[]->rem=[]:=by
  intro listed rem bU cN cM
  cases rem with
  | nil=>rfl
  | cons d r=>
   exfalso
   obtain⟨o,hf,hp⟩:=cN.head bX
   have cD:d∈ds.filter λc=>!listed.getD c.i false:=by rw[<-cN.rem];simp
   have h1:=(List.mem_filter.1 cD).2
   have ho':ops[d.i]?=some o:=by simpa using hf.ok.at_
   have aF:d.i < ops.size:=(Array.getElem?_eq_some_iff.1 ho').1
   have:d.i∈Region.ready .any ops listed:=mem_ready.2 ⟨by
    have hl:d.i < listed.size:=by omega
    simpa[Array.getD,hl]using h1,o,ho',λe he hb=>hp e.on (by
     simp only[Za3,List.mem_map,List.mem_filter]
     exact⟨e,⟨by simpa using he,hb⟩,rfl⟩)⟩
   rw[cM]at this;simp at this
 intro fuel
 induction fuel with
 | zero=>
  intro listed rem S μ A a w bU cN bG hr h0 hμ i8 hg dI hn
  have he:rem=[]:=List.eq_nil_of_length_eq_zero (by omega)
  exact fin bU cN hr h0 hμ i8 hg hn he (by omega)
 | succ fuel ih=>
  intro listed rem S μ A a w bU cN bG hr h0 hμ i8 hg dI hn
  by_cases l8:rem=[]
  ·exact fin bU cN hr h0 hμ i8 hg hn l8 (by omega)
  refine⟨λcM=>absurd (stuck bU cN cM) l8,λi hi=>?_⟩
  rcases l7 listed rem i cN i8 bU hi with⟨d,hd,rfl⟩|ow
  rotate_left
  ·exfalso
   apply l8
   rw[cN.rem,List.filter_eq_nil_iff]
   intro d hd
   simp[ow d hd]
  obtain⟨hQ,o,ho,bR⟩:=mem_ready.1 hi
  have aF:d.i < ops.size:=(Array.getElem?_eq_some_iff.1 ho).1
  have hl:d.i < listed.size:=by omega
  have jI:listed.getD d.i false=false:=by simp[Array.getD,hl]at hQ ⊢;exact hQ
  obtain⟨o',hf⟩:=factOf d hd
  have:o'=o:=by
   have h1:=hf.ok.at_
   have h2:ops.toList[d.i]?=some o:=by simpa using ho
   rw[h1]at h2;exact Option.some.inj h2
  subst this
  have fG:∀p,p∈Za3 o'->listed.getD p false=true:=λp hp=>by
   simp only[Za3,List.mem_map,List.mem_filter]at hp
   obtain⟨e,⟨he,hb⟩,rfl⟩:=hp
   exact bR e (by simpa using he) hb
  have np:=cN.an_of hf fG
  have nm:d∈rem:=by rw[cN.rem];exact List.mem_filter.2 ⟨hd,by simp[jI]⟩
  obtain⟨r1,r2,rfl⟩:=List.append_of_mem nm
  have cW:(r1++d::r2).Sublist ds:=by rw[cN.rem];exact List.filter_sublist
  have oA:=j6.sublist cW
  have fZ:∀c∈r1,ZnW ops c d=true:=λc hc=>by
   rw[List.pairwise_append]at oA
   rcases(oA.2.2 c hc d (by simp)).1 with h1|h1
   ·have h2:=np _ h1
    have vB:c∈ds.filter λc=>!listed.getD c.i false:=by rw[<-cN.rem];simp[hc]
    have h3:=(List.mem_filter.1 vB).2
    rw[h2]at h3;cases h3
   ·exact h1
  have eW:∀c∈r1++d::r2,c∈ds:=λc hc=>cW.subset hc
  have hT:=extract hE hF hY aH gm (r1:=r1) (D:=λj=>listed.getD j false=true) hr h0 hμ (cN.topo bX kZ) (λc hc=>by
   obtain⟨oc,kO⟩:=factOf c (eW c (by simp[hc]))
   exact⟨⟨oc,kO.ok⟩,dI c (eW c (by simp[hc]))⟩) fZ hn
  refine Zn0 hE hF hY aH gm hf.ok (dI d hd).1 (dI d hd).2 hr h0 (λj hj=>hμ j (np j (hf.vw j hj))) hT ?_
  intro S' m' A' a' w' eT aG hA hm k9
  have oB:(λj=>(listed.setIfInBounds d.i true).getD j false)=λj=>listed.getD j false||Nat.beq j d.i:=by
   funext j
   by_cases hj:j=d.i
   ·subst hj;simp[Array.getD,hl]
   ·have:Nat.beq j d.i=false:=Zam hj
    rw[getD_set_ne false (Ne.symm hj),this,Bool.or_false]
  refine ih (rem:=r1++r2) (S:=ZmY ops d S S') (μ:=upd μ d.i m') (A:=A') (by simpa using bU) ?_ (by simp at bG ⊢;omega) aG (mLt h0 hA) ?_ ?_ ?_ ?_ (ZnZ hf.ok.ws fZ hn eT)
  ·rw[oB];exact cN.step kZ np
  ·intro j hj
   have hj':(listed.getD j false||Nat.beq j d.i)=true:=by rw[<-hj];exact(congrFun oB j).symm
   by_cases e:j=d.i
   ·subst e;rw[Zn1];exact hm
   ·rw[Zsk e]
    rw[Zam e,Bool.or_false]at hj'
    exact mLt (hμ j hj') hA
  ·intro j hj
   have hj':(listed.getD j false||Nat.beq j d.i)=true:=by rw[<-hj];exact(congrFun oB j).symm
   rw[Bool.or_eq_true]at hj'
   rcases hj' with h|h
   ·exact i8 j h
   ·exact⟨d,hd,(Nat.eq_of_beq_eq_true h).symm⟩
  ·intro uh
   rw[k9 (Zix uh d hd o' hf.ok.at_)]
   exact hg uh
  ·intro c hc
   rw[(Ziu ops d S S').1,(Ziu ops d S S').2]
   exact dI c hc
theorem Zlv:∀{ds:List DOp} {d:DOp} {i:Nat},d∈ds->i∈d.ws->i∈Zse ds
 | [],d,i,hd,_=>by simp at hd
 | c::r,d,i,hd,hi=>by
  simp only[Zse,List.mem_append]
  rcases List.mem_cons.1 hd with rfl|hd
  ·exact .inl hi
  ·exact .inr (Zlv hd hi)
theorem Zlw:∀{ds:List DOp} {d:DOp} {k:Nat},d∈ds->d.tk=some k->k∈ZrP ds
 | [],d,k,hd,_=>by simp at hd
 | c::r,d,k,hd,hk=>by
  simp only[ZrP]
  rcases List.mem_cons.1 hd with rfl|hd
  ·simp[hk]
  ·have:=Zlw hd hk
   cases c.tk <;> simp[this]
theorem Zlx{C:Ctx}{S:St}{m:Mem}{a:Act}{w:World}(h:Rel C S m a w)(ds:List DOp):Rel C (Ziq ds S) m a w:=
 h.restrict rfl (λ_ _ hx=>hx) (λ_ _ ht=>.inl ht) (λi sv he=>by
  obtain⟨v,h1,h2⟩:=h.env i sv he
  exact⟨v,by cases sv <;> exact h1,h2⟩) (λid x hx=>by simp only[Ziq];exact List.mem_append_right _ (h.ids id x hx)) (λk t ht=>by simp only[Ziq];exact List.mem_append_right _ (h.tkeys k t ht))
theorem Zju{E:Env}(hE:E.ok)(dK:E.P.follows .mixedOrders=true):Zc5 E (Zir E):=by
 intro C F hF hY n id ops K S m a w Q aH hr h hK
 have over:∀(fuel:Nat)(listed:Array Bool)(S':St)(m':Mem)(a':Act)(w':World),listed.size=ops.size->(∀j,j < ops.size->listed.getD j false=true)->K S' m'->Rel C S' m' a' w'->wpAnyIn F n E.P .any ops Q fuel listed a' w':=by
  intro fuel listed S' m' a' w' bU bR hk aG
  have gX:Region.ready .any ops listed=[]:=by
   cases cM:Region.ready .any ops listed with
   | nil=>rfl
   | cons i l=>
    exfalso
    have hi:i∈Region.ready .any ops listed:=by rw[cM];simp
    obtain⟨hQ,o,ho,_⟩:=mem_ready.1 hi
    have aF:i < ops.size:=(Array.getElem?_eq_some_iff.1 ho).1
    have h1:=bR i aF
    have hl:i < listed.size:=by omega
    simp[Array.getD,hl]at hQ h1
    rw[hQ]at h1;cases h1
  cases fuel with
  | zero=>exact⟨gX,hK _ _ _ _ hk aG⟩
  | succ fuel=>exact⟨λ_=>hK _ _ _ _ hk aG,λi hi=>by rw[gX]at hi;simp at hi⟩
 unfold Zir at h
 cases hh:E.hot id with
 | true=>
  simp only[hh,cond_true]at h
  exact wpIn_region_any dK (Zsm hE hF hY aH over hr.drew h)
 | false=>
 simp only[hh,cond_false]at h
 obtain⟨h1,h2⟩:=Zad h
 obtain⟨f,h2⟩:=Zq7 h2
 have h2:Zha E ops m f (E.dr id) (λS' μ=>Ztg m μ (Zhc ops (E.dr id)) λM=>bif E.last id then Zo7 E ops (E.lastK id) K S' M else K S' M) (Ziq (E.dr id) S) (λ_=>m):=by
  cases nX:E.gb with
  | false=>simp only[nX,cond_false]at h2;exact h2
  | true=>simp only[nX,cond_true]at h2;exact ZhN h2
 simp only[Zsf,zA7,List.all_eq_true,List.any_eq_true]at h1
 obtain⟨⟨⟨⟨l7,bG⟩,bX⟩,gm⟩,dB⟩:=h1
 refine wpIn_region_any dK ?_
 have gy:∀i,i < (bif E.last id then ops.size - E.lastK id else ops.size)->∃d∈E.dr id,d.i=i:=λi hi=>by
  obtain⟨d,hd,e⟩:=l7 i (List.mem_range.2 hi)
  exact⟨d,hd,Nat.eq_of_beq_eq_true e⟩
 have bG:(E.dr id).length<=ops.size:=Nat.le_of_ble_eq_true bG
 have inv0:Inv (E.dr id) (λj=>(Array.replicate ops.size false).getD j false) (E.dr id):=by
  refine⟨(List.filter_eq_self.2 λc hc=>?_).symm,λd hd oB=>?_⟩
  ·simp[Array.getD]
  ·simp[Array.getD]at oB
 have none0:∀j,(Array.replicate ops.size false).getD j false=true->False:=λj hj=>by simp[Array.getD]at hj
 have ids0:∀d∈E.dr id,(∀i,i∈d.ws->i∈(Ziq (E.dr id) S).ids)/\∀k,d.tk=some k->k∈(Ziq (E.dr id) S).tkeys:=λd hd=>
  ⟨λi hi=>List.mem_append_left _ (Zlv hd hi),λk hk=>List.mem_append_left _ (Zlw hd hk)⟩
 cases hl:E.last id with
 | false=>
  simp only[hl,cond_false]at h2 gy
  refine Zlu hE hF hY aH (by simpa using gm) bX (e:=0) (λlisted _ i _ _ _ hi=>.inl ?_) (λfuel listed S' m' a' w' _ bU bR _ hk aG=>over fuel listed S' m' a' w' bU (λj hj=>by obtain⟨d,hd,rfl⟩:=gy j hj;exact bR d hd) hk aG) ops.size (rem:=E.dr id) (A:=m) (by simp) inv0 (by omega) ((Zlx hr.drew (E.dr id))) (Mem.le_refl m) (λj hj=>(none0 j hj).elim) (λj hj=>(none0 j hj).elim) (λ_=>rfl) ids0 h2
  obtain⟨_,o,ho,_⟩:=mem_ready.1 hi
  exact gy i (Array.getElem?_eq_some_iff.1 ho).1
 | true=>
  simp only[hl,cond_true]at h2 gy dB
  generalize E.lastK id=k at *
  unfold Zsg at dB
  simp only[zA7,List.all_eq_true]at dB
  obtain⟨⟨km,rZ⟩,oe⟩:=dB
  have km:=Nat.le_of_ble_eq_true km
  have fA:∀i,ops.size - k<=i->i < ops.size->∃o,ops[i]?=some o/\(∀j,ops.size - k<=j->j < i->j∈Za3 o)/\(∀j∈Za3 o,j < i)/\(i=ops.size - k->∀j,j < ops.size - k->j∈Za3 o\/∃p∈Za3 o,∃c∈E.dr id,c.i=p/\j∈c.an):=by
   intro i h1 h2
   have:=rZ (i - (ops.size - k)) (List.mem_range.2 (by omega))
   rw[show ops.size - k+(i - (ops.size - k))=i by omega]at this
   split at this
   ·cases this
   ·rename_i o ho
    simp only[zA7,List.all_eq_true]at this
    refine⟨o,by simpa using ho,λj ud hj=>?_,λj hj=>Nat.le_of_ble_eq_true (this.2.1 j hj),λhi j hj=>?_⟩
    ·have h3:=ZaN.1 (this.1 (j - (ops.size - k)) (List.mem_range.2 (by omega)))
     rw[show ops.size - k+(j - (ops.size - k))=j by omega]at h3
     exact h3
    ·have h3:=this.2.2
     rw[hi,Nat.sub_self]at h3
     simp only[show Nat.beq 0 0=true from rfl,cond_true,List.all_eq_true,Bool.or_eq_true,List.any_eq_true]at h3
     rcases h3 j (List.mem_range.2 hj)with h4|⟨p,hp,h4⟩
     ·exact .inl (ZaN.1 h4)
     ·obtain⟨c,hc,h5,h6⟩:=Ziv (ZaN.1 h4)
      exact .inr ⟨p,hp,c,hc,h5,h6⟩
  have kv:∀d∈E.dr id,d.i < ops.size - k:=λd hd=>Nat.le_of_ble_eq_true (oe d hd)
  have xi:(E.dr id).length+k<=ops.size:=by
   have kZ:(E.dr id).Pairwise λc d=>c.i≠d.i:=Zfx λl1 d l2 e c hc=>by
    obtain⟨o,_,_,h⟩:=Ziw bX e
    exact(h c hc).2
   have dQ:((E.dr id).map (·.i)).Nodup:=by
    unfold List.Nodup
    rw[List.pairwise_map]
    exact kZ
   have:=List.Nodup.length_le_of_subset dQ (l₂:=List.range (ops.size - k)) (λj hj=>by
    obtain⟨d,hd,rfl⟩:=List.mem_map.1 hj
    exact List.mem_range.2 (kv d hd))
   simp at this
   omega
  have tail:∀(r:List Oper)(i:Nat),ops.toList.drop i=r->ops.size - k<=i->i<=ops.size->∀(fuel:Nat)(listed:Array Bool)(S':St)(m':Mem)(a':Act)(w':World),r.length<=fuel->listed.size=ops.size->(∀j,j < i->listed.getD j false=true)->(∀j,i<=j->listed.getD j false=false)->ZhM E ops K r S' m'->Rel C S' m' a' w'->wpAnyIn F n E.P .any ops Q fuel listed a' w':=by
   intro r
   induction r with
   | nil=>
    intro i hi h1 h2 fuel listed S' m' a' w' _ bU bR _ hk aG
    have:ops.size<=i:=by
     have:=congrArg List.length hi
     simp at this
     omega
    exact over fuel listed S' m' a' w' bU (λj hj=>bR j (by omega)) hk aG
   | cons o r ih=>
    intro i hi h1 h2 fuel listed S' m' a' w' j8 bU bR dA hk aG
    have gp:i < ops.size:=by
     have:=congrArg List.length hi
     simp at this
     omega
    obtain⟨o',ho',nZ,dZ,_⟩:=fA i h1 gp
    have k7:ops.toList[i]?=some o:=by
     have:=congrArg (λl=>l[0]?) hi
     simpa using this
    have rN:o'=o:=by
     have:ops.toList[i]?=some o':=by simpa using ho'
     rw[k7]at this;cases this;rfl
    subst rN
    have rO:ops.toList.drop (i+1)=r:=by
     have:=congrArg (List.drop 1) hi
     simpa[List.drop_drop,Nat.add_comm]using this
    obtain⟨fuel,rfl⟩:∃k,fuel=k+1:=⟨fuel - 1,by simp at j8;omega⟩
    have hQ:listed.getD i false=false:=dA i (Nat.le_refl _)
    have dM:i < listed.size:=by omega
    refine⟨λcM=>?_,λq hq=>?_⟩
    ·exfalso
     have:i∈Region.ready .any ops listed:=mem_ready.2 ⟨by simpa[Array.getD,dM]using hQ,o',ho',λe he hb=>?_⟩
     ·rw[cM]at this;simp at this
     ·have hm:e.on∈Za3 o':=by
       simp only[Za3,List.mem_map,List.mem_filter]
       exact⟨e,⟨by simpa using he,hb⟩,rfl⟩
      exact bR _ (dZ _ hm)
    ·obtain⟨oa,o2,fw,fG⟩:=mem_ready.1 hq
     have hq':q < ops.size:=(Array.getElem?_eq_some_iff.1 fw).1
     have:q=i:=by
      by_cases h3:q < i
      ·have h4:=bR q h3
       have hl:q < listed.size:=by omega
       simp[Array.getD,hl]at oa h4
       rw[oa]at h4;cases h4
      ·by_cases h4:q=i
       ·exact h4
       ·exfalso
        obtain⟨o3,lZ,kt,_⟩:=fA q (by omega) hq'
        rw[lZ]at fw;cases fw
        have:=kt i h1 (by omega)
        simp only[Za3,List.mem_map,List.mem_filter]at this
        obtain⟨e,⟨he,hb⟩,h5⟩:=this
        have:=fG e (by simpa using he) hb
        rw[h5,hQ]at this;cases this
     subst this
     simp only[ZhM]at hk
     have:=ZgR hE hF hY (Zcl aH _ o' k7) aG hk (n:=n) (Q:=Q) (next:=wpAnyIn F n E.P .any ops Q fuel (listed.setIfInBounds q true)) (λS2 m2 a2 w2 eK f0=>ih (q+1) rO (by omega) (by omega) fuel _ S2 m2 a2 w2 (by simp at j8;omega) (by simpa using bU) (λj hj=>by
      by_cases e:j=q
      ·subst e;simp[Array.getD,dM]
      ·rw[getD_set_ne false (Ne.symm e)]
       exact bR j (by omega)) (λj hj=>by
      rw[getD_set_ne false (by omega)]
      exact dA j (by omega)) eK f0)
     unfold wpOpIn
     simp only[ho']
     exact this
  refine Zlu hE hF hY aH (by simpa using gm) bX (e:=k) (λlisted rem i cN i8 bU hi=>?_) (λfuel listed S' m' a' w' j8 bU bR i8 hk aG=>?_) ops.size (rem:=E.dr id) (A:=m) (by simp) inv0 (by omega) ((Zlx hr.drew (E.dr id))) (Mem.le_refl _) (λj hj=>(none0 j hj).elim) (λj hj=>(none0 j hj).elim) (λ_=>rfl) ids0 h2
  ·obtain⟨_,o2,fw,bR⟩:=mem_ready.1 hi
   have hi':i < ops.size:=(Array.getElem?_eq_some_iff.1 fw).1
   by_cases gS:i < ops.size - k
   ·exact .inl (gy i gS)
   ·right
    obtain⟨o3,lZ,kt,_,rX⟩:=fA i (by omega) hi'
    have vC:o2=o3:=by rw[lZ]at fw;cases fw;rfl
    subst vC
    have oC:∀j∈Za3 o2,listed.getD j false=true:=λj hj=>by
     simp only[Za3,List.mem_map,List.mem_filter]at hj
     obtain⟨e,⟨he,hb⟩,h3⟩:=hj
     have:=bR e (by simpa using he) hb
     rw[h3]at this
     exact this
    intro d hd
    by_cases rY:i=ops.size - k
    ·rcases rX rY d.i (kv d hd)with h3|⟨p,hp,c,hc,h3,h4⟩
     ·exact oC _ h3
     ·exact cN.closed c hc (h3 ▸ oC p hp) d.i h4
    ·exfalso
     have h3:=oC _ (kt (ops.size - k) (Nat.le_refl _) (by omega))
     obtain⟨d',hd',h4⟩:=i8 _ h3
     have:=kv d' hd'
     omega
  ·unfold Zo7 at hk
   refine tail _ (ops.size - k) rfl (Nat.le_refl _) (Nat.sub_le _ _) fuel listed S' m' a' w' (by simp;omega) bU (λj hj=>?_) (λj hj=>?_) hk aG
   ·obtain⟨d,hd,rfl⟩:=gy j hj
    exact bR d hd
   ·cases hb:listed.getD j false with
    | false=>rfl
    | true=>
     obtain⟨d,hd,h3⟩:=i8 _ hb
     have:=kv d hd
     omega
theorem Rel.ptrS{C:Ctx}{S:St}{m:Mem}{a:Act}{w:World}(h:Rel C S m a w)(ts:List Nat):Rel C (ptrS S ts) m a w:=by
 refine h.restrict rfl (λ_ _ hx=>hx) (λ_ _ ht=>.inl ht) (λt sv he=>?_) h.ids h.tkeys
 have den:∀sv,(Eng.ptrS S ts).den sv=S.den sv:=λsv=>by cases sv <;> rfl
 rw[den]
 have he:(bif mem ts t then Zuf S (S.env t)else S.env t)=some sv:=he
 cases hm:mem ts t with
 | false=>rw[hm]at he;exact h.env t sv he
 | true=>
  rw[hm,cond_true]at he
  unfold Zuf at he
  split at he
  ·rename_i i off hi
   cases hx:S.L i with
   | none=>simp[hx]at he
   | some x=>
    simp only[hx,Option.some.injEq]at he
    subst he
    obtain⟨v,h1,h2⟩:=h.env t _ hi
    simp only[St.den,hx]at h1
    cases h1
    exact⟨_,rfl,h2⟩
  ·exact h.env t sv he
theorem Zn6{E:Env}(hE:E.ok)(dK:E.P.follows .mixedOrders=true){C:Ctx}{F:Fence}(hF:FOk F)(hY:YOk E C)(n:Nat)(id:Nat)(ops:Array Oper){K:St->Mem->Prop}{S2:St}{m2:Mem}{a:Act}{w:World}{Q:Exit->Act->World->Prop}
  (aH:Zjb C.n ops.toList=true) (ge:Rel C S2 m2 a w) (h2:ZtT (E.ptrAt id) (Zao ops.toList) (Zir E id ops) K S2 m2) (hK:∀S' m' a' w',K S' m'->Rel C S' m' a' w'->Q .normal a' w'):(Code.region id ops true).wpIn F n E.P Q a w:=by
 unfold ZtT at h2
 split at h2
 ·exact Zju hE dK hF hY n id ops aH ge h2 hK
 ·rename_i t0 tl ko
  obtain⟨h3,h4⟩:=Zad h2
  generalize E.ptrAt id=ts at *
  have h5:=Zis E id ops _ (λS' m'=>SameOut (Zao ops.toList) (ptrS S2 ts) S'/\Zhh S2 S' ts (K (Zsh S2 S' ts) m')) _ m2 (λS' m' hs _ y=>⟨hs,y⟩) h4
  refine Zju hE dK hF hY n id ops aH (ge.ptrS ts) h5 (λS' m' a' w' hk aG=>?_)
  obtain⟨hs,hk⟩:=hk
  obtain⟨hk,hp⟩:=Zfw hk
  refine hK _ m' a' w' hk (aG.restrict rfl (λ_ _ hx=>hx) (λ_ _ ht=>.inl ht) (λt sv he=>?_) aG.ids aG.tkeys)
  have den:∀sv,(Zsh S2 S' ts).den sv=S'.den sv:=λsv=>by cases sv <;> rfl
  rw[den]
  have he:(bif mem ts t then S2.env t else S'.env t)=some sv:=he
  cases hm:mem ts t with
  | false=>rw[hm]at he;exact aG.env t sv he
  | true=>
   rw[hm,cond_true]at he
   have qg:=ZaN.1 hm
   have dQ:t ∉ Zao ops.toList:=λhd=>by
    have:=List.all_eq_true.1 h3 t qg
    simp[ZaN.2 hd]at this
   have h6:=hs t dQ
   have h7:(ptrS S2 ts).env t=Zuf S2 (S2.env t):=by show(bif mem ts t then _ else _)=_;rw[hm];rfl
   rcases hp t qg with⟨i,off,q1,q2⟩|⟨v,q1⟩
   ·rw[q1]at he;cases he
    obtain⟨v,r1,r2⟩:=ge.env t _ q1
    simp only[St.den]at r1
    cases hx:S2.L i with
    | none=>simp[hx]at r1
    | some x=>
     rw[q1]at h7
     simp only[Zuf,hx]at h7
     obtain⟨u,r3,r4⟩:=aG.env t _ (h6.trans h7)
     simp only[St.den]at r3;cases r3
     refine⟨_,?_,r4⟩
     simp only[St.den,q2,hx]
   ·rw[q1]at he;cases he
    rw[q1]at h7
    exact aG.env t _ (h6.trans h7)
theorem Zgh{E:Env}(hE:E.ok)(dK:E.P.follows .mixedOrders=true):Zc5 E (ZaP E):=by
 intro C F hF hY n id ops K S m a w Q aH hr h hK
 obtain⟨S2,m2,ge,h2⟩:=ZgO hr h
 unfold Zr3 at h2
 split at h2
 ·exact Zn6 hE dK hF hY n id ops aH ge h2 hK
 ·rename_i key esz _
  obtain⟨h3,h4⟩:=Zad h2
  cases eH:E.m0 with
  | none=>simp[eH]at h4
  | some mm=>
   simp only[eH]at h4
   obtain⟨p,n',c,z1,z2,z3⟩:=h4
   refine Zn6 hE dK hF hY n id ops aH (ge.acq hY eH z1 z2) z3 (λS' m' a' w' hk aG=>?_)
   split at hk
   ·exact hk.elim
   ·rename_i t ht
    obtain⟨gK,eK⟩:=Zad hk
    obtain⟨zs,lU,i6⟩:=aG.unacq ht
    exact hK _ _ _ _ (eK zs lU) i6
def Zgi(fn:Func):Code:=match fn.body with
 | some c=>c
 | none=>.skip
def Env.at(E:Env)(m:Mem):Env:={ E with m0:=some m }
def FW(E:Env)(fn:Func)(svs:List SV)(xs:List Box)(m:Mem)(R:Value->Mem->List (List Value)->Prop):Prop:=
 W (E.at m) (ZaP (E.at m)) (Zgi fn) (ZuK (E.at m) fn.results.toList m xs R) (S0 svs xs) m
def ZtU(E:Env)(fn:Func)(svs:List SV)(xs:List Box):Bool:=
 !(fn.name == "runtime.NumGoroutine")&&fn.body.isSome&&Zaq E (Zgi fn)&&Zbf fn.ntmps (Zgi fn)&&ZrO E.frz&&E.yl.isNone&&Nat.ble svs.length fn.ntmps&&Zji xs svs
theorem ZdU{fn:Func}(h:fn.body.isSome=true):fn.body=some (Zgi fn):=by
 unfold Zgi
 cases hb:fn.body with
 | none=>rw[hb]at h;cases h
 | some c=>rfl
theorem Za1(E:Env)(m:Mem):∀c:Code,Zaq (E.at m) c=Zaq E c
 | .region _ _ _=>rfl
 | .seq a b=>by simp only[Zaq,Za1 E m a,Za1 E m b];rfl
 | .cond _ a b=>by simp only[Zaq,Za1 E m a,Za1 E m b]
 | .block _ a=>by simp only[Zaq,Za1 E m a]
 | .loop a=>by simp only[Zaq,Za1 E m a];rfl
 | .rangeFunc _ _ a b=>by simp only[Zaq,Za1 E m a,Za1 E m b]
 | .scope a=>by simp only[Zaq,Za1 E m a]
 | .skip=>rfl
 | .label _=>rfl
 | .goto _=>rfl
 | .exit _=>rfl
 | .ret=>rfl
 | .refuse _=>rfl
theorem Zaj{E:Env}(hE:E.ok)(dK:E.P.follows .mixedOrders=true){g:FuncId}{fn:Func}(hf:E.P.funcs[g]?=some fn){m:Mem}{R:Value->Mem->List (List Value)->Prop}(svs:List SV)(xs:List Box)
  (bX:ZtU E fn svs xs=true) (h:FW E fn svs xs m R):CX E.P g (svs.map (ZmT xs)).toArray m xs R:=by
 simp only[ZtU,zA7,Bool.not_eq_true']at bX
 obtain⟨⟨⟨⟨⟨⟨⟨h1,h2⟩,h3⟩,h4⟩,h5⟩,h8⟩,h6⟩,h7⟩:=bX
 exact Zr7 (E:=E.at m) hE (Zit _) (Zgh (E:=E.at m) hE dK) hf h1 (ZdU h2) (by rw[Za1];exact h3) h4 h5 (show E.yl=none by simpa using h8) (λmm eR=>Option.some.inj eR) svs xs h6 h7 h
theorem ZaL(E:Env)(l:Nat)(xs:List (List Value)):∀c:Code,Zaq (E.yields l xs) c=Zaq E c
 | .region _ _ _=>rfl
 | .seq a b=>by simp only[Zaq,ZaL E l xs a,ZaL E l xs b];rfl
 | .cond _ a b=>by simp only[Zaq,ZaL E l xs a,ZaL E l xs b]
 | .block _ a=>by simp only[Zaq,ZaL E l xs a]
 | .loop a=>by simp only[Zaq,ZaL E l xs a];rfl
 | .rangeFunc _ _ a b=>by simp only[Zaq,ZaL E l xs a,ZaL E l xs b]
 | .scope a=>by simp only[Zaq,ZaL E l xs a]
 | .skip=>rfl
 | .label _=>rfl
 | .goto _=>rfl
 | .exit _=>rfl
 | .ret=>rfl
 | .refuse _=>rfl
def FWI(E:Env)(fn:Func)(first captured:List Value)(m:Mem)(xs:List (List Value)):Prop:=
 ∀l,W (E.yields l xs) (ZaP (E.yields l xs)) (Zgi fn) (ZtP E fn.results.toList xs.length) (S0 ((first++.func (.yield l) #[] #[]::captured).map .v) []) m
def ZtV(E:Env)(fn:Func)(k:Nat):Bool:=
 !(fn.name == "runtime.NumGoroutine")&&fn.body.isSome&&Zaq E (Zgi fn)&&Zbf fn.ntmps (Zgi fn)&&Nat.ble (k+1) fn.ntmps
theorem Zly{E:Env}(hE:E.ok)(dK:E.P.follows .mixedOrders=true){g:FuncId}{fn:Func}(hf:E.P.funcs[g]?=some fn){m:Mem}(first captured:List Value)(xs:List (List Value))
  (bX:ZtV E fn (first.length+captured.length)=true) (h:FWI E fn first captured m xs):IX E.P g first captured m xs:=by
 simp only[ZtV,zA7,Bool.not_eq_true']at bX
 obtain⟨⟨⟨⟨h1,h2⟩,h3⟩,h4⟩,h5⟩:=bX
 exact Zr8 (ZaP:=ZaP) hE hf h1 (ZdU h2) h4 first captured xs h5 λl=>
  ⟨Zit _,Zgh (E:=E.yields l xs) hE dK,by rw[ZaL];exact h3,h l⟩
end Go.Eng
namespace Go.Eng
open Go Go.RowKit
set_option maxRecDepth 100000
def Zsn:List ResultVar->Nat
 | [.tmp d]=>d
 | _=>0
def ZuB(E:Env)(rs:List ResultVar)(m0:Mem)(esz:Nat)(R:Value->Mem->List (List Value)->Prop)(S:St)(m:Mem):Prop:=
 Zte E S m rs λvs=>(match S.tok (E.tokOf (Zsn rs))with
  | none=>Zp5 vs=.slice none 0 0
  | some t=>some t=some ⟨Zp5 vs,esz⟩)/\R (Zp5 vs) m []
def ZtW(E:Env)(rs:List ResultVar)(m0:Mem)(esz:Nat)(R:Value->Mem->List (List Value)->Prop):KT:=λe S m=>match e with
 | .normal=>ZuB E rs m0 esz R S m
 | .ret=>ZuB E rs m0 esz R S m
 | _=>False
theorem Zre{E:Env}(hE:E.ok){ZaP:Nat->Array Oper->(St->Mem->Prop)->St->Mem->Prop}(hD:Zdt E ZaP)(gl:Zc5 E ZaP){g:FuncId}{fn:Func}{c:Code}
  (hf:E.P.funcs[g]?=some fn) (hn:(fn.name == "runtime.NumGoroutine")=false) (hb:fn.body=some c) (hc:Zaq E c=true) (hl:Zbf fn.ntmps c=true) (dL:E.yl=none)
  {m:Mem} (eH:∀mm,E.m0=some mm->m=mm) {esz:Nat} {R:Value->Mem->List (List Value)->Prop} (svs:List SV) (bG:Nat.ble svs.length fn.ntmps=true) (bX:Zji [] svs=true)
  (h:W E ZaP c (ZtW E fn.results.toList m esz R) (S0 svs []) m):CXT E.P g (svs.map (ZmT [])).toArray m esz R:=by
 refine⟨ZfV hf hn (by simp[hb]),λw hs=>?_⟩
 have aG:=Zlf (n:=fn.ntmps) (xs:=[]) hs (λx hx=>by cases hx) List.nodup_nil bX (Nat.le_of_ble_eq_true bG)
 refine callsIn_wide.1 (callsIn_of_wp_marks (F:=Fence.wide) (n:=0) hf hb trivial ?_)
 refine Zb0 hE hD gl c hc (.inl rfl) (YOk.none dL (λmm eR=>⟨eH mm eR,λg M w' hp k hk=>Zqg (λk hk=>by cases hk) hp k hk⟩)) (λl hl=>by cases hl) 0 hl aG h ?_
 have key:∀S' m' a' w',ZuB E fn.results.toList m esz R S' m'->Rel (Zud fn.ntmps m w (([]:List Box).map (·.b))) S' m' a' w'->LeavesInM Fence.wide 0 E.P fn a'.tmps (λe w'=>
   ∃v m',e=Ending.returned v/\m.le m'/\Sub m' w'/\Zfd m m' w w'/\Keep w.heap.size [] w w'/\TokOk m' w' ⟨v,esz⟩/\(∀b,(Tok.mk v esz).blk=some b->w.heap.size<=b)/\R v m' []) a'.defers .returning w':=by
  intro S' m' a' w' hk hr
  obtain⟨ms,q1,_,_⟩:=hr.defers
  refine Rel.leave ?_ ms a' w' rfl q1 hr
  clear hr q1
  intro a2 w2 ht hr
  rw[<-ht]
  obtain⟨vs,⟨bP,hk⟩,bH⟩:=ZdE hE hr hk
  obtain⟨M,hd⟩:=hr.dom
  have gR:Zfd m m' w w2:=λb o v hv=>by
   rcases hd.new b o v hv with h6|h6
   ·exact .inl h6
   ·rcases hd.p.2 b h6 with h6|h6
    ·exact .inr ⟨h6.1,h6.2.2⟩
    ·cases h6
  split at bP
  ·refine⟨Zp5 vs,ZcP bH,Zp5 vs,m',rfl,hr.le,hr.sub,gR,hd.p.1,.inl bP,λb hb=>?_,hk⟩
   rw[bP]at hb;simp[Tok.blk]at hb
  ·rename_i t ht
   cases bP
   refine⟨Zp5 vs,ZcP bH,Zp5 vs,m',rfl,hr.le,hr.sub,gR,hd.p.1,(hr.toks _ _ ht).1,λb hb=>?_,hk⟩
   rcases hd.p.2 b (hd.tok _ _ _ ht hb)with h6|h6
   ·exact h6.1
   ·cases h6
 intro e S' m' a' w' hk hr
 cases e with
 | normal=>exact key S' m' a' w' hk hr
 | ret=>exact key S' m' a' w' hk hr
 | exit _=>exact hk.elim
 | goto _=>exact hk.elim
 | panic _=>exact hk.elim
 | outgrown=>exact hk.elim
def FWT(E:Env)(fn:Func)(svs:List SV)(m:Mem)(esz:Nat)(R:Value->Mem->List (List Value)->Prop):Prop:=
 W (E.at m) (ZaP (E.at m)) (Zgi fn) (ZtW (E.at m) fn.results.toList m esz R) (S0 svs []) m
theorem ZgY{E:Env}(hE:E.ok)(dK:E.P.follows .mixedOrders=true){g:FuncId}{fn:Func}(hf:E.P.funcs[g]?=some fn){m:Mem}{esz:Nat}{R:Value->Mem->List (List Value)->Prop}(svs:List SV)
  (bX:ZtU E fn svs []=true) (h:FWT E fn svs m esz R):CXT E.P g (svs.map (ZmT [])).toArray m esz R:=by
 simp only[ZtU,zA7,Bool.not_eq_true']at bX
 obtain⟨⟨⟨⟨⟨⟨⟨h1,h2⟩,h3⟩,h4⟩,h5⟩,h8⟩,h6⟩,h7⟩:=bX
 exact Zre (E:=E.at m) hE (Zit _) (Zgh (E:=E.at m) hE dK) hf h1 (ZdU h2) (by rw[Za1];exact h3) h4 (show E.yl=none by simpa using h8) (λmm eR=>Option.some.inj eR) svs h6 h7 h
theorem CXT.mono{P:Program}{g:FuncId}{args:Array Value}{m:Mem}{esz:Nat}{R R':Value->Mem->List (List Value)->Prop}(h:CXT P g args m esz R)(k:∀v m' css,m.le m'->R v m' css->R' v m' css):CXT P g args m esz R':=
 ⟨h.1,λw h1=>(h.2 w h1).mono λ_ _ ⟨v,m',a1,a2,a3,a4,a5,a6,a7,a8⟩=>⟨v,m',a1,a2,a3,a4,a5,a6,a7,k _ _ _ a2 a8⟩⟩
def Zso(m m':Mem)(esz:Nat)(v:Value):Prop:=v=.slice none 0 0\/∃b o n c,v=.slice (some ⟨b,o,none⟩) n c/\n<=c/\m.free b/\∀q,n*esz<=q->q < c*esz->∃u,m' b (o+q)=some u
theorem CXT.room{P:Program}{g:FuncId}{args:Array Value}{m:Mem}{esz:Nat}{R:Value->Mem->List (List Value)->Prop}(h:CXT P g args m esz R):CX P g args m [] (λv m' _=>∃m1:Mem,m.le m1/\m1.le m'/\R v m1 []/\Zso m m' esz v):=by
 refine⟨h.1,λw h1 _ _=>(h.2 w h1).mono ?_⟩
 rintro e w' ⟨v,m',a1,a2,a3,a4,a5,a6,a7,a8⟩
 have a9:=a6
 rcases a6 with h6|⟨b,o0,n,c,cur,T,fr,hv,gi,hh,bU,_,cB⟩
 ·exact⟨v,m',[],a1,a2,a3,a4,a5,rfl,λi x cs hi=>by simp at hi,m',a2,Mem.le_refl _,a8,.inl h6⟩
 ·have hv:v=.slice (some ⟨b,o0,none⟩) n c:=hv
  have hb:w.heap.size<=b:=a7 b (by simp[Tok.blk,hv])
  have bO:m.free b:=λo=>by
   cases he:m b o with
   | none=>rfl
   | some u=>have:=h1.lt he;omega
  have u0:c*esz=n*esz+(c - n)*esz:=by rw[<-Nat.add_mul];congr 1;omega
  have cB:∀o,o0+n*esz<=o->o < o0+c*esz->m' b o=none:=cB
  have bU:o0+c*esz<=cur.size:=bU
  obtain⟨P0,nE⟩:∃P0,P0=o0+n*esz:=⟨_,rfl⟩
  obtain⟨zs,kY⟩:∃zs,zs=(cur.toList.drop P0).take ((c - n)*esz):=⟨_,rfl⟩
  have gw:zs.length=(c - n)*esz:=by rw[kY];simp;omega
  have ro:∀q v,zs[q]?=some v->cur[P0+q]?=some v:=λq v hq=>by
   rw[kY,List.getElem?_take]at hq
   split at hq
   ·rw[List.getElem?_drop]at hq;simpa using hq
   ·cases hq
  have cA:m'.le (m'.addAt b P0 zs):=λb' o v hv'=>by
   simp only[Mem.addAt]
   split
   ·rename_i hc
    obtain⟨rfl,ho⟩:=hc
    cases hz:zs[o - P0]? with
    | none=>simp only[hz];exact hv'
    | some u=>
     have hq:=(zA0 hz).1
     rw[cB o (by omega) (by omega)]at hv';cases hv'
   ·exact hv'
  have cH:∀b' o u,m'.addAt b P0 zs b' o=some u->m' b' o=some u\/(b'=b/\w'.cell? ⟨b',o,none⟩=some u):=λb' o u hu=>by
   simp only[Mem.addAt]at hu
   split at hu
   ·rename_i hc
    obtain⟨rfl,ho⟩:=hc
    cases hz:zs[o - P0]? with
    | none=>simp only[hz]at hu;exact .inl hu
    | some x=>
     simp only[hz]at hu;cases hu
     have:=ro _ _ hz
     rw[show P0+(o - P0)=o by omega]at this
     refine .inr ⟨rfl,?_⟩
     simp only[World.cell?,hh]
     simpa using this
   ·exact .inl hu
  refine⟨v,m'.addAt b P0 zs,[],a1,mLt a2 cA,λb' o u hu=>(cH b' o u hu).elim (a3 b' o u) (·.2),λb' o u hu=>(cH b' o u hu).elim (a4 b' o u) (λh=>.inr (h.1 ▸ ⟨hb,a9.wr (by simp[Tok.blk,hv])⟩)),a5,rfl,λi x cs hi=>by simp at hi,m',a2,cA,a8,.inr ⟨b,o0,n,c,hv,gi,bO,λq iw nL=>?_⟩⟩
  have aH:o0+q - P0 < zs.length:=by omega
  refine⟨zs[o0+q - P0],?_⟩
  simp only[Mem.addAt]
  rw[if_pos ⟨trivial,by omega⟩,zA3 aH]
def Zj5:List Nat->List Tok->Nat->Option Tok
 | k::ks,t::ts=>λi=>bif Nat.beq i k then some t else Zj5 ks ts i
 | _,_=>λ_=>none
theorem ZhU:∀{ks:List Nat} {ts:List Tok} {i:Nat} {t:Tok},Zj5 ks ts i=some t->∃q:Nat,ks[q]?=some i/\ts[q]?=some t
 | [],ts,i,t,h=>by simp[Zj5]at h
 | k::ks,[],i,t,h=>by simp[Zj5]at h
 | k::ks,t0::ts,i,t,h=>by
  by_cases hi:i=k
  ·subst hi;simp[Zj5]at h;subst h;exact⟨0,rfl,rfl⟩
  ·simp only[Zj5,Zam hi,cond_false]at h
   obtain⟨q,h1,h2⟩:=ZhU h
   exact⟨q+1,by simpa using h1,by simpa using h2⟩
def S0Y(svs:List SV)(xs:List Box)(ks:List Nat)(ts:List Tok):St:={ S0 svs xs with tok:=Zj5 ks ts,tkeys:=ks }
def Ziy(S:St):List Nat->List Tok->(List Value->Prop)->Prop
 | k::ks,t::ts,r=>match S.tok k with
  | none=>False
  | some t'=>chk (Nat.beq t'.esz t.esz) (Ziy S ks ts λtvs=>r (t'.v::tvs))
 | [],[],r=>r []
 | _,_,_=>False
theorem ZeJ{S:St}:∀{ks:List Nat} {ts:List Tok} {r:List Value->Prop},Ziy S ks ts r->∃tvs,tvs.length=ts.length/\ks.length=ts.length/\(∀(i:Nat)(t:Tok)(tv:Value),ts[i]?=some t->tvs[i]?=some tv->∃k:Nat,ks[i]?=some k/\S.tok k=some ⟨tv,t.esz⟩)/\r tvs
 | [],[],r,h=>⟨[],rfl,rfl,λi t tv h=>by simp at h,h⟩
 | [],_::_,r,h=>h.elim
 | _::_,[],r,h=>h.elim
 | k::ks,t::ts,r,h=>by
  unfold Ziy at h
  cases ht:S.tok k with
  | none=>simp[ht]at h
  | some t'=>
   simp only[ht]at h
   obtain⟨h1,h2⟩:=Zad h
   have he:=Nat.eq_of_beq_eq_true h1
   obtain⟨tvs,g1,g2,g3,g4⟩:=ZeJ h2
   refine⟨t'.v::tvs,by simp[g1],by simp[g2],λi t0 tv hi hv=>?_,g4⟩
   cases i with
   | zero=>
    simp at hi hv;subst hi hv
    exact⟨k,rfl,by rw[ht,<-he]⟩
   | succ i=>simpa using g3 i t0 tv (by simpa using hi) (by simpa using hv)
def Ztl(E:Env)(rs:List ResultVar)(xs:List Box)(ks:List Nat)(ts:List Tok)(R:Value->Mem->List (List Value)->List Value->Prop)(S:St)(m:Mem):Prop:=
 Zte E S m rs λvs=>ZrN S 0 xs λcss=>Ziy S ks ts λtvs=>R (Zp5 vs) (Zqa S E.frz m) css tvs
def ZtX(E:Env)(rs:List ResultVar)(xs:List Box)(ks:List Nat)(ts:List Tok)(R:Value->Mem->List (List Value)->List Value->Prop):KT:=λe S m=>match e with
 | .normal=>Ztl E rs xs ks ts R S m
 | .ret=>Ztl E rs xs ks ts R S m
 | _=>False
def Ztm(n:Nat)(m:Mem)(w:World)(B:Nat->Prop):Ctx where
 n:=n
 m0:=m
 p:=λ_ M w'=>Upd B w w'/\∀k,M k->(w.heap.size<=k/\k < w'.heap.size/\Wr w' k)\/B k
 st:=by
  rintro g M M' w1 w2 ⟨h1,h2⟩ hu hg
  refine⟨⟨hu.os.trans h1.os,hu.tape.trans h1.tape,hu.output.trans h1.output,Nat.le_trans h1.size hu.size,λk hk hn=>?_,λk hl hk=>hu.wr k (Nat.lt_of_lt_of_le hl h1.size) (h1.wr k hl hk)⟩,λk hk=>?_⟩
  ·rw[hu.block k (Nat.lt_of_lt_of_le hk h1.size) λhm=>?_,h1.block k hk hn]
   rcases h2 k hm with h|h
   ·omega
   ·exact hn h
  ·rcases hg k hk with h|h
   ·exact(h2 k h).imp_left λh=>⟨h.1,Nat.lt_of_lt_of_le h.2.1 hu.size,hu.wr k h.2.1 h.2.2⟩
   ·have:=h1.size;exact .inl ⟨by omega,h.2⟩
theorem Zm4{n:Nat}{w:World}{m:Mem}{Y:Nat->Prop}{xs:List Box}{svs:List SV}{ks:List Nat}{ts:List Tok}(hs:Sub m w)(hx:∀x∈xs,Own m w x/\x.fz=false/\¬Y x.b)(dQ:(xs.map (·.b)).Nodup)(bX:Zji xs svs=true)(hn:svs.length<=n)
  (ht:∀t∈ts,TokOk m w t/\∀b,t.blk=some b->Y b) (j6:ZrJ ts) (hY:∀b,Y b->b < w.heap.size/\Wr w b):
  Rel (Ztm n (m.off Y) w (λk=>k∈xs.map (·.b)\/Y k)) (S0Y svs xs ks ts) m { tmps:=(svs.map (ZmT xs)).toArray++Array.replicate (n - (svs.map (ZmT xs)).toArray.size) undef,defers:=[] } w:=by
 have hL:∀id x,(S0Y svs xs ks ts).L id=some x->100000<=id/\xs[id - 100000]?=some x:=λid x h=>by
  simp only[S0Y,S0]at h
  cases hb:Nat.ble 100000 id with
  | false=>simp[hb]at h
  | true=>simp only[hb,cond_true]at h;exact⟨Nat.le_of_ble_eq_true hb,h⟩
 have hT:∀k t,(S0Y svs xs ks ts).tok k=some t->∃q:Nat,ks[q]?=some k/\ts[q]?=some t:=λk t h=>ZhU h
 refine⟨⟨[],rfl,List.nodup_nil,by simp⟩,by simp[Ztm];omega,?_,?_,?_,?_,?_,?_,?_,hs,Mem.off_le m Y,⟨λk=>k∈xs.map (·.b)\/Y k,⟨Upd.refl _ _,λk hk=>.inr hk⟩,λk hk=>?_,λid x hx=>?_,λk t b h1 h2=>?_,by simp,λb o v hv=>?_⟩⟩
 ·intro i sv he
  simp only[S0Y,S0]at he
  have aH:=(zA0 he).1
  have h1:=ZgT bX i sv he
  refine⟨ZmT xs sv,?_,?_⟩
  ·cases sv with
   | v x=>rfl
   | loc id off=>
    simp only[Ztu,zA7]at h1
    have h2:id - 100000 < xs.length:=Zj3 h1.2
    simp[St.den,S0Y,S0,ZmT,h1.1,zA3 h2]
   | sl id n c=>
    simp only[Ztu,zA7]at h1
    have h2:id - 100000 < xs.length:=Zj3 h1.2
    simp[St.den,S0Y,S0,ZmT,h1.1,zA3 h2]
  ·rw[Array.getElem?_append_left (by simpa using aH)]
   simp[he]
 ·intro id x hx'
  exact(hx x (zA2 (hL id x hx').2)).1
 ·intro id id' x x' h1 h2 hb
  obtain⟨g1,g2⟩:=hL _ _ h1
  obtain⟨g3,g4⟩:=hL _ _ h2
  have hi:=(zA0 g2).1
  have:=(List.getElem?_inj (l:=xs.map (·.b)) (i:=id - 100000) (j:=id' - 100000) (by simpa using hi) dQ).1 (by simp[g2,g4,hb])
  omega
 ·intro id x h1
  obtain⟨g1,g2⟩:=hL _ _ h1
  have hi:=(zA0 g2).1
  simp only[S0Y,S0,List.mem_map,List.mem_range,bid]
  exact⟨id - 100000,hi,by omega⟩
 ·intro k t h1
  obtain⟨q,_,h2⟩:=hT k t h1
  obtain⟨g1,g2⟩:=ht t (zA2 h2)
  exact⟨g1,λb hb=>⟨λid x rI e=>(hx x (zA2 (hL id x rI).2)).2.2 (e ▸ g2 b hb),Mem.off_free (g2 b hb)⟩⟩
 ·intro k t h1
  obtain⟨q,h2,_⟩:=hT k t h1
  exact zA2 h2
 ·intro k k' t t' b h1 h2 h3 h4
  obtain⟨q,g1,g2⟩:=hT k t h1
  obtain⟨q',g3,g4⟩:=hT k' t' h2
  have:=j6 q q' t t' b g2 g4 h3 h4
  subst this
  rw[g1]at g3;exact Option.some.inj g3
 ·rcases hk with hk|hk
  ·obtain⟨x,h1,h2⟩:=List.mem_map.1 hk
   exact h2 ▸ (hx x h1).1.lt
  ·exact(hY k hk).1
 ·exact .inl (List.mem_map.2 ⟨x,zA2 (hL id x hx).2,rfl⟩)
 ·obtain⟨q,_,g2⟩:=hT k t h1
  exact .inr ((ht t (zA2 g2)).2 b h2)
 ·by_cases gd:Y b
  ·exact .inr (.inr gd)
  ·exact .inl (by show m.off Y b o=some v;rw[Mem.off_at gd];exact hv)
theorem TokOk.sl{m:Mem}{w:World}{t:Tok}(h:TokOk m w t):ZdK t.v=true:=by
 rcases h with h|⟨b,o0,n,c,_,_,_,h,_⟩
 ·rw[h];rfl
 ·rw[h];rfl
theorem Zrf{E:Env}(hE:E.ok){ZaP:Nat->Array Oper->(St->Mem->Prop)->St->Mem->Prop}(hD:Zdt E ZaP)(gl:Zc5 E ZaP){g:FuncId}{fn:Func}{c:Code}
  (hf:E.P.funcs[g]?=some fn) (hn:(fn.name == "runtime.NumGoroutine")=false) (hb:fn.body=some c) (hc:Zaq E c=true) (hl:Zbf fn.ntmps c=true) (hz:ZrO E.frz=true) (dL:E.yl=none)
  {m:Mem} {Y:Nat->Prop} (eH:∀mm,E.m0=some mm->m.off Y=mm) {R:Value->Mem->List (List Value)->List Value->Prop} (svs:List SV) (xs:List Box) (ks:List Nat) (ts:List Tok) (km:ZaU ks=true) (bG:Nat.ble svs.length fn.ntmps=true) (bX:Zji xs svs=true)
  (h:W E ZaP c (ZtX E fn.results.toList xs ks ts R) (S0Y svs xs ks ts) m):CXY E.P g (svs.map (ZmT xs)).toArray m Y xs ts R:=by
 refine⟨ZfV hf hn (by simp[hb]),λw hs hx dQ ht j6 hY=>?_⟩
 have aG:=Zm4 (n:=fn.ntmps) (ks:=ks) hs hx dQ bX (Nat.le_of_ble_eq_true bG) ht j6 hY
 refine callsIn_wide.1 (callsIn_of_wp_marks (F:=Fence.wide) (n:=0) hf hb trivial ?_)
 refine Zb0 hE hD gl c hc (.inl rfl) (YOk.none dL (λmm eR=>⟨eH mm eR,λg M w' hp k hk=>?_⟩)) (λl hl=>by cases hl) 0 hl aG h ?_
 ·rcases hp.2 k hk with h1|h1|h1
  ·exact h1.2.2
  ·obtain⟨x,h2,rfl⟩:=List.mem_map.1 h1
   exact hp.1.wr _ (hx x h2).1.lt (hx x h2).1.wr
  ·exact hp.1.wr k (hY k h1).1 (hY k h1).2
 have key:∀S' m' a' w',Ztl E fn.results.toList xs ks ts R S' m'->Rel (Ztm fn.ntmps (m.off Y) w (λk=>k∈xs.map (·.b)\/Y k)) S' m' a' w'->LeavesInM Fence.wide 0 E.P fn a'.tmps (λe w'=>
   ∃v m' css tvs,e=.returned v/\(m.off Y).le m'/\Sub m' w'/\(∀b o u,m' b o=some u->m b o=some u\/Y b\/(w.heap.size<=b/\Wr w' b))/\Upd (λk=>k∈xs.map (·.b)\/Y k) w w'/\
   css.length=xs.length/\(∀(i:Nat)(x:Box)(cs:List Value),xs[i]?=some x->css[i]?=some cs->Own m' w' { x with cs:=cs })/\
   tvs.length=ts.length/\(∀(i:Nat)(t:Tok)(tv:Value),ts[i]?=some t->tvs[i]?=some tv->ZdK tv=true/\TokOk m' w' ⟨tv,t.esz⟩/\∀b,(Tok.mk tv t.esz).blk=some b->(Y b\/w.heap.size<=b)/\b ∉ xs.map (·.b))/\
   ZrJ ((ts.zip tvs).map λq=>⟨q.2,q.1.esz⟩)/\R v m' css tvs) a'.defers .returning w':=by
  intro S' m' a' w' hk hr
  obtain⟨ms,q1,_,_⟩:=hr.defers
  refine Rel.leave ?_ ms a' w' rfl q1 hr
  clear hr q1
  intro a2 w2 vD hr
  rw[<-vD]
  obtain⟨vs,hk,bH⟩:=ZdE hE hr hk
  obtain⟨css,h1,h2,hk⟩:=Zfu hk
  obtain⟨tvs,k1,k2,k3,h5⟩:=ZeJ hk
  obtain⟨M,hd⟩:=hr.dom
  simp only[ZrO,zA7]at hz
  have rH:=ZaC hz.1
  have mU:=ZaC km
  obtain⟨f1,f2,f3⟩:=ZnR hr rH
  have frzlt:∀id∈E.frz,id < 100000:=λid cI=>Zj3 (List.all_eq_true.1 hz.2 id cI)
  have boxOf:∀b,b∈xs.map (·.b)->∃(i:Nat)(x:Box)(cs:List Value),xs[i]?=some x/\x.b=b/\S'.L (bid i)=some { x with cs:=cs }:=λb hb=>by
   obtain⟨y,hy,gd⟩:=List.mem_map.1 hb
   obtain⟨i,hi⟩:=List.getElem?_of_mem hy
   obtain⟨cs,_,iA⟩:=h2 i y hi
   exact⟨i,y,cs,hi,gd,by rw[Nat.zero_add]at iA;exact iA⟩
  have tokY:∀(i:Nat)(t:Tok)(tv:Value),ts[i]?=some t->tvs[i]?=some tv->∃k:Nat,ks[i]?=some k/\S'.tok k=some ⟨tv,t.esz⟩:=k3
  have frzNb:∀id∈E.frz,∀x,S'.L id=some x->x.b ∉ xs.map (·.b):=λid cI x iv hm=>by
   obtain⟨i,y,cs,_,gd,iA⟩:=boxOf _ hm
   have:=hr.apart _ _ _ _ iv iA gd.symm
   have:=frzlt id cI
   simp only[bid]at *
   omega
  refine⟨Zp5 vs,ZcP bH,Zp5 vs,Zqa S' E.frz m',css,tvs,rfl,mLt hr.le f1,f2,?_,hd.p.1,h1,?_,k1,?_,?_,h5⟩
  ·intro b o u hu
   have inM:M b->m b o=some u\/Y b\/(w.heap.size<=b/\Wr w2 b)\/b∈xs.map (·.b):=λhm=>by
    rcases hd.p.2 b hm with h|h|h
    ·exact .inr (.inr (.inl ⟨h.1,h.2.2⟩))
    ·exact .inr (.inr (.inr h))
    ·exact .inr (.inl h)
   rcases f3 b o u hu with hv|⟨id,cI,x,iv,kf⟩
   ·rcases hd.new b o u hv with h6|h6
    ·exact .inl (Mem.off_le m Y b o u h6)
    ·rcases inM h6 with h|h|h|h
     ·exact .inl h
     ·exact .inr (.inl h)
     ·exact .inr (.inr h)
     ·exfalso
      obtain⟨i,y,cs,hi,gd,iA⟩:=boxOf b h
      have:=(hr.own _ _ iA).free (hx y (zA2 hi)).2.1 o
      simp only[gd]at this
      rw[this]at hv;cases hv
   ·subst kf
    rcases inM (hd.own id x iv)with h|h|h|h
    ·exact .inl h
    ·exact .inr (.inl h)
    ·exact .inr (.inr h)
    ·exact(frzNb id cI x iv h).elim
  ·intro i x cs hi bZ
   obtain⟨cs',h6,h7⟩:=h2 i x hi
   rw[bZ]at h6;cases h6
   have ho:=hr.own _ _ h7
   have nV:=(hx x (zA2 hi)).2.1
   refine⟨ho.cells,λ_ o=>?_,λhz'=>by simp[nV]at hz',ho.whole⟩
   show Zqa S' E.frz m' x.b o=none
   rw[ZdF S' m' (λid cI y hy e=>frzNb id cI y hy (e ▸ List.mem_map.2 ⟨x,zA2 hi,rfl⟩))]
   exact ho.free nV o
  ·intro i t tv hi hv
   obtain⟨k,g1,g2⟩:=tokY i t tv hi hv
   obtain⟨g3,g4⟩:=hr.toks k _ g2
   refine⟨g3.sl,g3.same (λ_ _=>rfl) (λb o hb hn=>?_),λb hb=>⟨?_,λhm=>?_⟩⟩
   ·rw[ZdF S' m' (λid _ y hy e=>(g4 b hb).1 id y hy e)];exact hn
   ·rcases hd.p.2 b (hd.tok _ _ _ g2 hb)with h|h|h
    ·exact .inr h.1
    ·obtain⟨i,y,cs,_,gd,iA⟩:=boxOf b h
     exact((g4 b hb).1 _ _ iA gd).elim
    ·exact .inl h
   ·obtain⟨i,y,cs,_,gd,iA⟩:=boxOf b hm
    exact(g4 b hb).1 _ _ iA gd
  ·intro i j t t' b hi hj dE gj
   rw[List.getElem?_map]at hi hj
   obtain⟨⟨t0,tv⟩,gS,rfl⟩:=Option.map_eq_some_iff.1 hi
   obtain⟨⟨t0',tv'⟩,ui,rfl⟩:=Option.map_eq_some_iff.1 hj
   obtain⟨a1,a2⟩:=List.getElem?_zip_eq_some.1 gS
   obtain⟨a3,a4⟩:=List.getElem?_zip_eq_some.1 ui
   obtain⟨k,g1,g2⟩:=tokY i t0 tv a1 a2
   obtain⟨k',g3,g4⟩:=tokY j t0' tv' a3 a4
   have:=hr.tapart k k' _ _ b g2 g4 dE gj
   subst this
   have hi':=(zA0 g1).1
   exact(List.getElem?_inj (l:=ks) (i:=i) (j:=j) hi' mU).1 (by rw[g1,g3])
 intro e S' m' a' w' hk hr
 cases e with
 | normal=>exact key S' m' a' w' hk hr
 | ret=>exact key S' m' a' w' hk hr
 | exit _=>exact hk.elim
 | goto _=>exact hk.elim
 | panic _=>exact hk.elim
 | outgrown=>exact hk.elim
def FWY(E:Env)(fn:Func)(svs:List SV)(xs:List Box)(ks:List Nat)(ts:List Tok)(m:Mem)(Y:Nat->Prop)(R:Value->Mem->List (List Value)->List Value->Prop):Prop:=
 W (E.at (m.off Y)) (ZaP (E.at (m.off Y))) (Zgi fn) (ZtX (E.at (m.off Y)) fn.results.toList xs ks ts R) (S0Y svs xs ks ts) m
theorem ZaK{E:Env}(hE:E.ok)(dK:E.P.follows .mixedOrders=true){g:FuncId}{fn:Func}(hf:E.P.funcs[g]?=some fn){m:Mem}{Y:Nat->Prop}{R:Value->Mem->List (List Value)->List Value->Prop}(svs:List SV)(xs:List Box)(ks:List Nat)(ts:List Tok)(km:ZaU ks=true)
  (bX:ZtU E fn svs xs=true) (h:FWY E fn svs xs ks ts m Y R):CXY E.P g (svs.map (ZmT xs)).toArray m Y xs ts R:=by
 simp only[ZtU,zA7,Bool.not_eq_true']at bX
 obtain⟨⟨⟨⟨⟨⟨⟨h1,h2⟩,h3⟩,h4⟩,h5⟩,h8⟩,h6⟩,h7⟩:=bX
 exact Zrf (E:=E.at (m.off Y)) hE (Zit _) (Zgh (E:=E.at (m.off Y)) hE dK) hf h1 (ZdU h2) (by rw[Za1];exact h3) h4 h5 (show E.yl=none by simpa using h8) (λmm eR=>Option.some.inj eR) svs xs ks ts km h6 h7 h
theorem CX.frameY{P:Program}{g:FuncId}{args:Array Value}{m:Mem}{R:Value->Mem->List (List Value)->Prop}(h:CX P g args m [] R)(Y:Nat->Prop)(X:List Box)(ts:List Tok):
  CXY P g args m Y X ts (λv m' css tvs=>m.le m'/\css=X.map (·.cs)/\tvs=ts.map (·.v)/\R v m' []):=by
 refine⟨h.1,λw h1 h2 h3 h4 h5 h6=>(h.2 w h1 (by simp) (by simp)).mono ?_⟩
 rintro e w' ⟨v,m',css,a1,a2,a3,a4,a5,a6,a7,a8⟩
 obtain rfl:css=[]:=by simpa using a6
 have hb:∀k,k < w.heap.size->w'.heap[k]?=w.heap[k]?:=λk hk=>a5.block k hk (by simp)
 have bO:∀b,b < w.heap.size->∀o,m b o=none->m' b o=none:=λb aH o ho=>by
  cases he:m' b o with
  | none=>rfl
  | some v=>
   rcases a4 _ _ _ he with he|he
   ·rw[ho]at he;cases he
   ·have:=he.1;omega
 have ko:∀(i:Nat)(t:Tok)(tv:Value),ts[i]?=some t->(ts.map (·.v))[i]?=some tv->(Tok.mk tv t.esz)=t:=λi t tv hi hv=>by
  rw[List.getElem?_map,hi]at hv
  cases hv;rfl
 refine⟨v,m',X.map (·.cs),ts.map (·.v),a1,mLt (Mem.off_le _ _) a2,a3,λb o u hu=>(a4 b o u hu).imp_right .inr,⟨a5.os,a5.tape,a5.output,a5.size,λk hk _=>hb k hk,a5.wr⟩,by simp,λi x cs hi bZ=>?_,by simp,λi t tv hi hv=>?_,λi j t t' b hi hj=>?_,a2,rfl,rfl,a8⟩
 ·rw[List.getElem?_map,hi]at bZ
  cases bZ
  have ho:=(h2 x (zA2 hi)).1
  exact ho.same (hb _ ho.lt) a2 (λhz o=>bO _ ho.lt o (ho.free hz o))
 ·have e:=ko i t tv hi hv
  obtain⟨g1,g2⟩:=h4 t (zA2 hi)
  refine⟨?_,?_,λb hb'=>?_⟩
  ·have:=congrArg Tok.v e;simp only at this;rw[this];exact g1.sl
  ·rw[e];exact g1.same (λb cZ=>hb _ (g1.lt cZ)) (λb o cZ=>bO _ (g1.lt cZ) o)
  ·rw[e]at hb'
   refine⟨.inl (g2 b hb'),λhm=>?_⟩
   obtain⟨x,hx,nv⟩:=List.mem_map.1 hm
   exact(h2 x hx).2.2 (nv ▸ g2 b hb')
 ·have e:((ts.zip (ts.map (·.v))).map λq=>(⟨q.2,q.1.esz⟩:Tok))=ts:=by
   refine List.ext_getElem? λi=>?_
   rw[List.getElem?_map]
   cases ht:ts[i]? with
   | none=>
    have:(ts.zip (ts.map (·.v)))[i]?=none:=by
     rw[List.getElem?_eq_none_iff]at ht ⊢;simp;omega
    rw[this];rfl
   | some t=>
    have:(ts.zip (ts.map (·.v)))[i]?=some (t,t.v):=List.getElem?_zip_eq_some.2 ⟨ht,by rw[List.getElem?_map,ht];rfl⟩
    rw[this];rfl
  rw[e]at hi hj
  exact h5 i j t t' b hi hj
theorem CXY.mono{P:Program}{g:FuncId}{args:Array Value}{m:Mem}{Y:Nat->Prop}{X:List Box}{ts:List Tok}{R R':Value->Mem->List (List Value)->List Value->Prop}(h:CXY P g args m Y X ts R)(k:∀v m' css tvs,(m.off Y).le m'->R v m' css tvs->R' v m' css tvs):CXY P g args m Y X ts R':=
 ⟨h.1,λw h1 h2 h3 h4 h5 h6=>(h.2 w h1 h2 h3 h4 h5 h6).mono λ_ _ ⟨v,m',css,tvs,a1,a2,a3,a4,a5,a6,a7,a8,a9,a10,a11⟩=>⟨v,m',css,tvs,a1,a2,a3,a4,a5,a6,a7,a8,a9,a10,k _ _ _ _ a2 a11⟩⟩
end Go.Eng
namespace Go.Eng
open Go Go.RowKit
def zok(i:TI):Bool:=Nat.beq i.zero.cells.size i.size&&Zcr i.zero.cells.toList&&(i.agg||Nat.beq i.size 1)
structure TRow (P:Program)(t:TypeId)(i:TI):Prop where
 und:P.underlying t=some i.d
 info:(P.info? t).map (λx=>(x.size,x.zero,x.bytes))=some (i.size,some i.zero,i.bytes)
 ok:zok i=true
theorem TRow.tok{P:Program}{t:TypeId}{i:TI}(h:TRow P t i):TOk P t i:=by
 have hz:=h.ok
 simp only[zok,zA7,Bool.or_eq_true]at hz
 refine⟨h.und,?_,Nat.eq_of_beq_eq_true hz.1.1,ZeO hz.1.2,λha=>?_⟩
 ·obtain⟨x,hx,e⟩:=Option.map_eq_some_iff.1 h.info
  simp only[Prod.mk.injEq]at e
  exact⟨x,hx,e.1,e.2.1,e.2.2⟩
 ·rcases hz.2 with h1|h1
  ·rw[ha]at h1;cases h1
  ·exact Nat.eq_of_beq_eq_true h1
def ZrQ:List (Nat×TI)->Nat->Option TI
 | [],_=>none
 | q::l,t=>bif Nat.beq t q.1 then some q.2 else ZrQ l t
def Ztn(P:Program):List (Nat×TI)->Prop
 | []=>True
 | q::l=>TRow P q.1 q.2/\Ztn P l
theorem Zn7{P:Program}:∀{l:List (Nat×TI)},Ztn P l->∀t i,ZrQ l t=some i->TOk P t i
 | [],_,t,i,h=>by simp[ZrQ]at h
 | q::l,hl,t,i,h=>by
  simp only[ZrQ]at h
  cases hb:Nat.beq t q.1 with
  | true=>
   simp only[hb,cond_true,Option.some.injEq]at h
   rw[Nat.eq_of_beq_eq_true hb,<-h];exact hl.1.tok
  | false=>simp only[hb,cond_false]at h;exact Zn7 hl.2 t i h
abbrev Zac(l:List (Option Box)):Prop:=l=l
abbrev lV(x:List Value)(K:List Value->Prop):Prop:=K x
abbrev lM(x:Mem)(K:Mem->Prop):Prop:=K x
abbrev lX(x:Value)(K:Value->Prop):Prop:=K x
abbrev lE{α:Type}(x:α)(K:α->Prop):Prop:=K x
abbrev atA(a:Option Addr)(K:Nat->Nat->Prop):Prop:=∃b o:Nat,a=some (Addr.mk b o none)/\K b o
abbrev inI(I:IT)(xs:List Value)(css:List (List Value))(ts:List Value)(m:Mem):Prop:=∃n,I xs css ts m n
abbrev nxI(k:Nat)(I:IT)(xs:List Value)(css:List (List Value))(ts:List Value)(m:Mem):Prop:=∃n,n < k/\I xs css ts m n
abbrev fzM(m:Mem)(l:List Value)(K:Nat->Mem->Prop):Prop:=∀(b:Nat)(m':Mem),m.le m'->m'.reads b 0 l->K b m'
abbrev rtM(m M:Mem)(R:RT)(v:Value):Prop:=∃m'':Mem,m.le m''/\m''.le M/\R v m'' []
abbrev kB(P:Program)(f:FuncId)(a:List Value)(m:Mem)(K:Bool->Mem->Prop):Prop:=∃R:RT,True/\CX P f (Array.mk a) m [] R/\(∀(v:Value)(m':Mem) (css:List (List Value)),R v m' css->Shape.fits .bool v=true)/\∀(b:Bool)(m':Mem),m.le m'->R (.bool b) m' []->K b m'
abbrev kI(P:Program)(f:FuncId)(a:List Value)(m:Mem)(K:Int->Mem->Prop):Prop:=∃R:RT,True/\CX P f (Array.mk a) m [] R/\(∀(v:Value)(m':Mem) (css:List (List Value)),R v m' css->Shape.fits (.int .i64) v=true)/\∀(n:Int)(m':Mem),m.le m'->R (.int .i64 n) m' []->K n m'
abbrev kS(P:Program)(f:FuncId)(a:List Value)(m:Mem)(K:Option Addr->Nat->Nat->Mem->Prop):Prop:=∃R:RT,True/\CX P f (Array.mk a) m [] R/\(∀(v:Value)(m':Mem) (css:List (List Value)),R v m' css->Shape.fits .slice v=true)/\∀(a:Option Addr)(n c:Nat)(m':Mem),m.le m'->R (.slice a n c) m' []->K a n c m'
abbrev kT(P:Program)(f:FuncId)(a:List Value)(m:Mem)(K:ByteArray->Mem->Prop):Prop:=∃R:RT,True/\CX P f (Array.mk a) m [] R/\(∀(v:Value)(m':Mem) (css:List (List Value)),R v m' css->Shape.fits .str v=true)/\∀(s:ByteArray)(m':Mem),m.le m'->R (.string s) m' []->K s m'
abbrev kF(P:Program)(f:FuncId)(a:List Value)(m:Mem)(K:Nat->List Value->List Value->Mem->Prop):Prop:=∃R:RT,True/\CX P f (Array.mk a) m [] R/\(∀(v:Value)(m':Mem) (css:List (List Value)),R v m' css->Shape.fits .fn v=true)/\∀(g:Nat)(fi ca:List Value)(m':Mem),m.le m'->R (.func (.func g) (Array.mk fi) (Array.mk ca)) m' []->K g fi ca m'
abbrev TKW:=Int->Int->Int->Int->Int->Int->Int->Option Addr->Nat->Nat->Mem->Prop
abbrev FxW:=Nat->List Value->Mem->Value->Mem->List (List Value)->Prop
abbrev kN(P:Program)(f:FuncId)(a:List Value)(m:Mem)(K:TKW):Prop:=∃R:RT,True/\CX P f (Array.mk a) m [] R/\(∀(v:Value)(m':Mem) (css:List (List Value)),R v m' css->Shape.fits (.agg [.int .u8,.int .u64,.int .u64,.int .u64,.int .u64,.int .i64,.int .i64,.slice]) v=true)/\∀(n n1 n2 n3 n4 n5 n6:Int)(a:Option Addr)(n7 c:Nat)(m':Mem),m.le m'->R (.agg (Array.mk [.int .u8 n,.int .u64 n1,.int .u64 n2,.int .u64 n3,.int .u64 n4,.int .i64 n5,.int .i64 n6,.slice a n7 c])) m' []->K n n1 n2 n3 n4 n5 n6 a n7 c m'
abbrev dN(F:FxW)(i:Nat)(P:Program)(f:FuncId)(a:List Value)(m:Mem)(K:TKW):Prop:=∃R:RT,R=F i a m/\CX P f (Array.mk a) m [] R/\(∀(v:Value)(m':Mem) (css:List (List Value)),R v m' css->Shape.fits (.agg [.int .u8,.int .u64,.int .u64,.int .u64,.int .u64,.int .i64,.int .i64,.slice]) v=true)/\∀(n n1 n2 n3 n4 n5 n6:Int)(a:Option Addr)(n7 c:Nat)(m':Mem),m.le m'->R (.agg (Array.mk [.int .u8 n,.int .u64 n1,.int .u64 n2,.int .u64 n3,.int .u64 n4,.int .i64 n5,.int .i64 n6,.slice a n7 c])) m' []->K n n1 n2 n3 n4 n5 n6 a n7 c m'
abbrev dS(F:FxW)(i:Nat)(P:Program)(f:FuncId)(a:List Value)(m:Mem)(K:Option Addr->Nat->Nat->Mem->Prop):Prop:=∃R:RT,R=F i a m/\CX P f (Array.mk a) m [] R/\(∀(v:Value)(m':Mem) (css:List (List Value)),R v m' css->Shape.fits .slice v=true)/\∀(a:Option Addr)(n c:Nat)(m':Mem),m.le m'->R (.slice a n c) m' []->K a n c m'
abbrev Ret(u:Value):Value->Mem->List (List Value)->Prop:=λv _ _=>v=u
theorem Zag{m m':Mem}{R:Value->Mem->List (List Value)->Prop}{v:Value}(h:m.le m')(k:R v m []):∃m'':Mem,m.le m''/\m''.le m'/\R v m'' []:=⟨m,Mem.le_refl m,h,k⟩
theorem ZhV{m m':Mem}{R:Value->Mem->List (List Value)->Prop}{v:Value}(h:m.le m')(k:R v m' []):∃m'':Mem,m.le m''/\m''.le m'/\R v m'' []:=⟨m',h,Mem.le_refl _,k⟩
section
variable {P:Program} {g:FuncId} {args:Array Value} {m:Mem}
theorem Zai{K:Bool->Mem->Prop}{x:Bool}(h:CX P g args m [] (Ret (.bool x)))(k:∀m',m.le m'->K x m'):
  ∃R:Value->Mem->List (List Value)->Prop,True/\CX P g args m [] R/\(∀(v:Value)(m':Mem) (css:List (List Value)),R v m' css->Shape.fits .bool v=true)/\∀(b:Bool)(m':Mem),m.le m'->R (.bool b) m' []->K b m':=
 ⟨_,trivial,h,λv _ _ e=>by rw[e];rfl,λb m' hm e=>by cases e;exact k m' hm⟩
theorem Zem{kk:IntKind}{K:Int->Mem->Prop}{x:Int}(h:CX P g args m [] (Ret (.int kk x)))(k:∀m',m.le m'->K x m'):
  ∃R:Value->Mem->List (List Value)->Prop,True/\CX P g args m [] R/\(∀(v:Value)(m':Mem) (css:List (List Value)),R v m' css->Shape.fits (.int kk) v=true)/\∀(b:Int)(m':Mem),m.le m'->R (.int kk b) m' []->K b m':=
 ⟨_,trivial,h,λv _ _ e=>by rw[e];simp[Shape.fits],λb m' hm e=>by cases e;exact k m' hm⟩
theorem Zak{s:Shape}{R:Value->Mem->List (List Value)->Prop}{Q:(Value->Mem->List (List Value)->Prop)->Prop}(h:CX P g args m [] R)(hs:∀(v:Value)(m':Mem) (css:List (List Value)),R v m' css->s.fits v=true)(k:Q R):
  ∃R:Value->Mem->List (List Value)->Prop,True/\CX P g args m [] R/\(∀(v:Value)(m':Mem) (css:List (List Value)),R v m' css->s.fits v=true)/\Q R:=⟨R,trivial,h,hs,k⟩
end
theorem Zph{b:Bool}{p q:Prop}:br b p q↔(if b=true then p else q):=by cases b <;> simp[br]
theorem Zat{n:Int}(h1 : -9223372036854775808<=n)(h2:n<=9223372036854775807):IntKind.i64.wrap n=n:=by
 unfold IntKind.wrap
 simp only[IntKind.bits,IntKind.signed,Bool.true_and]
 have e:(2:Int) ^ 64=18446744073709551616:=by decide
 have e':(2:Int) ^ (64 - 1)=9223372036854775808:=by decide
 simp only[e,e']
 split
 ·rename_i h
  have:=zA6 h
  omega
 ·rename_i h
  have:¬(n % 18446744073709551616 ≥ 9223372036854775808):=λhh=>h (decide_eq_true hh)
  omega
theorem Ziz{f f':Nat}{a b a' b':List Value}(h:Value.func (.func f) a.toArray b.toArray=.func (.func f') a'.toArray b'.toArray):f=f'/\a=a'/\b=b':=by
 simpa using h
theorem Zaz{a b:Bool}(h:a=b):[Value.bool a]=[Value.bool b]:=by rw[h]
end Go.Eng
namespace Go.Eng
open Go Go.RowKit Go.ChangeShapes Go.WideShapes
def ZrR(W:World):Mem:=λb o=>W.cell? ⟨b,o,none⟩
theorem Zfy{H:Type}{enc:TypeId×Value->H}{P:Program}(hl:laidOutB P=true){W W':World}{sp:Nat->Bool}:∀{ts:List TypeId} {vs:List Value} {ds:List (DataW H)} {ps:List MemPlace},(∀t∈ts,P.readableRec t=true/\t < P.types.size)->DataW.TrodAll enc P W 0 (λ_=>true) true ts vs ds ps->(∀p∈ps,W.sameAt W' p)->(∀p∈ps,sp p.block=true)->DataW.TrodAll enc P W' 0 sp true ts vs ds ps
 | [],[],[],ps,_,h,_,_=>h
 | t::ts,v::vs,d::ds,ps,ht,h,hs,qt=>by
  obtain⟨p,q,h1,h2,rfl⟩:=h
  exact⟨p,q,WideElems.Trod_stays hl (ht t (by simp)).1 (ht t (by simp)).2 h1 (λx hx=>hs x (by simp[hx])) (λx hx=>qt x (by simp[hx])),Zfy hl (λt' h'=>ht t' (by simp[h'])) h2 (λx hx=>hs x (by simp[hx])) (λx hx=>qt x (by simp[hx])),rfl⟩
 | [],[],_::_,_,_,h,_,_=>h.elim
 | [],_::_,_,_,_,h,_,_=>by simp[DataW.TrodAll]at h
 | _::_,[],_,_,_,h,_,_=>by simp[DataW.TrodAll]at h
 | _::_,_::_,[],_,_,h,_,_=>h.elim
theorem Zpi{H:Type}{enc:TypeId×Value->H}{P:Program}{g:FuncId}{f:Func}{s:ChangeSpec}{W:World}{args:Array Value}{ds gs:List (DataW H)}{before:List MemPlace}{tb:TypeId}(hl:laidOutB P=true)
  (ko:∀t∈f.params.toList,P.readableRec t=true/\t < P.types.size) (hW:DataW.Whole enc P f.params.toList s.vars false W args.toList ds gs before) (hv:s.vars=[])
  (hr:(s.fn H (ds++gs)).results=[.lit (.bool true)]) (ha:(s.fn H (ds++gs)).args=ds) (hw:(s.fn H (ds++gs)).vars=[]) (kp:f.resultTypes=#[tb]) (vE:P.underlying tb=some .bool)
  (gJ:CX P g args (ZrR W) [] (Ret (.bool true))):
  Calls P g args W λe W'=>∃v,e=.returned v/\s.post enc P f false true false false W args v W':=by
 refine(gJ.2 W (λ_ _ _ h=>h) (by simp) (by simp)).mono ?_
 rintro e W' ⟨v,m',css,rfl,hm,cW,cF,hk,_,_,rfl⟩
 have hb:Below W.heap.size W W':=hk.below
 have aH:∀p∈before,p.block < W.heap.size:=λp hp=>by simpa using hW.lt p hp
 have hW':=hW
 obtain⟨p,q,hA,hV,rfl,hz,hn⟩:=hW
 rw[hv]at hV
 obtain⟨rfl,rfl⟩:gs=[]/\q=[]:=by
  cases gs with
  | nil=>exact⟨rfl,hV⟩
  | cons g gs=>exact hV.elim
 refine⟨_,rfl,ds,[],p++[],[],p,[],hW',?_,?_,?_,hb.frame _,λh=>by cases h⟩
 ·rw[hr,kp]
  exact trodAll_cons_mk (shut_bool vE _) trodAll_mk0
 ·rw[ha]
  exact Zfy hl ko hA (λx hx=>hb.same (aH x (by simp[hx]))) (λx hx=>by simpa using aH x (by simp[hx]))
 ·rw[hw,hv];rfl
end Go.Eng