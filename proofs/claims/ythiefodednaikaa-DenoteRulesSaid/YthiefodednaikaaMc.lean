/- The engine: a reckoner over the code of a program in Lean, with its soundness; it names no program. No condition. -/
import Derived.Test.YthiefodednaikaaMb
import Derived.OrdersIn
import Derived.ProofKit
import Derived.OpenShut
import Derived.JoinedCond
import Derived.Deep.Slices
set_option linter.unusedVariables false
set_option linter.unusedSimpArgs false
namespace Go.Eng
open Go Go.RowKit
theorem Zm8{F:Fence}{n:Nat}{P:Program}{c:Code}{Q:Exit→Act→World→Prop}{a:Act}{w:World}(Inv:Nat→Act→World→Prop)(h0:∃q,Inv q a w)
  (round:∀q a w,Inv q a w→c.wpIn F n P (Exit.then (fun a' w'=>∃q',q' < q∧Inv q' a' w') Q) a w):(Code.loop c).wpIn F n P Q a w:=by
 classical
 have iv:∀a w,(∃q,Inv q a w)→∃q,Inv q a w∧∀q',Inv q' a w→q≤q':=by
  intro a w ⟨q,hq⟩
  induction q using Nat.strongRecOn with
  | _ q ih=>
   by_cases hh:∃q',q' < q∧Inv q' a w
   ·obtain⟨q',h1,h2⟩:=hh;exact ih q' h1 h2
   ·exact⟨q,hq,fun q' hq'=>Nat.le_of_not_lt fun bA=>hh ⟨q',bA,hq'⟩⟩
 let μ:Act→World→Nat:=fun a w=>if h:∃q,Inv q a w then Classical.choose (iv a w h)else 0
 have hμ:∀a w (h:∃q,Inv q a w),Inv (μ a w) a w∧∀q',Inv q' a w→μ a w≤q':=fun a w h=>by
  have:=Classical.choose_spec (iv a w h)
  simp only[μ,h,dif_pos];exact this
 refine wpIn_loop (fun a w=>∃q,Inv q a w) μ h0 fun a w hI=>?_
 refine wpIn_mono (round _ a w (hμ a w hI).1) fun e a' w' he=>?_
 cases e with
 | normal=>
  obtain⟨q',h1,h2⟩:=he
  exact⟨⟨q',h2⟩,Nat.lt_of_le_of_lt ((hμ a' w' ⟨q',h2⟩).2 q' h2) h1⟩
 | _=>exact he
theorem Zcg{P:Program}{b:Frame}{a:Act}{k:List Item}{cs:List Frame}{w:World}{c:Code}:step P (lone (b.atR a (.code (.scope c)::k)) cs w)=.next (lone (b.atR a (.code c::.inScope c::k)) cs w):=
 step_lone_go (by simp[stepG,stepG.exec,Frame.atR])
theorem ZjR{P:Program}{b:Frame}{a:Act}{k:List Item}{cs:List Frame}{w:World}{c:Code}:step P (lone (b.atR a (.inScope c::k)) cs w)=.next (lone (b.atR a k) cs w):=
 step_lone_go (by simp[stepG,stepG.exec,Frame.atR])
theorem Zox{F:Fence}{n:Nat}{P:Program}{a:Act}{w:World}{Q:Exit→Act→World→Prop}{c:Code}(h:c.wpIn F n P (fun e a w=>match e with
  | .goto _=>False
  | e=>Q e a w) a w):(Code.scope c).wpIn F n P Q a w:=by
 intro b k cs om hb hr
 have h0:(lone (b.atR a (.code (.scope c)::k)) cs w).fenced P F:=fenced_calm hb hr rfl
 obtain⟨e,a₁,w₁,hq,cZ⟩:=h b (.inScope c::k) cs om hb hr
 cases e with
 | normal=>exact⟨.normal,a₁,w₁,hq,.head h0 Zcg (StepsIn.trans cZ (.one (fenced_calm hb hr rfl) ZjR))⟩
 | exit id=>
  have hx:exitTo id (.inScope c::k)=exitTo id k:=by simp[exitTo]
  exact⟨.exit id,a₁,w₁,hq,fun k' hk=>.head h0 Zcg (cZ.1 k' (by rw[hx];exact hk)),
    fun hr' hk=>let ⟨k₁,h1,h2⟩:=cZ.2 hr' (by rw[hx];exact hk);⟨k₁,h1,.head h0 Zcg h2⟩⟩
 | goto l=>exact hq.elim
 | ret=>exact⟨_,a₁,w₁,hq,.of_steps (.one h0 Zcg) cZ⟩
 | panic ch=>exact⟨_,a₁,w₁,hq,.of_steps (.one h0 Zcg) cZ⟩
 | outgrown=>exact⟨_,a₁,w₁,hq,.of_steps (.one h0 Zcg) cZ⟩
theorem YOk.cold{E:Env}{C:Ctx}(h:YOk E C):YOk E.cold C:=⟨h.y,h.m0⟩
def Zdg(E:Env)(ZaZ:Nat→Array Oper→(St→Mem→Prop)→St→Mem→Prop):Prop:=
 ∀{C:Ctx} {F:Fence} (_:FOk F) (_:YOk E C) (n:Nat) (id:Nat) (ops:Array Oper) {K:St→Mem→Prop} {S:St} {m:Mem} {a:Act} {w:World} {Q:Exit→Act→World→Prop},
  ZkT C.n ops.toList=true→Rel C S m a w→ZaZ id ops K S m→(∀S' m' a' w',K S' m'→Rel C S' m' a' w'→Q .normal a' w')→(Code.region id ops true).wpIn F n E.P Q a w
theorem Zb5{E:Env}(hE:E.ok){ZaZ:Nat→Array Oper→(St→Mem→Prop)→St→Mem→Prop}(hD:ZdW E ZaZ)(gn:Zdg E ZaZ):
  ∀(c:Code),Zav E c=true→∀{F:Fence} (_:FOk F) {C:Ctx} (_:YOk E C) (_:ROk F C) (n:Nat),Zbj C.n c=true→∀{S:St} {m:Mem} {a:Act} {w:World} {K:KT} {Q:Exit→Act→World→Prop},Rel C S m a w→W E ZaZ c K S m→
   (∀e S' m' a' w',K e S' m'→Rel C S' m' a' w'→Q e a' w')→c.wpIn F n E.P Q a w
 | .skip,_,F,hF,C,hY,hR,n,_,S,m,a,w,K,Q,hr,h,hK=>wpIn_skip (hK _ _ _ _ _ h hr)
 | .label _,_,F,hF,C,hY,hR,n,_,S,m,a,w,K,Q,hr,h,hK=>wpIn_label (hK _ _ _ _ _ h hr)
 | .exit _,_,F,hF,C,hY,hR,n,_,S,m,a,w,K,Q,hr,h,hK=>wpIn_exit (hK _ _ _ _ _ h hr)
 | .ret,_,F,hF,C,hY,hR,n,_,S,m,a,w,K,Q,hr,h,hK=>wpIn_ret (hK _ _ _ _ _ h hr)
 | .region id ops draw,hc,F,hF,C,hY,hR,n,hl,S,m,a,w,K,Q,hr,h,hK=>by
  simp only[W]at h
  simp only[Zbj]at hl
  cases hj:E.joins id with
  | none=>
   simp only[hj]at h
   cases draw with
   | true=>exact gn hF hY n id ops hl hr (by simpa using h) (fun S' m' a' w' hk bB=>hK _ _ _ _ _ hk bB)
   | false=>
    simp only[cond_false]at h
    exact Zt3 hY hr h fun K' S' m' hr' h' fin=>wpIn_region (ZhZ hE hF hY hl _ hr' h' (fun S2 m2 a2 w2 hk bB=>by
     obtain⟨S3,m3,k3,r3⟩:=fin S2 m2 a2 w2 hk bB
     exact hK _ _ _ _ _ k3 r3))
  | some outs=>
   simp only[hj]at h
   obtain⟨xs,_,h1,h2⟩:=Shape.exL_elim _ _ h
   have fin:∀S' m' a' w',((S'.gh=S.gh∧ZbE S' Zf7 S.ids=ZbE S Zf7 S.ids∧Za5 S' Zf7 S.tkeys=Za5 S Zf7 S.tkeys∧ZgD S' outs fun xs'=>xs'=xs)∧SameOut (Zar ops.toList) S S'∧m.le m')→Rel C S' m' a' w'→Q .normal a' w':=by
    rintro S' m' a' w' ⟨⟨g0,g1,g2,g3⟩,g4,g5⟩ bB
    obtain⟨xs',_,e2,e3,rfl⟩:=Zcr bB g3
    refine hK _ _ _ _ _ h2 ?_
    have hz:=Zee (A:=⟨outs,[],[],false⟩) (css:=[]) (tvs:=[]) hr.ok bB g4 (by simpa[ZbE,Zf7]using g1) (by simpa[Za5,Zf7]using g2) e2 rfl (by simp) rfl (by simp)
    have:ZbA S (Zar ops.toList) ⟨outs,[],[],false⟩ S'.gh xs' [] []={ S with env:=Zby (fun i=>bif (Zar ops.toList).any (Nat.beq i ·)then none else S.env i) outs xs' }:=by
     simp[ZbA,ZgI,Ze3,g0]
    rw[this]at hz
    exact hz.forget g5 hr.le (fun id x hx hf=>(hr.own id x hx).known hf)
   cases draw with
   | true=>
    simp only[cond_true]at h1
    cases dA:E.last id with
    | true=>simp only[dA,cond_true]at h1
    | false=>
    simp only[dA,cond_false]at h1
    have h1':=hD id ops _ (fun S' m'=>(S'.gh=S.gh∧ZbE S' Zf7 S.ids=ZbE S Zf7 S.ids∧Za5 S' Zf7 S.tkeys=Za5 S Zf7 S.tkeys∧ZgD S' outs fun xs'=>xs'=xs)∧SameOut (Zar ops.toList) S S'∧m.le m') S m (fun S' m' hs hm y=>⟨by have y':=ZdY y;rw[ZcD,ZcE]at y';exact⟨y'.1 rfl,y'.2⟩,hs,hm.le dA⟩) h1
    exact gn hF hY n id ops hl hr h1' fin
   | false=>
    simp only[cond_false]at h1
    have h1':ZtV E.cold ops (List.range ops.size) (fun S' m'=>(S'.gh=S.gh∧ZbE S' Zf7 S.ids=ZbE S Zf7 S.ids∧Za5 S' Zf7 S.tkeys=Za5 S Zf7 S.tkeys∧ZgD S' outs fun xs'=>xs'=xs)∧SameOut (Zar ops.toList) S S'∧m.le m') S m:=
     Zg2 (E:=E.cold) (fun S' m' hs hm y=>⟨by have y':=ZdY y;rw[ZcD,ZcE]at y';exact⟨y'.1 rfl,y'.2⟩,hs,hm⟩) h1
    exact wpIn_region (ZhZ (E:=E.cold) hE hF hY.cold hl _ hr h1' fin)
 | .seq x y,hc,F,hF,C,hY,hR,n,hl,S,m,a,w,K,Q,hr,h,hK=>by
  simp only[Zav,Zbj,Bool.and_eq_true]at hc hl
  simp only[W]at h
  cases fF:E.cuts (ZaN y)with
  | none=>
   simp only[fF]at h
   refine wpIn_seq (Zb5 hE hD gn x hc.1.1 hF hY hR n hl.1 hr h fun e S' m' a' w' hk bB=>?_)
   cases e with
   | normal=>exact Zb5 hE hD gn y hc.1.2 hF hY hR n hl.2 bB hk hK
   | _=>exact hK _ _ _ _ _ hk bB
  | some A=>
   simp only[fF]at h hc
   obtain⟨J,h1,h2⟩:=h
   have h1':=ZdH hD x hc.1.1 (K':=fun e S' m'=>(match e with
    | .normal=>ZkU A.gh S'.gh S.gh (Zmk (ZbE S' A S.ids) (ZbE S A S.ids) (Zml (Za5 S' A S.tkeys) (Za5 S A S.tkeys) (ZgD S' A.slots fun xs=>ZrX S' A.boxes fun css=>ZfC S' A.toks fun tvs=>J (ghs A.gh S'.gh xs) css tvs m')))
    | e=>K e S' m')∧SameOut (Zid x) S S'∧leT E.thaw m m') (fun e S' m' hs hm y=>⟨y,hs,hm⟩) h1
   refine wpIn_seq (Zb5 hE hD gn x hc.1.1 hF hY hR n hl.1 hr h1' ?_)
   rintro e S' m' a' w' ⟨hk,hs,eU⟩ bB
   cases e with
   | normal=>
    obtain⟨r0,hk⟩:=ZdY hk
    obtain⟨r1,hk⟩:=ZcD.1 hk
    obtain⟨r2,hk⟩:=ZcE.1 hk
    obtain⟨xs,f1,f2,f3,hk⟩:=Zcr bB hk
    obtain⟨css,g1,g2,hk⟩:=ZcX hk
    obtain⟨tvs,k1,k2,hJ⟩:=ZbV hk
    have fR:∀v∈tvs,ZbS v=true:=fun v hv=>by
     obtain⟨i,hi⟩:=List.getElem?_of_mem hv
     have bA:=(List.getElem?_eq_some_iff.1 hi).1
     obtain⟨qe,iP⟩:∃qe,A.toks[i]?=some qe:=⟨_,List.getElem?_eq_getElem (by omega)⟩
     exact(k2 i qe.1 qe.2 v iP hi).1
    exact Zb5 hE hD gn y hc.1.2 hF hY hR n hl.2 (Zee hr.ok bB hs r1 r2 f2 g1 g2 k1 k2) (Zd2 (Zd1 (Shape.allL_fits _ _ (ZgX h2 r0) xs f1) css g1) tvs k1 fR m' eU hJ) hK
   | _=>exact hK _ _ _ _ _ hk bB
 | .cond c x y,hc,F,hF,C,hY,hR,n,hl,S,m,a,w,K,Q,hr,h,hK=>by
  simp only[Zav,Zbj,Bool.and_eq_true]at hc hl
  obtain⟨v,hv,h⟩:=ZaC h
  obtain⟨h1,h2⟩:=Zae h
  obtain⟨b,rfl⟩:∃b,v=.bool b:=⟨_,Zbz h1⟩
  simp only[Zcl]at h2
  refine wpIn_cond (hr.ev hv) ?_
  cases b
  ·exact Zb5 hE hD gn y hc.2 hF hY hR n hl.2 hr h2 hK
  ·exact Zb5 hE hD gn x hc.1 hF hY hR n hl.1 hr h2 hK
 | .block id x,hc,F,hF,C,hY,hR,n,hl,S,m,a,w,K,Q,hr,h,hK=>by
  simp only[Zav,Zbj]at hc hl
  simp only[W]at h
  refine wpIn_block (Zb5 hE hD gn x hc hF hY hR n hl hr h fun e S' m' a' w' hk bB=>?_)
  cases e with
  | exit id'=>
   simp only at hk
   simp only[Exit.inBlock]
   cases hb:Nat.beq id' id with
   | true=>
    simp only[hb,cond_true]at hk
    rw[if_pos (Nat.eq_of_beq_eq_true hb)]
    exact hK _ _ _ _ _ hk bB
   | false=>
    simp only[hb,cond_false]at hk
    rw[if_neg (fun e=>by subst e;simp at hb)]
    exact hK _ _ _ _ _ hk bB
  | _=>exact hK _ _ _ _ _ hk bB
 | .loop x,hc,F,hF,C,hY,hR,n,hl,S,m,a,w,K,Q,hr,h,hK=>by
  simp only[Zav,Zbj,Bool.and_eq_true]at hc hl
  simp only[W]at h
  obtain⟨I,h1,h2⟩:=h
  generalize hA:E.loops (ZaN x)=A at *
  obtain⟨xs,f1,f2,f3,h1⟩:=Zcr hr h1
  obtain⟨css,g1,g2,h1⟩:=ZcX h1
  obtain⟨tvs,k1,k2,q,h1⟩:=ZbV h1
  have cB:=hr.ok
  refine Zm8 (fun q a w=>∃g xs css tvs m',(A.gh=false→g=S.gh)∧Shape.fitsL (A.slots.map (·.2)) xs=true∧css.length=A.boxes.length∧tvs.length=A.toks.length∧(∀v∈tvs,ZbS v=true)∧leT E.thaw m m'∧I (ghs A.gh g xs) css tvs m' q∧Rel C (ZbA S (Zid x) A g xs css tvs) m' a w) ?_ ?_
  ·refine⟨q,S.gh,xs,css,tvs,m,fun _=>rfl,f1,g1,k1,fun v hv=>?_,leT.refl _ m,h1,?_⟩
   ·obtain⟨i,hi⟩:=List.getElem?_of_mem hv
    have bA:=(List.getElem?_eq_some_iff.1 hi).1
    obtain⟨qe,iP⟩:∃qe,A.toks[i]?=some qe:=⟨_,List.getElem?_eq_getElem (by omega)⟩
    exact(k2 i qe.1 qe.2 v iP hi).1
   ·exact Zee cB hr (SameOut.refl _ _) rfl rfl f2 g1 g2 k1 k2
  ·rintro q a w ⟨g,xs,css,tvs,m',hg,f1,g1,k1,k2,hm,hI,bB⟩
   have hb:=Zd2 (Zd1 (Shape.allL_fits _ _ (ZgX h2 hg) xs f1) css g1) tvs k1 k2 m' q hm hI
   have hb':=ZdH hD x hc.1 (K':=fun e S' m''=>(match e with
    | .normal=>ZkU A.gh S'.gh S.gh (Zmk (ZbE S' A S.ids) (ZbE S A S.ids) (Zml (Za5 S' A S.tkeys) (Za5 S A S.tkeys) (ZgD S' A.slots fun xs'=>ZrX S' A.boxes fun css'=>ZfC S' A.toks fun tvs'=>∃n',n' < q∧I (ghs A.gh S'.gh xs') css' tvs' m'' n')))
    | e=>K e S' m'')∧SameOut (Zid x) (ZbA S (Zid x) A g xs css tvs) S'∧leT E.thaw m' m'') (fun e S' m'' hs hm y=>⟨y,hs,hm⟩) hb
   refine Zb5 hE hD gn x hc.1 hF hY hR n hl bB hb' ?_
   rintro e S' m'' a' w' ⟨hk,hs,eU⟩ iS
   cases e with
   | normal=>
    obtain⟨r0,hk⟩:=ZdY hk
    obtain⟨r1,hk⟩:=ZcD.1 hk
    obtain⟨r2,hk⟩:=ZcE.1 hk
    obtain⟨xs',f1',f2',f3',hk⟩:=Zcr iS hk
    obtain⟨css',g1',g2',hk⟩:=ZcX hk
    obtain⟨tvs',k1',k2',q',bA,hI'⟩:=ZbV hk
    have hm':leT E.thaw m m'':=leT.trans hm eU
    refine⟨q',bA,S'.gh,xs',css',tvs',m'',r0,f1',g1',k1',fun v hv=>?_,hm',hI',?_⟩
    ·obtain⟨i,hi⟩:=List.getElem?_of_mem hv
     have bA:=(List.getElem?_eq_some_iff.1 hi).1
     obtain⟨qe,iP⟩:∃qe,A.toks[i]?=some qe:=⟨_,List.getElem?_eq_getElem (by omega)⟩
     exact(k2' i qe.1 qe.2 v iP hi).1
    ·have cU:SameOut (Zid x) S S':=SameOut.trans (Zde (S':=ZbA S (Zid x) A g xs css tvs) hc.2 rfl) hs
     exact Zee cB iS cU r1 r2 f2' g1' g2' k1' k2'
   | _=>exact hK _ _ _ _ _ hk iS
 | .goto _,_,F,hF,C,hY,hR,n,_,S,m,a,w,K,Q,hr,h,hK=>by simp[W]at h
 | .scope x,hc,F,hF,C,hY,hR,n,hl,S,m,a,w,K,Q,hr,h,hK=>by
  simp only[Zav,Zbj]at hc hl
  simp only[W]at h
  refine Zox (Zb5 hE hD gn x hc hF hY hR n hl hr h fun e S' m' a' w' hk bB=>?_)
  cases e with
  | goto l=>exact hk.elim
  | _=>exact hK _ _ _ _ _ hk bB
 | .rangeFunc f ps x y,hc,F,hF,C,hY,hR,n,hl,S,m,a,w,K,Q,hr,h,hK=>by
  simp only[Zav,Zbj,Bool.and_eq_true]at hc hl
  simp only[W]at h
  exact Zm7 hF hY hR n (fun hF' _ hY' hR' n' hl'=>Zb5 hE hD gn x hc.1 hF' hY' hR' n' hl') (fun hF' _ hY' hR' n' hl'=>Zb5 hE hD gn y hc.2 hF' hY' hR' n' hl')
   (fun hk=>ZdH hD x hc.1 (fun e S' m' _ hm y=>⟨y,hm⟩) hk) (fun hk=>ZdH hD y hc.2 (fun e S' m' _ hm y=>⟨y,hm⟩) hk) hl.2.1 hl.2.2 hl.1 hr h hK
 | .refuse _,_,F,hF,C,hY,hR,n,_,S,m,a,w,K,Q,hr,h,hK=>by simp[W]at h
end Go.Eng
namespace Go.Eng
open Go Go.RowKit
def bid(j:Nat):Nat:=100000+j
def Zoy(xs:List Box):SV→Value
 | .v x=>x
 | .loc id off=>match xs[id - 100000]? with
  | some x=>.pointer (some ⟨x.b,off,none⟩)
  | none=>undef
 | .sl id n c=>match xs[id - 100000]? with
  | some x=>.slice (some ⟨x.b,0,none⟩) n c
  | none=>undef
def ZvB(xs:List Box):SV→Bool
 | .v _=>true
 | .loc id _=>Nat.ble 100000 id&&Nat.blt (id - 100000) xs.length
 | .sl id _ _=>Nat.ble 100000 id&&Nat.blt (id - 100000) xs.length
def Zk0(xs:List Box):List SV→Bool
 | []=>true
 | s::l=>ZvB xs s&&Zk0 xs l
def S0(svs:List SV)(xs:List Box):St:=
 {env:=fun i=>svs[i]?
  L:=fun id=>bif Nat.ble 100000 id then xs[id - 100000]? else none
  ids:=(List.range xs.length).map bid
  tok:=fun _=>none
  tkeys:=[]
  gh:=0 }
def ZrY(E:Env)(S:St)(m:Mem):ResultVar→(Value→Prop)→Prop
 | .tmp t,k=>wv S (.tmp t) k
 | .cell t T,k=>ZfA E S m T (.tmp t) k
def Zoz(tmps:Array Value):ResultVar→Sem Value
 | .tmp t=>pure (tmps.getD t undef)
 | .cell a t=>do loadVar t (←asAddr (tmps.getD a undef))
def Zvl(E:Env)(S:St)(m:Mem):List ResultVar→(List Value→Prop)→Prop
 | [],k=>k []
 | r::l,k=>ZrY E S m r fun v=>Zvl E S m l fun vs=>k (v::vs)
def ZrQ:List Value→Value
 | [v]=>v
 | vs=>.tuple vs.toArray
def ZtK(S:St):Nat→List Box→(List (List Value)→Prop)→Prop
 | _,[],k=>k []
 | j,x::xs,k=>match S.L (bid j)with
  | none=>False
  | some y=>{ y with cs:=x.cs }=x∧ZtK S (j+1) xs fun css=>k (y.cs::css)
def ZtL(l:List Nat):Bool:=Za6 l&&l.all (fun i=>Nat.blt i 100000)
def Zxa(E:Env)(rs:List ResultVar)(m0:Mem)(xs:List Box)(R:Value→Mem→List (List Value)→Prop)(S:St)(m:Mem):Prop:=
 Zvl E S m rs fun vs=>ZtK S 0 xs fun css=>∃m'',m0.le m''∧m''.le (ZrT S E.frz m)∧R (ZrQ vs) m'' css
def Zxi(E:Env)(rs:List ResultVar)(m0:Mem)(xs:List Box)(R:Value→Mem→List (List Value)→Prop):KT:=fun e S m=>match e with
 | .normal=>Zxa E rs m0 xs R S m
 | .ret=>Zxa E rs m0 xs R S m
 | _=>False
theorem Zm9{P:Program}{T:TypeId}{x v:Value}{w:World}(h:(Instr.loadAt T x).run P w=.ok v w):(do loadVar T (←asAddr x):Sem Value).run P w=.ok v w:=by
 cases x with
 | pointer p=>
  cases p with
  | none=>simp[Instr.loadAt,Instr.sureAddr]at h
  | some p=>simpa[Instr.loadAt,Instr.sureAddr,asAddr]using h
 | _=>simp[Instr.loadAt,Instr.sureAddr]at h
theorem ZlS{a b:Nat}(h:Nat.blt a b=true):a < b:=Nat.le_of_ble_eq_true h
section
variable {C:Ctx} {S:St} {m:Mem} {a:Act} {w:World}
theorem ZjS{E:Env}(hE:E.ok)(hr:Rel C S m a w){r:ResultVar}{k:Value→Prop}(h:ZrY E S m r k):∃v,k v∧(Zoz a.tmps r).run E.P w=.ok v w:=by
 cases r with
 | tmp t=>
  obtain⟨v,hv,hk⟩:=ZaC h
  refine⟨v,hk,?_⟩
  have:=hr.ev hv
  simp only[Act.eval]at this
  simp only[Zoz]
  rw[←this];rfl
 | cell t T=>
  obtain⟨v,hk,bL⟩:=ZfY hE hr h
  exact⟨v,hk,Zm9 bL⟩
theorem Zd4{E:Env}(hE:E.ok)(hr:Rel C S m a w):∀{rs:List ResultVar} {k:List Value→Prop},Zvl E S m rs k→∃vs,k vs∧(rs.mapM (Zoz a.tmps)).run E.P w=.ok vs w
 | [],k,h=>⟨[],h,by simp⟩
 | r::l,k,h=>by
  obtain⟨v,h,h1⟩:=ZjS hE hr h
  obtain⟨vs,hk,h2⟩:=Zd4 hE hr h
  refine⟨v::vs,hk,?_⟩
  rw[List.mapM_cons]
  simp only[Sem.run_bind,h1,Result.andThen_ok,h2]
  rfl
theorem ZcZ{fn:Func}{tmps:Array Value}{P:Program}{w:World}{vs:List Value}(h:(fn.results.toList.mapM (Zoz tmps)).run P w=.ok vs w):(results fn tmps).run P w=.ok (ZrQ vs) w:=by
 have e:results fn tmps=(do
  let vs ←fn.results.mapM (Zoz tmps)
  pure (if h:vs.size=1 then vs[0]else .tuple vs)):=rfl
 rw[e,Array.mapM_eq_mapM_toList]
 simp only[Sem.run_bind,Sem.run_map,h,Result.andThen_ok]
 match vs with
 | []=>rfl
 | [v]=>rfl
 | v::u::l=>rfl
theorem Zgb:∀{xs:List Box} {j:Nat} {k:List (List Value)→Prop},ZtK S j xs k→∃css,css.length=xs.length∧(∀(i:Nat)(x:Box),xs[i]?=some x→∃cs,css[i]?=some cs∧S.L (bid (j+i))=some { x with cs:=cs })∧k css
 | [],j,k,h=>⟨[],rfl,by simp,h⟩
 | x::xs,j,k,h=>by
  simp only[ZtK]at h
  cases hL:S.L (bid j)with
  | none=>simp[hL]at h
  | some y=>
   simp only[hL]at h
   obtain⟨h1,h2⟩:=h
   obtain⟨css,g1,g2,g3⟩:=Zgb h2
   refine⟨y.cs::css,by simp[g1],?_,g3⟩
   intro i z hi
   cases i with
   | zero=>
    simp at hi;subst hi
    refine⟨y.cs,by simp,?_⟩
    rw[Nat.add_zero,hL,←h1]
   | succ i=>
    obtain⟨cs,h3,h4⟩:=g2 i z (by simpa using hi)
    exact⟨cs,by simpa using h3,by rw[←h4];congr 2;omega⟩
theorem Zd5(S:St)(m:Mem):∀{l:List Nat} {b:Nat},(∀id∈l,∀x,S.L id=some x→x.b≠b)→∀o,ZrT S l m b o=m b o
 | [],b,_,o=>rfl
 | id::l,b,h,o=>by
  have ih:=Zd5 S m (l:=l) (b:=b) (fun i hi=>h i (by simp[hi])) o
  simp only[ZrT]
  cases hL:S.L id with
  | none=>exact ih
  | some x=>
   simp only
   cases hz:x.fz with
   | true=>exact ih
   | false=>
    simp only[cond_false]
    rw[Mem.add_other _ (Ne.symm (h id (by simp) x hL))];exact ih
theorem Zpu(hr:Rel C S m a w):∀{l:List Nat},l.Nodup→m.le (ZrT S l m)∧Sub (ZrT S l m) w∧(∀b o v,ZrT S l m b o=some v→m b o=some v∨∃id∈l,∃x,S.L id=some x∧x.b=b)
 | [],_=>⟨Mem.le_refl m,hr.sub,fun b o v h=>.inl h⟩
 | id::l,hn=>by
  obtain⟨h1,h2⟩:=List.nodup_cons.1 hn
  obtain⟨i1,i2,i3⟩:=Zpu hr h2
  simp only[ZrT]
  cases hL:S.L id with
  | none=>exact⟨i1,i2,fun b o v h=>(i3 b o v h).imp_right fun⟨id',h,x⟩=>⟨id',by simp[h],x⟩⟩
  | some x=>
   simp only
   cases hz:x.fz with
   | true=>exact⟨i1,i2,fun b o v h=>(i3 b o v h).imp_right fun⟨id',h,x⟩=>⟨id',by simp[h],x⟩⟩
   | false=>
    simp only[cond_false]
    have eK:=(hr.own id x hL)
    have bS:(ZrT S l m).free x.b:=fun o=>by
     rw[Zd5 S m (fun i hi y hy e=>h1 (hr.apart _ _ _ _ hy hL e ▸ hi))]
     exact eK.free hz o
    refine⟨Mem.le_trans i1 (Mem.le_add bS x.cs),?_,?_⟩
    ·intro b o v hv
     by_cases hb:b=x.b
     ·subst hb;rw[Mem.add_same]at hv;exact eK.cell hv
     ·rw[Mem.add_other _ hb]at hv;exact i2 b o v hv
    ·intro b o v hv
     by_cases hb:b=x.b
     ·exact .inr ⟨id,by simp,x,hL,hb.symm⟩
     ·rw[Mem.add_other _ hb]at hv
      exact(i3 b o v hv).imp_right fun⟨id',h,x⟩=>⟨id',by simp[h],x⟩
end
theorem Zh0{xs:List Box}:∀{l:List SV},Zk0 xs l=true→∀(i:Nat) s,l[i]?=some s→ZvB xs s=true
 | [],_,i,s,h=>by simp at h
 | x::l,h,i,s,hs=>by
  simp only[Zk0,Bool.and_eq_true]at h
  cases i with
  | zero=>simp at hs;subst hs;exact h.1
  | succ i=>exact Zh0 h.2 i s (by simpa using hs)
def ZwA(n:Nat)(m:Mem)(w:World)(bs:List Nat):Ctx where
 n:=n
 m0:=m
 p:=fun _ M w'=>Keep w.heap.size bs w w'∧∀k,M k→w.heap.size≤k∨k∈bs
 st:=by
  rintro g M M' w1 w2 ⟨h1,h2⟩ hu hg
  refine⟨h1.trans ⟨hu.os,hu.tape,hu.output,hu.size,fun k hk hn=>hu.block k (Nat.lt_of_lt_of_le hk h1.size) fun hm=>?_,hu.wr⟩,fun k hk=>?_⟩
  ·rcases h2 k hm with h|h
   ·omega
   ·exact hn h
  ·rcases hg k hk with h|h
   ·exact h2 k h
   ·have:=h1.size;exact .inl (by omega)
theorem ZrZ{n:Nat}{m:Mem}{w:World}{bs:List Nat}(hb:∀k∈bs,Wr w k){g:Int}{M:Nat→Prop}{w':World}(h:(ZwA n m w bs).p g M w')(k:Nat)(hk:M k):Wr w' k:=by
 rcases h.2 k hk with h1|h1
 ·exact h.1.wr k (Wr.of_none h1)
 ·exact h.1.wr k (hb k h1)
theorem Zk1{C:Ctx}{w:World}{xs:List Box}{svs:List SV}(hs:Sub C.m0 w)(hx:∀x∈xs,Own C.m0 w x∧x.fz=false)(dQ:(xs.map (·.b)).Nodup)(cB:Zk0 xs svs=true)(hn:svs.length≤C.n)(hp:C.p 0 (fun k=>k∈xs.map (·.b)) w):
  Rel C (S0 svs xs) C.m0 { tmps:=(svs.map (Zoy xs)).toArray++Array.replicate (C.n - (svs.map (Zoy xs)).toArray.size) undef,defers:=[] } w:=by
 have hL:∀id x,(S0 svs xs).L id=some x→100000≤id∧xs[id - 100000]?=some x:=fun id x h=>by
  simp only[S0]at h
  cases hb:Nat.ble 100000 id with
  | false=>simp[hb]at h
  | true=>simp only[hb,cond_true]at h;exact⟨Nat.le_of_ble_eq_true hb,h⟩
 refine⟨⟨[],rfl,List.nodup_nil,by simp⟩,by simp;omega,?_,?_,?_,?_,by simp[S0],by simp[S0],by simp[S0],hs,Mem.le_refl _,⟨_,hp,fun k hk=>?_,fun id x hx=>?_,fun k t b ht=>by simp[S0]at ht,by simp,fun _ _ _ h=>.inl h⟩⟩
 ·intro i sv he
  simp only[S0]at he
  have bA:=(List.getElem?_eq_some_iff.1 he).1
  have h1:=Zh0 cB i sv he
  refine⟨Zoy xs sv,?_,?_⟩
  ·cases sv with
   | v x=>rfl
   | loc id off=>
    simp only[ZvB,Bool.and_eq_true]at h1
    have h2:id - 100000 < xs.length:=ZlS h1.2
    simp[St.den,S0,Zoy,h1.1,List.getElem?_eq_getElem h2]
   | sl id n c=>
    simp only[ZvB,Bool.and_eq_true]at h1
    have h2:id - 100000 < xs.length:=ZlS h1.2
    simp[St.den,S0,Zoy,h1.1,List.getElem?_eq_getElem h2]
  ·rw[Array.getElem?_append_left (by simpa using bA)]
   simp[he]
 ·intro id x hx'
  have:=List.mem_of_getElem? (hL id x hx').2
  exact(hx x this).1
 ·intro id id' x x' h1 h2 hb
  obtain⟨g1,g2⟩:=hL _ _ h1
  obtain⟨g3,g4⟩:=hL _ _ h2
  have hi:=(List.getElem?_eq_some_iff.1 g2).1
  have hi':=(List.getElem?_eq_some_iff.1 g4).1
  have:=(List.getElem?_inj (l:=xs.map (·.b)) (i:=id - 100000) (j:=id' - 100000) (by simpa using hi) dQ).1 (by simp[g2,g4,hb])
  omega
 ·intro id x h1
  obtain⟨g1,g2⟩:=hL _ _ h1
  have hi:=(List.getElem?_eq_some_iff.1 g2).1
  simp only[S0,List.mem_map,List.mem_range,bid]
  exact⟨id - 100000,hi,by omega⟩
 ·obtain⟨x,h1,h2⟩:=List.mem_map.1 hk
  exact h2 ▸ (hx x h1).1.lt
 ·exact List.mem_map.2 ⟨x,List.mem_of_getElem? (hL id x hx).2,rfl⟩
theorem Zna{n:Nat}{w:World}{m:Mem}{xs:List Box}{svs:List SV}(hs:Sub m w)(hx:∀x∈xs,Own m w x∧x.fz=false)(dQ:(xs.map (·.b)).Nodup)(cB:Zk0 xs svs=true)(hn:svs.length≤n):
  Rel (ZwA n m w (xs.map (·.b))) (S0 svs xs) m { tmps:=(svs.map (Zoy xs)).toArray++Array.replicate (n - (svs.map (Zoy xs)).toArray.size) undef,defers:=[] } w:=
 Zk1 (C:=ZwA n m w (xs.map (·.b))) hs hx dQ cB hn ⟨Keep.refl _ _ _,fun k hk=>.inr hk⟩
theorem Rel.leave{P:Program}{C:Ctx}{S:St}{m:Mem}{fn:Func}{tmps:Array Value}{R:Ending→World→Prop}(h:∀a' w',a'.tmps=tmps→Rel C S m a' w'→∃v,(results fn tmps).run P w'=.ok v w'∧R (.returned v) w'):
  ∀(ms:List Nat)(a:Act)(w:World),a.tmps=tmps→a.defers=ms.map ZiZ→Rel C S m a w→LeavesInM Fence.wide 0 P fn tmps R a.defers .returning w
 | [],a,w,ht,hm,hr=>by
  rw[hm]
  simp only[List.map_nil,LeavesInM,LeavesIn]
  exact h a w ht hr
 | D::ms,a,w,ht,hm,hr=>by
  obtain⟨ms',q1,q2,q3⟩:=hr.defers
  have eU:ms'=D::ms:=by
   rw[hm]at q1
   have inj:∀(l l':List Nat),l.map ZiZ=l'.map ZiZ→l=l':=by
    intro l
    induction l with
    | nil=>intro l' h;cases l' <;> simp_all
    | cons x l ih=>
     intro l' h
     cases l' with
     | nil=>simp at h
     | cons y l'=>simp only[List.map_cons,List.cons.injEq]at h;rw[ih l' h.2];simpa[ZiZ]using h.1
   exact(inj _ _ q1).symm
  subst eU
  have hD:=q3 D (by simp)
  rw[hm]
  simp only[List.map_cons,LeavesInM]
  refine⟨by simp,.inl ⟨D,_,rfl,run_takeDeferred hD,?_⟩⟩
  have hr':Rel C S m { a with defers:=ms.map ZiZ } (w.putObj D (.deferred none)):=by
   obtain⟨M,hd⟩:=hr.dom
   have rf:M D:=hd.mks D (by rw[hm];simp)
   have cS:∀k,k≠D→(w.putObj D (.deferred none)).heap[k]?=w.heap[k]?:=fun k hk=>World.putObj_heap_other hk
   refine hr.swap rfl hr.le rfl rfl rfl rfl hr.env hr.size ⟨ms,rfl,(List.nodup_cons.1 q2).2,fun D' hD'=>?_⟩ (fun k c T fr hk=>cS k (fun e=>by rw[e,hD]at hk;cases hk)) (fun k t b ht hb=>((hr.toks k t ht).2 b hb).2) ?_
   ·rw[cS D' (fun e=>(List.nodup_cons.1 q2).1 (e ▸ hD'))];exact q3 D' (by simp[hD'])
   ·have h1:=hd.step (m':=m) (ZfF (o:=.deferred none) rfl rf) (fun b o v hv=>.inl hv)
    exact⟨_,h1.p,h1.lt,h1.own,h1.tok,fun D' hD'=>h1.mks D' (by rw[hm];exact List.mem_cons_of_mem _ hD'),h1.new⟩
  exact Rel.leave h ms { a with defers:=ms.map ZiZ } _ ht rfl hr'
theorem Zt6{E:Env}(hE:E.ok){ZaZ:Nat→Array Oper→(St→Mem→Prop)→St→Mem→Prop}(hD:ZdW E ZaZ)(gn:Zdg E ZaZ){g:FuncId}{fn:Func}{c:Code}
  (hf:E.P.funcs[g]?=some fn) (hn:(fn.name == "runtime.NumGoroutine")=false) (hb:fn.body=some c) (hc:Zav E c=true) (hl:Zbj fn.ntmps c=true) (hz:ZtL E.frz=true) (gv:E.yl=none)
  {m:Mem} (eI:∀mm,E.m0=some mm→m=mm) {R:Value→Mem→List (List Value)→Prop} (svs:List SV) (xs:List Box) (bQ:Nat.ble svs.length fn.ntmps=true) (cB:Zk0 xs svs=true)
  (h:W E ZaZ c (Zxi E fn.results.toList m xs R) (S0 svs xs) m):CX E.P g (svs.map (Zoy xs)).toArray m xs R:=by
 refine⟨ZgN hf hn (by simp[hb]),fun w hs hx dQ=>?_⟩
 have bB:=Zna (n:=fn.ntmps) hs hx dQ cB (Nat.le_of_ble_eq_true bQ)
 refine callsIn_wide.1 (callsIn_of_wp_marks (F:=Fence.wide) (n:=0) hf hb trivial ?_)
 refine Zb5 hE hD gn c hc (.inl rfl) (YOk.none gv (fun mm eU=>⟨eI mm eU,fun g M w' hp k hk=>ZrZ (fun k hk=>by
  obtain⟨x,h1,rfl⟩:=List.mem_map.1 hk
  exact(hx x h1).1.wr) hp k hk⟩)) (fun l hl=>by cases hl) 0 hl bB h ?_
 have key:∀S' m' a' w',Zxa E fn.results.toList m xs R S' m'→Rel (ZwA fn.ntmps m w (xs.map (·.b))) S' m' a' w'→LeavesInM Fence.wide 0 E.P fn a'.tmps (fun e w'=>
   ∃v_1 m'_1 css,e=Ending.returned v_1∧m.le m'_1∧Sub m'_1 w'∧ZgK m m'_1 w.heap.size∧Keep w.heap.size (xs.map (·.b)) w w'∧css.length=xs.length∧(∀(i:Nat)(x:Box)(cs:List Value),xs[i]?=some x→css[i]?=some cs→Own m'_1 w' { x with cs:=cs })∧R v_1 m'_1 css) a'.defers .returning w':=by
  intro S' m' a' w' hk hr
  obtain⟨ms,q1,_,_⟩:=hr.defers
  refine Rel.leave ?_ ms a' w' rfl q1 hr
  clear hr q1
  intro a2 w2 ht hr
  rw[←ht]
  obtain⟨vs,hk,bL⟩:=Zd4 hE hr hk
  obtain⟨css,h1,h2,m'',h3,h4,h5⟩:=Zgb hk
  obtain⟨M,hd⟩:=hr.dom
  refine⟨ZrQ vs,ZcZ bL,ZrQ vs,m'',css,rfl,h3,?_,?_,hd.p.1,h1,?_,h5⟩
  all_goals simp only[ZtL,Bool.and_eq_true]at hz
  all_goals have oH:=ZaE hz.1
  all_goals obtain⟨f1,f2,f3⟩:=Zpu hr oH
  ·exact fun b o v hv=>f2 b o v (h4 b o v hv)
  ·intro b o v hv
   rcases f3 b o v (h4 b o v hv)with hv|⟨id,cL,x,eN,fY⟩
   ·rcases hd.new b o v hv with h6|h6
    ·exact .inl h6
    ·rcases hd.p.2 b h6 with h6|h6
     ·exact .inr h6
     ·exfalso
      obtain⟨y,hy,fP⟩:=List.mem_map.1 h6
      obtain⟨i,hi⟩:=List.getElem?_of_mem hy
      obtain⟨cs,_,ik⟩:=h2 i y hi
      have:=(hr.own _ _ ik).free (hx y hy).2 o
      simp only[fP]at this
      rw[this]at hv;cases hv
   ·right
    have h6:=hd.p.2 _ (hd.own id x eN)
    subst fY
    rcases h6 with h6|h6
    ·exact h6
    ·exfalso
     obtain⟨y,hy,fP⟩:=List.mem_map.1 h6
     obtain⟨i,hi⟩:=List.getElem?_of_mem hy
     obtain⟨cs,_,ik⟩:=h2 i y hi
     have:=hr.apart _ _ _ _ eN ik fP.symm
     have bA:id < 100000:=by
      have:=List.all_eq_true.1 hz.2 id cL
      exact ZlS this
     simp only[bid]at this
     omega
  ·intro i x cs hi cR
   obtain⟨cs',h6,h7⟩:=h2 i x hi
   rw[cR]at h6;cases h6
   have ho:=hr.own _ _ h7
   have lV:=(hx x (List.mem_of_getElem? hi)).2
   refine⟨ho.cells,fun _ o=>?_,fun hz'=>by simp[lV]at hz',ho.whole⟩
   cases hv:m'' x.b o with
   | none=>rfl
   | some v=>
    have h8:=h4 _ _ _ hv
    rw[Zd5 S' m' (fun id cL y hy e=>?_)]at h8
    ·have:=ho.free lV o
     simp only at this
     rw[this]at h8;cases h8
    ·have:=hr.apart _ _ _ _ hy h7 e
     have bA:id < 100000:=by
      have:=List.all_eq_true.1 hz.2 id cL
      exact ZlS this
     simp only[bid]at this
     omega
 intro e S' m' a' w' hk hr
 cases e with
 | normal=>exact key S' m' a' w' hk hr
 | ret=>exact key S' m' a' w' hk hr
 | exit _=>exact hk.elim
 | goto _=>exact hk.elim
 | panic _=>exact hk.elim
 | outgrown=>exact hk.elim
def Zwe(E:Env)(rs:List ResultVar)(n:Nat):KT:=fun e S m=>match e with
 | .normal=>Zvl E S m rs fun _=>S.gh=n∨S.gh=-1
 | .ret=>Zvl E S m rs fun _=>S.gh=n∨S.gh=-1
 | _=>False
def Env.yields(E:Env)(l:Nat)(xs:List (List Value)):Env:={ E with yl:=some fun l' g v=>l'=l∧0≤g∧xs[g.toNat]?=some v,m0:=none }
theorem Zt7{E:Env}(hE:E.ok){ZaZ:(E:Env)→Nat→Array Oper→(St→Mem→Prop)→St→Mem→Prop}{g:FuncId}{fn:Func}{c:Code}
  (hf:E.P.funcs[g]?=some fn) (hn:(fn.name == "runtime.NumGoroutine")=false) (hb:fn.body=some c) (hl:Zbj fn.ntmps c=true)
  {m:Mem} (first captured:List Value) (xs:List (List Value)) (bQ:Nat.ble (first.length+captured.length+1) fn.ntmps=true)
  (h:∀l,ZdW (E.yields l xs) (ZaZ (E.yields l xs))∧Zdg (E.yields l xs) (ZaZ (E.yields l xs))∧Zav (E.yields l xs) c=true∧W (E.yields l xs) (ZaZ (E.yields l xs)) c (Zwe E fn.results.toList xs.length) (S0 ((first++.func (.yield l) #[] #[]::captured).map .v) []) m):
  IX E.P g first captured m xs:=by
 refine⟨ZgN hf hn (by simp[hb]),fun p hp l w hs nX hy=>?_⟩
 obtain⟨hD,gn,hc,h⟩:=h l
 have hE':(E.yields l xs).ok:=hE
 let C:Ctx:=⟨fn.ntmps,m,p,hp⟩
 have cB:∀vs:List Value,Zk0 [] (vs.map .v)=true:=fun vs=>by
  induction vs with
  | nil=>rfl
  | cons v vs ih=>simp[Zk0,ZvB,ih]
 have kx:∀vs:List Value,(vs.map SV.v).map (Zoy [])=vs:=fun vs=>by
  induction vs with
  | nil=>rfl
  | cons v vs ih=>simp only[List.map_cons,ih];rfl
 have bB:=Zk1 (C:=C) (xs:=[]) (svs:=(first++.func (.yield l) #[] #[]::captured).map .v) hs (by simp) (by simp) (cB _) (by have:=Nat.le_of_ble_eq_true bQ;simp;omega) (by
  have e:(fun k=>k∈([]:List Box).map (·.b))=(fun _:Nat=>False):=by funext k;simp
  rw[e];exact nX)
 rw[kx]at bB
 refine callsIn_wide.1 (callsIn_of_wp_marks (F:=Fence.wide) (n:=0) hf hb trivial ?_)
 refine Zb5 hE' hD gn c hc (.inl rfl) (C:=C) ⟨fun Y hY=>by
  simp only[Env.yields,Option.some.injEq]at hY
  subst hY;exact hy,fun mm eU=>by cases eU⟩ (fun l hl=>by cases hl) 0 hl bB h ?_
 have key:∀S' m' a' w',Zvl E S' m' fn.results.toList (fun _=>S'.gh=xs.length∨S'.gh=-1)→Rel C S' m' a' w'→LeavesInM Fence.wide 0 E.P fn a'.tmps (fun e w'=>∃v M,e=.returned v∧(∀k,M k→k < w'.heap.size)∧(p xs.length M w'∨p (-1) M w')) a'.defers .returning w':=by
  intro S' m' a' w' hk hr
  obtain⟨ms,q1,_,_⟩:=hr.defers
  refine Rel.leave ?_ ms a' w' rfl q1 hr
  clear hr q1
  intro a2 w2 ht hr
  rw[←ht]
  obtain⟨vs,hk,bL⟩:=Zd4 hE hr hk
  obtain⟨M,hd⟩:=hr.dom
  refine⟨ZrQ vs,ZcZ bL,_,M,rfl,hd.lt,?_⟩
  have:=hd.p
  rcases hk with hk|hk
  ·rw[hk]at this;exact .inl this
  ·rw[hk]at this;exact .inr this
 intro e S' m' a' w' hk hr
 cases e with
 | normal=>exact key S' m' a' w' hk hr
 | ret=>exact key S' m' a' w' hk hr
 | exit _=>exact hk.elim
 | goto _=>exact hk.elim
 | panic _=>exact hk.elim
 | outgrown=>exact hk.elim
end Go.Eng
namespace Go.Eng
open Go Go.RowKit
def LC{α β:Type}(T1:(α→Prop)→Prop)(T2:(β→Prop)→Prop)(ρ:α→β→Prop):Prop:=
 T1 (fun _=>True)→T2 (fun y2=>∃y1,(∀K,T1 K→K y1)∧ρ y1 y2)
section comb
variable {α β:Type} {ρ:α→β→Prop}
theorem LC.false{T2:(β→Prop)→Prop}:LC (fun _:α→Prop=>False) T2 ρ:=fun h=>h.elim
theorem LC.ret{a:α}{b:β}(h:ρ a b):LC (fun K=>K a) (fun K=>K b) ρ:=fun _=>⟨a,fun _ hK=>hK,h⟩
theorem LC.chk{c:Bool}{T1:(α→Prop)→Prop}{T2:(β→Prop)→Prop}(h:c=true→LC T1 T2 ρ):LC (fun K=>chk c (T1 K)) (fun K=>chk c (T2 K)) ρ:=by
 cases c
 ·exact fun h=>h.elim
 ·exact h rfl
theorem LC.br{c:Bool}{T1 U1:(α→Prop)→Prop}{T2 U2:(β→Prop)→Prop}(h:LC T1 T2 ρ)(k:LC U1 U2 ρ):LC (fun K=>br c (T1 K) (U1 K)) (fun K=>br c (T2 K) (U2 K)) ρ:=by
 cases c
 ·exact k
 ·exact h
theorem LC.and{p q:Prop}{T1:(α→Prop)→Prop}{T2:(β→Prop)→Prop}(ji:p→q)(h:p→LC T1 T2 ρ)(mono:∀{K K':β→Prop},(∀y,K y→K' y)→T2 K→T2 K'):LC (fun K=>p∧T1 K) (fun K=>q∧T2 K) ρ:=fun⟨h1,h2⟩=>
 ⟨ji h1,mono (fun y ⟨y1,g1,g2⟩=>⟨y1,fun K hK=>g1 K hK.2,g2⟩) (h h1 h2)⟩
theorem LC.map{γ δ:Type}{σ:γ→δ→Prop}{T1:(α→Prop)→Prop}{T2:(β→Prop)→Prop}(h:LC T1 T2 ρ)(f:α→γ)(g:β→δ)(rh:∀a b,ρ a b→σ (f a) (g b))(mono:∀{K K':β→Prop},(∀y,K y→K' y)→T2 K→T2 K'):
  LC (fun K=>T1 fun a=>K (f a)) (fun K=>T2 fun b=>K (g b)) σ:=fun h1=>
 mono (fun b ⟨a,g1,g2⟩=>⟨f a,fun K hK=>g1 _ hK,rh _ _ g2⟩) (h h1)
end comb
abbrev LE{α:Type}(T1 T2:(α→Prop)→Prop):Prop:=LC T1 T2 Eq
theorem Zpv{l:List Value}{n:Nat}{α β:Type}{ρ:α→β→Prop}{f:Value→α}{g:Value→β}(h:∀v,ρ (f v) (g v)):LC (fun K=>ZrO l n fun v=>K (f v)) (fun K=>ZrO l n fun v=>K (g v)) ρ:=by
 unfold ZrO
 cases hl:l[n]? with
 | none=>exact LC.false
 | some v=>simp only;exact LC.ret (h v)
theorem Zr0{op:BinOp}{b:Bool}:LE (ZrP op b) (ZrP op b):=by
 cases op <;> first
  | exact LC.false
  | exact LC.ret rfl
theorem Zt8{op:BinOp}{k:IntKind}{a b:Int}:LE (Zvd op k a b) (Zvd op k a b):=by
 cases op <;> first
  | exact LC.false
  | exact LC.ret rfl
  | exact LC.and id (fun _=>LC.ret rfl) (fun h=>h _)
theorem ZqL{op:BinOp}{k:IntKind}{a b:Int}:LE (ZjD op k a b) (ZjD op k a b):=by
 cases op <;> first
  | exact LC.false
  | exact LC.and id (fun _=>LC.ret rfl) (fun h=>h _)
theorem Zt9{op:BinOp}{a b:ByteArray}:LE (Zve op a b) (Zve op a b):=by
 cases op <;> first
  | exact LC.false
  | exact LC.ret rfl
  | exact LC.and id (fun _=>LC.ret rfl) (fun h=>h _)
theorem EqIs.unique{P:Program}{T:TypeId}{x y:Value}{a b:Bool}(w:World)(h:EqIs P T x y a)(k:EqIs P T x y b):a=b:=by
 have h1:=h.1 w
 rw[k.1 w]at h1
 cases h1;rfl
theorem Zua{E:Env}(w:World){op:BinOp}{T:TypeId}{x y:Value}:LE (Zva E op T x y) (Zva E op T x y):=by
 unfold Zva
 cases ht:E.tt T with
 | none=>exact LC.false
 | some i=>
  simp only
  cases hd:i.d <;> simp only <;> first
   | exact LC.false
   | exact LC.chk fun _=>Zt9
   | exact LC.chk fun _=>Zr0
   | (refine LC.chk fun _=>?_
      rintro⟨b,hb,h⟩
      exact⟨b,hb,ZjM (fun v ⟨v1,g1,g2⟩=>⟨v1,fun K ⟨b',hb',hK⟩=>g1 K (by rw[EqIs.unique w hb hb'];exact hK),g2⟩) (Zr0 h)⟩)
   | (cases hs:Zi0 op
      ·exact LC.chk fun _=>Zt8
      ·exact LC.chk fun _=>ZqL)
theorem ZsG{E:Env}{s d:TypeId}{v:Value}:LE (Zqt E s d v) (Zqt E s d v):=by
 unfold Zqt
 cases E.tt s with
 | none=>exact LC.false
 | some i=>
  cases E.tt d with
  | none=>exact LC.false
  | some j=>
   simp only
   cases i.d <;> cases j.d <;> simp only <;> first
    | exact LC.false
    | exact LC.chk fun _=>LC.ret rfl
theorem Zub{E:Env}{T:TypeId}{v:Value}:LE (Zvx E T v) (Zvx E T v):=by
 unfold Zvx
 cases E.tt T with
 | none=>exact LC.false
 | some i=>
  simp only
  cases i.d <;> simp only <;> first
   | exact LC.false
   | exact LC.ret rfl
   | exact LC.chk fun _=>LC.ret rfl
theorem ZfH{α β:Type}{ρ:α→β→Prop}{x:Option Value}{d y:Nat}{U1:Nat→(α→Prop)→Prop}{U2:Nat→(β→Prop)→Prop}(h:∀n,LC (U1 n) (U2 n) ρ)(mono:∀n {K K':β→Prop},(∀y,K y→K' y)→U2 n K→U2 n K'):
  LC (fun K=>ZgM x d y fun n=>U1 n K) (fun K=>ZgM x d y fun n=>U2 n K) ρ:=by
 cases x with
 | none=>exact h d
 | some v=>exact LC.chk fun _=>LC.and id (fun _=>h _) (mono _)
theorem Zpw{α β:Type}{ρ:α→β→Prop}{place:Nat→Option (Nat×Nat)}{f:List Value→α}{g:List Value→β}(h:∀v,ρ (f v) (g v)):∀{parts:List (Nat×Value)} {cs:List Value},LC (fun K=>Zmi place cs parts fun r=>K (f r)) (fun K=>Zmi place cs parts fun r=>K (g r)) ρ
 | [],cs=>LC.ret (h cs)
 | (i,v)::rest,cs=>by
  simp only[Zmi]
  cases place i with
  | none=>exact LC.false
  | some os=>exact LC.chk fun _=>Zpw h
theorem ZqM{E:Env}{T:TypeId}{v:Value}{lo hi mx:Option Value}:LE (Zii E T v lo hi mx) (Zii E T v lo hi mx):=by
 unfold Zii
 cases ZhS E T with
 | some sz=>
  simp only
  exact LC.chk fun _=>ZfH (fun m=>ZfH (fun h=>ZfH (fun l=>LC.chk fun _=>LC.ret rfl) (fun l K K' hh=>Zah (hh _))) (fun h K K' hh=>Zbr (fun l=>Zah (hh _)))) (fun m K K' hh=>Zbr (fun h=>Zbr (fun l=>Zah (hh _))))
 | none=>
  simp only
  cases ZeK E T with
  | false=>exact LC.false
  | true=>exact LC.chk fun _=>ZfH (fun h=>ZfH (fun l=>LC.ret rfl) (fun l K K' hh=>hh _)) (fun h K K' hh=>Zbr (fun l=>hh _))
structure Less (S1 S2:St):Prop where
 env:∀t sv,S1.env t=some sv→S2.env t=some sv
 L:∀id x,S1.L id=some x→S2.L id=some x
theorem Less.ev{S1 S2:St}(h:Less S1 S2){x:Operand}{sv:SV}(hx:S1.ev x=some sv):S2.ev x=some sv:=by
 cases x with
 | tmp t=>exact h.env t sv hx
 | _=>exact hx
theorem Less.den{S1 S2:St}(h:Less S1 S2){sv:SV}{v:Value}(hx:S1.den sv=some v):S2.den sv=some v:=by
 cases sv with
 | v u=>exact hx
 | loc id off=>
  simp only[St.den]at *
  cases hb:S1.L id with
  | none=>simp[hb]at hx
  | some b=>simp only[hb]at hx;simp only[h.L id b hb];exact hx
 | sl id n c=>
  simp only[St.den]at *
  cases hb:S1.L id with
  | none=>simp[hb]at hx
  | some b=>simp only[hb]at hx;simp only[h.L id b hb];exact hx
theorem Less.val{S1 S2:St}(h:Less S1 S2){x:Operand}{v:Value}(hx:S1.val x=some v):S2.val x=some v:=by
 unfold St.val at *
 cases he:S1.ev x with
 | none=>simp[he]at hx
 | some sv=>simp only[he]at hx;rw[h.ev he];exact h.den hx
section ops
variable {α β:Type} {ρ:α→β→Prop} {S1 S2:St}
theorem Zcx(hs:Less S1 S2){x:Operand}{U1:Value→(α→Prop)→Prop}{U2:Value→(β→Prop)→Prop}(h:∀v,LC (U1 v) (U2 v) ρ):
  LC (fun K=>wv S1 x fun v=>U1 v K) (fun K=>wv S2 x fun v=>U2 v K) ρ:=by
 unfold wv
 cases hv:S1.val x with
 | none=>exact LC.false
 | some v=>simp only[hs.val hv];exact h v
theorem Znb(hs:Less S1 S2):∀{l:List Operand} {U1:List Value→(α→Prop)→Prop} {U2:List Value→(β→Prop)→Prop} (h:∀v,LC (U1 v) (U2 v) ρ),LC (fun K=>wvs S1 l fun v=>U1 v K) (fun K=>wvs S2 l fun v=>U2 v K) ρ
 | [],U1,U2,h=>h []
 | x::l,U1,U2,h=>Zcx hs (U1:=fun v K=>wvs S1 l fun vs=>U1 (v::vs) K) (U2:=fun v K=>wvs S2 l fun vs=>U2 (v::vs) K) fun v=>Znb hs (fun vs=>h (v::vs))
theorem Zpx(hs:Less S1 S2){x:Option Operand}{U1:Option Value→(α→Prop)→Prop}{U2:Option Value→(β→Prop)→Prop}(h:∀v,LC (U1 v) (U2 v) ρ):
  LC (fun K=>Zvg S1 x fun v=>U1 v K) (fun K=>Zvg S2 x fun v=>U2 v K) ρ:=by
 cases x with
 | none=>exact h none
 | some x=>exact Zcx hs (U1:=fun v K=>U1 (some v) K) (U2:=fun v K=>U2 (some v) K) fun v=>h (some v)
end ops
theorem ZsH{E:Env}{S1 S2:St}(w:World)(hs:Less S1 S2){o:Oper}:LE (Zcv E S1 o) (Zcv E S2 o):=by
 have hr:∀{a:SV},LE (fun K:SV→Prop=>K a) (fun K=>K a):=LC.ret rfl
 have gB:∀{c:Bool} {a:SV},LE (fun K:SV→Prop=>Eng.chk c (K a)) (fun K=>Eng.chk c (K a)):=LC.chk fun _=>LC.ret rfl
 obtain⟨dst,op,type,pos,after,guard⟩:=o
 cases op <;> unfold Zcv <;> simp only <;> try exact LC.false
 case unOp op T x=>
  refine Zcx hs fun v=>?_
  cases op <;> simp only <;> first
   | exact LC.false
   | exact gB
   | (cases ZbD E T <;> simp only <;> first
     | exact LC.false
     | exact gB)
 case binOp op T x y yT=>
  exact Zcx hs fun v=>Zcx hs fun v'=>(Zua w).map _ _ (fun a b e=>by rw[e]) (fun h=>ZmZ h)
 case convert s d x=>exact Zcx hs fun v=>ZsG.map _ _ (fun a b e=>by rw[e]) (fun h hx=>by
  unfold Zqt at *
  (repeat' split at hx) <;> first|exact hx.elim|exact Zah (h _) hx)
 case makeFunc=>exact Znb hs fun v=>Znb hs fun v'=>hr
 case fieldAddr T x f=>
  cases ZhQ E T f with
  | none=>exact LC.false
  | some fo=>
   simp only
   cases he:S1.ev x with
   | none=>exact LC.false
   | some sv=>
    simp only[hs.ev he]
    cases sv <;> first
     | exact LC.false
     | exact hr
     | exact gB
 case indexAddr T x i=>
  refine Zcx hs fun vi=>LC.chk fun _=>?_
  cases Zvw E T with
  | none=>exact LC.false
  | some ix=>
   cases he:S1.ev x with
   | none=>
    cases ix <;> simp only
    ·exact fun h=>h.2.elim
    ·exact LC.false
   | some sv=>
    simp only[hs.ev he]
    cases ix <;> simp only
    ·cases sv <;> simp only
     ·exact LC.and id (fun _=>gB) (fun h=>Zah (h _))
     ·exact LC.and id (fun _=>hr) (fun h=>h _)
     ·exact fun h=>h.2.elim
    ·cases sv <;> simp only
     ·refine LC.chk fun _=>?_
      rintro⟨b,o,h1,h2,h3⟩
      refine⟨b,o,h1,h2,_,fun K ⟨b',o',g1,g2,g3⟩=>?_,rfl⟩
      rw[h1]at g1
      cases g1
      exact g3
     ·exact LC.false
     ·exact LC.and id (fun _=>hr) (fun h=>h _)
 case index T x i=>
  refine Zcx hs fun v=>Zcx hs fun vi=>LC.chk fun _=>?_
  cases ZeK E T <;> simp only[cond_true,cond_false]
  ·cases Zoq E T with
   | none=>exact LC.false
   | some len=>exact LC.chk fun _=>LC.and id (fun _=>Zpv (fun _=>rfl)) (fun h=>ZgZ (fun u=>h _))
  ·exact LC.chk fun _=>LC.and id (fun _=>hr) (fun h=>h _)
 case build T parts=>
  cases ZhR E T with
  | none=>exact LC.false
  | some place=>exact Znb hs fun vs=>Zpw (fun _=>rfl)
 case extract x n=>exact Zcx hs fun v=>LC.chk fun _=>Zpv (fun _=>rfl)
 case makeInterface T x=>exact Zcx hs fun v=>gB
 case nilCheck x=>
  cases he:S1.ev x with
  | none=>exact LC.false
  | some sv=>
   simp only[hs.ev he]
   cases sv <;> first
    | exact LC.false
    | exact hr
    | exact gB
 case slice T x lo hi mx=>exact Zcx hs fun v=>Zpx hs fun l=>Zpx hs fun h=>Zpx hs fun m=>ZqM.map _ _ (fun a b e=>by rw[e]) (fun h=>Zi4 h)
 case call c=>
  split
  ·split
   ·exact Zcx hs fun v=>Zub.map _ _ (fun a b e=>by rw[e]) (fun h y=>by
     unfold Zvx at *
     (repeat' split at y) <;> first|exact y.elim|exact Zah (h _) y|exact h _ y)
   ·exact LC.false
  ·split
   ·rename_i T _ _ _
    refine Zcx hs fun v=>Zcx hs fun v'=>?_
    split
    ·exact gB
    ·exact LC.false
   ·exact LC.false
  ·split
   ·refine Zcx hs fun v=>Zcx hs fun v'=>?_
    split
    ·exact gB
    ·exact LC.false
   ·refine Zcx hs fun v=>Zcx hs fun v'=>Zcx hs fun v''=>?_
    split
    ·exact gB
    ·exact LC.false
   ·exact LC.false
  ·exact LC.false
end Go.Eng
namespace Go.Eng
open Go Go.RowKit
def Mem.or(a b:Mem):Mem:=fun i o=>match a i o with
 | some v=>some v
 | none=>b i o
theorem Mem.le_or(a b:Mem):a.le (a.or b):=fun i o v h=>by simp[Mem.or,h]
theorem Mem.or_some{a b:Mem}{i o:Nat}{v:Value}(h:a.or b i o=some v):a i o=some v∨(a i o=none∧b i o=some v):=by
 unfold Mem.or at h
 cases ha:a i o with
 | some u=>simp[ha]at h;exact .inl (by rw[h])
 | none=>simp[ha]at h;exact .inr ⟨rfl,h⟩
theorem CX.frame2{P:Program}{g:FuncId}{args:Array Value}{m M:Mem}{X:List Box}{R:Value→Mem→List (List Value)→Prop}(h:CX P g args m X R)(hm:m.le M):
  CX P g args M X (fun v M' css=>∃m',m.le m'∧m'.le M'∧(∀b o u,M b o=some u→∀o',m' b o'=m b o')∧R v m' css):=by
 refine⟨h.1,fun w hs hX dQ=>?_⟩
 have bS:∀{b o},M b o=none→m b o=none:=fun {b o} hb=>by
  cases he:m b o with
  | none=>rfl
  | some v=>rw[hm _ _ _ he]at hb;cases hb
 have hX':∀x∈X,Own m w x∧x.fz=false:=fun x hx=>by
  obtain⟨ho,hz⟩:=hX x hx
  exact⟨⟨ho.cells,fun _ o=>bS (ho.free hz o),fun hz'=>by simp[hz]at hz',ho.whole⟩,hz⟩
 refine(h.2 w (fun b o v hv=>hs b o v (hm _ _ _ hv)) hX' dQ).mono ?_
 rintro e w' ⟨v,m',css,rfl,a2,a3,a4,a5,a6,a7,a8⟩
 have cI:m'.le (M.or m'):=fun b o u hu=>by
  cases hM:M b o with
  | none=>simp[Mem.or,hM,hu]
  | some u'=>
   rcases a4 b o u hu with h1|h1
   ·rw[hm _ _ _ h1]at hM;cases hM;simp[Mem.or,hm _ _ _ h1]
   ·have:=hs.lt hM;omega
 have cT:∀b o u,M b o=some u→∀o',m' b o'=m b o':=fun b o u hu o'=>by
  cases hm':m' b o' with
  | none=>
   cases eI:m b o' with
   | none=>rfl
   | some x=>have:=a2 _ _ _ eI;rw[hm']at this;cases this
  | some x=>
   rcases a4 b o' x hm' with h1|h1
   ·exact h1.symm
   ·have:=hs.lt hu;omega
 refine⟨v,M.or m',css,rfl,Mem.le_or _ _,?_,?_,a5,a6,?_,m',a2,cI,cT,a8⟩
 ·intro b o u hu
  rcases Mem.or_some hu with h1|⟨h1,h2⟩
  ·have bA:=hs.lt h1
   rw[Zbi (a5.block b bA ?_)]
   ·exact hs b o u h1
   ·intro bZ
    obtain⟨x,hx,rfl⟩:=List.mem_map.1 bZ
    obtain⟨ho,hz⟩:=hX x hx
    have:=ho.free hz o
    rw[h1]at this;cases this
  ·exact a3 b o u h2
 ·intro b o u hu
  rcases Mem.or_some hu with h1|⟨h1,h2⟩
  ·exact .inl h1
  ·rcases a4 b o u h2 with h3|h3
   ·rw[hm _ _ _ h3]at h1;cases h1
   ·exact .inr h3
 ·intro i x cs hi cR
  have ho:=a7 i x cs hi cR
  obtain⟨kf,hz⟩:=hX x (List.mem_of_getElem? hi)
  refine⟨ho.cells,fun _ o=>?_,fun hz'=>by simp[hz]at hz',ho.whole⟩
  simp only[Mem.or,kf.free hz o]
  exact ho.free hz o
theorem CX.frame{P:Program}{g:FuncId}{args:Array Value}{m M:Mem}{X:List Box}{R:Value→Mem→List (List Value)→Prop}(h:CX P g args m X R)(hm:m.le M):
  CX P g args M X (fun v M' css=>∃m',m.le m'∧m'.le M'∧R v m' css):=(h.frame2 hm).mono fun _ _ _ _ ⟨m',a1,a2,_,a4⟩=>⟨m',a1,a2,a4⟩
theorem ZeO{m:Mem}{b o:Nat}{xs ys:List Value}(h:m.reads b o xs)(k:m.reads b o ys)(hl:xs.length=ys.length):xs=ys:=by
 refine List.ext_getElem hl fun i h1 h2=>?_
 have a:=h i _ (List.getElem?_eq_getElem h1)
 have b:=k i _ (List.getElem?_eq_getElem h2)
 rw[a]at b;exact Option.some.inj b
theorem ZeP{m:Mem}{a:Option Addr}{xs ys:List Value}(h:rowRd m a xs)(k:rowRd m a ys)(hl:xs.length=ys.length):xs=ys:=by
 rcases h with h|⟨b,o,h1,h2⟩
 ·subst h;simp at hl;exact(List.eq_nil_of_length_eq_zero hl.symm).symm
 ·rcases k with k|⟨b',o',k1,k2⟩
  ·subst k;simpa using hl
  ·rw[h1]at k1;cases k1
   exact ZeO h2 k2 hl
theorem ZoA{i:TI}{m M:Mem}(hm:m.le M){b o:Nat}:LE (ZcA i m b o) (ZcA i M b o):=by
 intro h
 unfold ZcA at *
 cases ha:i.agg with
 | false=>
  simp only[ha,cond_false]at *
  obtain⟨v,hv,_⟩:=h
  exact⟨v,hm _ _ _ hv,v,fun K ⟨v',hv',hK⟩=>by rw[hv]at hv';cases hv';exact hK,rfl⟩
 | true=>
  simp only[ha,cond_true]at *
  cases hb:Nat.ble i.size 16 with
  | true=>
   simp only[hb,cond_true]at *
   obtain⟨vs,hl,hr,_⟩:=ZhU h
   refine ZjF vs hl ⟨hr.mono hm,_,fun K hK=>?_,rfl⟩
   obtain⟨vs',hl',hr',hK⟩:=ZhU hK
   rw[ZeO hr hr' (by omega)];exact hK
  | false=>
   simp only[hb,cond_false]at *
   obtain⟨vs,hl,hr,_⟩:=h
   refine⟨vs,hl,hr.mono hm,_,fun K ⟨vs',hl',hr',hK⟩=>?_,rfl⟩
   rw[ZeO hr hr' (by omega)];exact hK
theorem Zk2{i:TI}{x:Box}{off:Nat}:LE (Zcd i x off) (Zcd i x off):=by
 unfold Zcd
 cases i.agg <;> simp only[cond_true,cond_false]
 ·exact Zpv (fun _=>rfl)
 ·cases(x.full&&(Nat.beq x.cap i.size&&Nat.beq off 0)) <;> simp only[cond_true,cond_false]
  ·exact LC.chk fun _=>LC.ret rfl
  ·exact LC.ret rfl
theorem ZsI{E:Env}{S1 S2:St}(hs:Less S1 S2){m M:Mem}(hm:m.le M){T:TypeId}{x:Operand}:LE (ZfA E S1 m T x) (ZfA E S2 M T x):=by
 unfold ZfA
 cases E.tt T with
 | none=>exact LC.false
 | some i=>
  simp only
  cases he:S1.ev x with
  | none=>exact LC.false
  | some sv=>
   simp only[hs.ev he]
   cases sv with
   | v u=>
    simp only
    cases ZeL E x with
    | none=>exact LC.chk fun _=>ZoA hm
    | some id=>
     simp only
     cases hx:S1.L id with
     | none=>exact LC.false
     | some bx=>
      simp only[hs.L id bx hx]
      exact LC.chk fun _=>LC.and (fun h=>h) (fun _=>Zk2) (fun h=>Zdd h)
   | loc id off=>
    simp only
    cases hx:S1.L id with
    | none=>exact LC.false
    | some bx=>simp only[hs.L id bx hx];exact Zk2
   | sl id n c=>exact LC.false
structure OutB (rs:List Nat)(tk:Option Nat)(g:Bool)(m M:Mem)(S1 S2:St)(y1 y2:St×Mem):Prop where
 env1:y1.1.env=S1.env
 env2:y2.1.env=S2.env
 L:∀id,(id∈rs∧y1.1.L id=y2.1.L id)∨(y1.1.L id=S1.L id∧y2.1.L id=S2.L id)
 tok:∀k,(tk=some k∧y1.1.tok k=y2.1.tok k)∨(y1.1.tok k=S1.tok k∧y2.1.tok k=S2.tok k)
 le:y1.2.le y2.2
 same:g=false→y1.2=m∧y2.2=M
 gh2:y2.1.gh=S2.gh
structure Out (rs:List Nat)(tk:Option Nat)(g:Bool)(m M:Mem)(dst:Option Tmp)(S1 S2:St)(y1 y2:St×Mem):Prop where
 env1:∀t sv,dst=some t→y1.1.env t=some sv→y2.1.env t=some sv
 env2:∀t,dst≠some t→y2.1.env t=S2.env t
 L:∀id,(id∈rs∧y1.1.L id=y2.1.L id)∨(y1.1.L id=S1.L id∧y2.1.L id=S2.L id)
 tok:∀k,(tk=some k∧y1.1.tok k=y2.1.tok k)∨(y1.1.tok k=S1.tok k∧y2.1.tok k=S2.tok k)
 le:y1.2.le y2.2
 same:g=false→y1.2=m∧y2.2=M
 gh2:y2.1.gh=S2.gh
section
variable {rs:List Nat} {tk:Option Nat} {g:Bool} {m M:Mem} {S1 S2:St}
theorem ZwI(S:St)(d:Option Tmp)(x:Option SV):(S.put d x).L=S.L:=by cases d <;> rfl
theorem Zuc(S:St)(d:Option Tmp)(x:Option SV):(S.put d x).tok=S.tok:=by cases d <;> rfl
theorem OutB.put{y1 y2:St×Mem}(h:OutB rs tk g m M S1 S2 y1 y2)(dst:Option Tmp){x1 x2:Option SV}(hx:∀sv,x1=some sv→x2=some sv):Out rs tk g m M dst S1 S2 (y1.1.put dst x1,y1.2) (y2.1.put dst x2,y2.2):=by
 refine⟨?_,?_,by simpa[ZwI]using h.L,by simpa[Zuc]using h.tok,h.le,h.same,by have:=h.gh2;cases dst <;> exact this⟩
 ·intro t sv ht ri
  subst ht
  simp[St.put]at *
  exact hx _ ri
 ·intro t ht
  cases dst with
  | none=>simp[St.put,h.env2]
  | some d=>simp[St.put,Zaq (fun e=>ht (by rw[e]):t≠d),h.env2]
theorem OutB.refl(hm:m.le M):OutB rs tk g m M S1 S2 (S1,m) (S2,M):=⟨rfl,rfl,fun _=>.inr ⟨rfl,rfl⟩,fun _=>.inr ⟨rfl,rfl⟩,hm,fun _=>⟨rfl,rfl⟩,rfl⟩
theorem Out.put0(hm:m.le M)(dst:Option Tmp){x1 x2:Option SV}(hx:∀sv,x1=some sv→x2=some sv):Out rs tk g m M dst S1 S2 (S1.put dst x1,m) (S2.put dst x2,M):=
 (OutB.refl (rs:=rs) (tk:=tk) (g:=g) (S1:=S1) (S2:=S2) hm).put dst hx
theorem OutB.setL(hm:m.le M){id:Nat}(cL:id∈rs)(x:Option Box):OutB rs tk g m M S1 S2 (S1.setL id x,m) (S2.setL id x,M):=by
 refine⟨rfl,rfl,fun i=>?_,fun _=>.inr ⟨rfl,rfl⟩,hm,fun _=>⟨rfl,rfl⟩,rfl⟩
 by_cases hi:i=id
 ·subst hi;exact .inl ⟨cL,by simp[St.setL]⟩
 ·exact .inr (by simp[St.setL,Zaq hi])
theorem OutB.newL{m' M':Mem}(hm:m'.le M')(hg:g=false→m'=m∧M'=M){id:Nat}(cL:id∈rs)(x:Box):OutB rs tk g m M S1 S2 (S1.newL id x,m') (S2.newL id x,M'):=by
 refine⟨rfl,rfl,fun i=>?_,fun _=>.inr ⟨rfl,rfl⟩,hm,hg,rfl⟩
 by_cases hi:i=id
 ·subst hi;exact .inl ⟨cL,by simp[St.newL]⟩
 ·exact .inr (by simp[St.newL,Zaq hi])
end
mutual
theorem Shape.all_intro:∀(s:Shape){k:Value→Prop},(∀v,k v)→s.all k
 | .any,k,h=>by simpa only[Shape.all]using h
 | .int ki,k,h=>by simp only[Shape.all];exact fun n=>h _
 | .bool,k,h=>by simp only[Shape.all];exact fun n=>h _
 | .str,k,h=>by simp only[Shape.all];exact fun n=>h _
 | .slice,k,h=>by simp only[Shape.all];exact fun _ _ _=>h _
 | .agg l,k,h=>by simp only[Shape.all];exact Shape.allL_intro l (fun vs=>h _)
 | .tup l,k,h=>by simp only[Shape.all];exact Shape.allL_intro l (fun vs=>h _)
 | .fn,k,h=>by simp only[Shape.all];exact fun _ _ _=>h _
 | .cells,k,h=>by simp only[Shape.all];exact fun _=>h _
 | .ptr,k,h=>by simp only[Shape.all];exact fun _ _=>h _
theorem Shape.allL_intro:∀(l:List Shape){k:List Value→Prop},(∀v,k v)→Shape.allL l k
 | [],k,h=>by simp only[Shape.allL];exact h _
 | s::l,k,h=>by simp only[Shape.allL];exact Shape.all_intro s (fun v=>Shape.allL_intro l (fun vs=>h _))
end
theorem allL_intro:∀{n:Nat} {k:List (List Value)→Prop},(∀l,l.length=n→k l)→allL n k
 | 0,k,h=>h [] rfl
 | n+1,k,h=>fun cs=>allL_intro (fun l hl=>h (cs::l) (by simp[hl]))
def Env.fixed(E:Env)(f:List Value→Mem→Value→Mem→List (List Value)→Prop):Env:={ E with fix:=some f }
section
variable {rs:List Nat} {tk:Option Nat} {g:Bool} {S1 S2:St} {m M:Mem}
theorem ZqN{E:Env}{f:List Value→Mem→Value→Mem→List (List Value)→Prop}(hs:Less S1 S2)(iy:∀id x,S1.L id=some x→id∈rs)(hm:m.le M){T:TypeId}{x:Operand}{v:Value}:
  LC (fun K:St×Mem→Prop=>ZgB (E.fixed f) S1 T x v fun S'=>K (S',m)) (fun K:St×Mem→Prop=>ZgB E S2 T x v fun S'=>K (S',M)) (OutB rs tk g m M S1 S2):=by
 unfold ZgB
 show LC (fun K=>match E.tt T with
  | none=>False
  | some i=>_) _ _
 cases E.tt T with
 | none=>exact LC.false
 | some i=>
  simp only
  cases he:S1.ev x with
  | none=>exact LC.false
  | some sv=>
   simp only[hs.ev he]
   cases sv with
   | loc id off=>
    simp only
    cases hx:S1.L id with
    | none=>exact LC.false
    | some bx=>
     simp only[hs.L id bx hx]
     refine LC.chk fun _=>?_
     cases(bx.full&&(Nat.beq bx.cap i.size&&Nat.beq off 0)) <;> simp only[cond_true,cond_false]
     ·exact LC.chk fun _=>LC.ret (OutB.setL hm (iy id bx hx) _)
     ·exact LC.ret (OutB.setL hm (iy id bx hx) _)
   | v u=>
    simp only
    show LC (fun K=>match ZeL E x with
     | none=>False
     | some id=>_) _ _
    cases ZeL E x with
    | none=>exact LC.false
    | some id=>
     simp only
     cases hx:S1.L id with
     | none=>exact LC.false
     | some bx=>
      simp only[hs.L id bx hx]
      refine LC.chk fun _=>?_
      rintro⟨h1,h2,_⟩
      exact⟨h1,h2,_,fun K hK=>hK.2.2,OutB.setL hm (iy id bx hx) _⟩
   | sl id n c=>exact LC.false
theorem ZsJ{E:Env}{f:List Value→Mem→Value→Mem→List (List Value)→Prop}(hs:Less S1 S2)(iy:∀id x,S1.L id=some x→id∈rs)(hm:m.le M){T:TypeId}{id:Nat}{vd vs:Value}:
  LC (fun K:Int×(St×Mem)→Prop=>Zoh (E.fixed f) S1 m T id vd vs fun n S'=>K (n,(S',m))) (fun K:Int×(St×Mem)→Prop=>Zoh E S2 M T id vd vs fun n S'=>K (n,(S',M))) (fun y1 y2=>y1.1=y2.1∧OutB rs tk g m M S1 S2 y1.2 y2.2∧y1.2.2=m∧y2.2.2=M):=by
 unfold Zoh
 show LC (fun K=>match ZaB E T with
  | none=>False
  | some (e,j)=>_) _ _
 cases ZaB E T with
 | none=>exact LC.false
 | some ej=>
  obtain⟨e,j⟩:=ej
  simp only
  cases hx:S1.L id with
  | none=>exact LC.false
  | some bx=>
   simp only[hs.L id bx hx]
   refine LC.chk fun _=>?_
   intro h rj
   have hf:m.free bx.b:=fun o=>by
    cases he:m bx.b o with
    | none=>rfl
    | some u=>have:=hm _ _ _ he;rw[rj o]at this;cases this
   obtain⟨o,xs,h1,h2,h3,h4,h5,_⟩:=h hf
   refine⟨o,xs,h1,h2,h3,h4,h5.imp_left (fun h=>h.mono hm),(_,(S1.setL id (some { bx with cs:=Zaj bx.cs o xs }),m)),fun K hK=>?_,rfl,OutB.setL hm (iy id bx hx) _,rfl,rfl⟩
   obtain⟨o',xs',g1,g2,g3,g4,g5,g6⟩:=hK hf
   rw[h1]at g1
   obtain rfl:o=o':=by simpa using g1
   have hl:xs.length=xs'.length:=by rw[h2,g2]
   have dN:∀{as:Option Addr} {ys:List Value} {p:Nat},rowRd m as ys→as=some ⟨bx.b,p,none⟩→ys=[]:=fun {as ys p} hy ha=>by
    rcases hy with hy|⟨b1,o1,kF,hy⟩
    ·exact hy
    ·rw[ha]at kF
     simp only[Option.some.injEq,Addr.mk.injEq,and_true]at kF
     obtain⟨rfl,rfl⟩:=kF
     cases nV:ys with
     | nil=>rfl
     | cons u l=>subst nV;have:=hy 0 u rfl;rw[hf]at this;cases this
   have lW:xs=xs':=by
    rcases h5 with h5|⟨p,hp,h5⟩
    ·rcases g5 with g5|⟨p',hp',g5⟩
     ·exact ZeP h5 g5 hl
     ·have:=dN h5 hp';subst this
      exact(List.eq_nil_of_length_eq_zero hl.symm).symm
    ·rcases g5 with g5|⟨p',hp',g5⟩
     ·have:=dN g5 hp;subst this
      exact List.eq_nil_of_length_eq_zero hl
     ·rw[hp]at hp'
      obtain rfl:p=p':=by simpa using hp'
      apply List.ext_getElem?
      intro i
      by_cases hi:i < xs.length
      ·have e1:=h5 i _ (List.getElem?_eq_getElem hi)
       have e2:=g5 i _ (List.getElem?_eq_getElem (by omega))
       rw[e1]at e2
       rw[List.getElem?_eq_getElem hi,List.getElem?_eq_getElem (by omega)]
       exact e2
      ·rw[List.getElem?_eq_none (by omega),List.getElem?_eq_none (by omega)]
   subst lW
   exact g6
theorem Zg5(hs:Less S1 S2):∀{ids:List Nat} {bxs:List Box},Zbb S1 ids=some bxs→Zbb S2 ids=some bxs
 | [],bxs,h=>h
 | id::l,bxs,h=>by
  simp only[Zbb]at *
  cases hx:S1.L id with
  | none=>simp[hx]at h
  | some x=>
   simp only[hx]at h
   simp only[hs.L id x hx]
   cases hb:Zbb S1 l with
   | none=>simp[hb]at h
   | some xs=>simp only[hb]at h;simp only[Zg5 hs hb];exact h
theorem ZsK{E:Env}(hE:E.fix=none){f:List Value→Mem→Value→Mem→List (List Value)→Prop}(hs:Less S1 S2)(iy:∀id x,S1.L id=some x→id∈rs)(hm:m.le M){rt:TypeId}{gg:FuncId}{args:List Value}{ids:List Nat}{γ:Value→St→Option SV}:
  LC (fun K:Value×(St×Mem)→Prop=>Zmj (E.fixed f) S1 m rt gg args ids fun v S' m'=>K (v,(S',m'))) (fun K:Value×(St×Mem)→Prop=>Zmj E S2 M rt gg args ids fun v S' m'=>K (v,(S',m'))) (fun y1 y2=>y1.1=y2.1∧OutB rs tk true m M S1 S2 y1.2 y2.2):=by
 intro h
 unfold Zmj at *
 cases hb:Zbb S1 ids with
 | none=>simp[hb]at h
 | some bxs=>
  simp only[hb]at h
  simp only[Zg5 hs hb]
  obtain⟨h1,R,h0,eM,eD,_⟩:=Zae h
  have h0':R=f args m:=h0
  obtain⟨bQ,bZ⟩:=ZbU hb
  simp only[Bool.and_eq_true]at h1
  have dQ:=ZaE h1.2
  refine Zaa (by simp[h1.1,h1.2]) ⟨fun v M' css=>∃m',m.le m'∧m'.le M'∧R v m' css,by rw[hE];trivial,eM.frame hm,fun v m' css ⟨_,_,_,hR⟩=>eD _ _ _ hR,?_⟩
  refine Shape.all_intro _ fun v M' hM'=>allL_intro fun css fC ⟨m',g1,g2,hR⟩=>⟨(v,(Zcw S1 ids bxs css,m')),fun K hK=>?_,rfl,?_⟩
  ·obtain⟨_,R',h0'',_,_,bM⟩:=Zae hK
   have h0''':R'=f args m:=h0''
   have rk:R'=R:=by rw[h0''',h0']
   subst rk
   exact ZgO (Shape.all_fits _ _ bM v (eD _ _ _ hR) m' g1) css fC hR
  ·refine⟨by rw[ZcB],by rw[ZcB],fun id=>?_,fun k=>.inr ⟨by rw[ZcB],by rw[ZcB]⟩,g2,fun h=>(by cases h),by rw[ZcB]⟩
   rcases Zea (S:=S1) dQ bQ fC id with⟨a1,a2⟩|⟨i,x,cs,a1,a2,a3,a4⟩
   ·rcases Zea (S:=S2) dQ bQ fC id with⟨b1,b2⟩|⟨i',x',cs',b1,b2,b3,b4⟩
    ·exact .inr ⟨a2,b2⟩
    ·exact absurd (List.mem_of_getElem? b1) a1
   ·rcases Zea (S:=S2) dQ bQ fC id with⟨b1,b2⟩|⟨i',x',cs',b1,b2,b3,b4⟩
    ·exact absurd (List.mem_of_getElem? a1) b1
    ·obtain⟨id',c1,c2⟩:=bZ i x a2
     rw[a1]at c1;cases c1
     have hi:=(List.getElem?_eq_some_iff.1 a1).1
     have:i=i':=(List.getElem?_inj hi dQ).1 (by rw[a1,b1])
     subst this
     rw[a2]at b2;rw[a3]at b3;cases b2;cases b3
     exact .inl ⟨iy _ _ c2,by rw[a4,b4]⟩
theorem ZoB{E:Env}{f:List Value→Mem→Value→Mem→List (List Value)→Prop}(hm:m.le M){T xT:TypeId}{key:Nat}{vs vx:Value}(fS:tk=some key)(bY:∀k,tk=some k→S1.tok k=S2.tok k):
  LC (fun K:Value×(St×Mem)→Prop=>Ze2 (E.fixed f) S1 m T xT key vs vx fun v t m'=>K (v,({ S1 with tok:=t,tkeys:=key::S1.tkeys },m'))) (fun K:Value×(St×Mem)→Prop=>Ze2 E S2 M T xT key vs vx fun v t m'=>K (v,({ S2 with tok:=t,tkeys:=key::S2.tkeys },m'))) (fun y1 y2=>y1.1=y2.1∧OutB rs tk true m M S1 S2 y1.2 y2.2):=by
 unfold Ze2
 show LC (fun K=>match ZaB E T with
  | none=>False
  | some (_,j)=>match ZaB E xT with
   | none=>False
   | some (_,j')=>_) _ _
 cases ZaB E T with
 | none=>exact LC.false
 | some ej=>
  cases ZaB E xT with
  | none=>exact LC.false
  | some ej'=>
   simp only
   refine LC.chk fun _=>?_
   have jY:LC (fun K:Value×(St×Mem)→Prop=>Zvb (E.fixed f) S1 m ej.2 key vs vx fun v t m'=>K (v,({ S1 with tok:=t,tkeys:=key::S1.tkeys },m'))) (fun K:Value×(St×Mem)→Prop=>Zvb E S2 M ej.2 key vs vx fun v t m'=>K (v,({ S2 with tok:=t,tkeys:=key::S2.tkeys },m'))) (fun y1 y2=>y1.1=y2.1∧OutB rs tk true m M S1 S2 y1.2 y2.2):=?body
   case body=>
    unfold Zvb
    rintro⟨ht,xs,ys,a1,a2,a3,a4,a5,a6,a7,_⟩
    rw[bY key fS]at ht
    refine⟨ht,xs,ys,a1,a2,a3.mono hm,a4.mono hm,a5,a6,a7,fun a' c' M' hM' hr=>?_⟩
    refine Zqw fun lX dV=>⟨(.slice a' (slN vs+slN vx) c',({ S1 with tok:=(fun k=>bif Nat.beq k key then some ⟨.slice a' (slN vs+slN vx) c',ej.2.size⟩ else S1.tok k),tkeys:=key::S1.tkeys },M')),fun K hK=>?_,rfl,⟨rfl,rfl,fun _=>.inr ⟨rfl,rfl⟩,fun k=>?_,Mem.le_refl _,fun h=>(by cases h),rfl⟩⟩
    ·obtain⟨_,xs',ys',b1,b2,b3,b4,_,_,_,b8⟩:=hK
     rw[ZeP a3 b3 (by omega),ZeP a4 b4 (by omega)]at hr
     exact ZlH (b8 a' c' M' (Mem.le_trans hm hM') hr) (fun ht=>(lX ht).mono hm) dV
    ·by_cases hk:k=key
     ·subst hk;exact .inl ⟨fS,by simp⟩
     ·exact .inr (by simp[Zaq hk])
   show LC (fun K=>bif E.tails then br (Nat.beq (slN vx) 0) (chk (Nat.ble (slN vs) (slC vs)) _) _ else _) (fun K=>bif E.tails then br (Nat.beq (slN vx) 0) (chk (Nat.ble (slN vs) (slC vs)) _) _ else _) _
   cases E.tails with
   | false=>exact jY
   | true=>
    refine LC.br (LC.chk fun _=>LC.ret ⟨rfl,⟨rfl,rfl,fun _=>.inr ⟨rfl,rfl⟩,fun k=>?_,hm,fun h=>(by cases h),rfl⟩⟩) jY
    by_cases hk:k=key
    ·subst hk;exact .inl ⟨fS,bY k fS⟩
    ·exact .inr ⟨rfl,rfl⟩
end
end Go.Eng
namespace Go.Eng
open Go Go.RowKit
theorem Mem.add_le{m M:Mem}(h:m.le M)(b:Nat)(cs:List Value):(m.add b cs).le (M.add b cs):=fun b' o v hv=>by
 by_cases hb:b'=b
 ·subst hb;rw[Mem.add_same]at hv ⊢;exact hv
 ·rw[Mem.add_other _ hb]at hv ⊢;exact h _ _ _ hv
theorem Zjb{S1 S2:St}(hs:Less S1 S2):∀{l:List Operand} {k:List Value→Prop},wvs S1 l k→ZcC S1 l=ZcC S2 l
 | [],k,h=>rfl
 | x::l,k,h=>by
  obtain⟨v,hv,h⟩:=ZaC h
  have ih:=Zjb hs h
  unfold St.val at hv
  cases he:S1.ev x with
  | none=>simp[he]at hv
  | some sv=>
   simp only[ZcC,he,hs.ev he,ih]
   cases sv with
   | loc id off=>
    simp only[he,St.den]at hv
    cases hx:S1.L id with
    | none=>simp[hx]at hv
    | some x=>simp only[hx,hs.L id x hx]
   | _=>rfl
def ZsL(E:Env)(rs:List Nat)(tk:Option Nat)(o:Oper):Bool:=match o.op with
 | .alloc _=>(match o.dst with
  | some d=>rs.any (Nat.beq d ·)
  | none=>false)
 | .box _ _=>(match o.dst with
  | some d=>rs.any (Nat.beq d ·)
  | none=>false)
 | .buildSlice _ _ _=>(match o.dst with
  | some d=>rs.any (Nat.beq d ·)
  | none=>false)
 | .makeSlice _ _ _=>(match o.dst with
  | some d=>rs.any (Nat.beq d ·)
  | none=>false)
 | .call c=>(match c.callee with
  | .builtin .append=>(match o.dst,tk with
   | some d,some k=>Nat.beq (E.tokOf d) k
   | _,_=>false)
  | _=>(Zeb E o.dst).isNone)
 | .store _ x _=>(match ZmS E x with
  | none=>true
  | some _=>false)
 | _=>true
theorem Zk3{E:Env}{rs:List Nat}{tk:Option Nat}{o:Oper}(h:ZsL E rs tk o=true):Zm2 E o:=by
 refine⟨fun T x y e=>?_,fun f as ats e=>?_⟩
 ·unfold ZsL at h
  rw[e]at h
  cases hs:ZmS E x with
  | none=>rfl
  | some k=>simp[hs]at h
 ·unfold ZsL at h
  rw[e]at h
  simpa using h
def Znc(rs:List Nat)(o:Oper):List Nat:=match o.op with
 | .alloc _=>dl o.dst
 | .box _ _=>dl o.dst
 | .buildSlice _ _ _=>dl o.dst
 | .makeSlice _ _ _=>dl o.dst
 | .store _ _ _=>rs
 | .call c=>(match c.callee with
  | .value _=>rs
  | .builtin .copy=>rs
  | _=>[])
 | _=>[]
def ZdB(o:Oper):Bool:=match o.op with
 | .buildSlice _ _ _=>true
 | .call c=>(match c.callee with
  | .value _=>true
  | .builtin .append=>true
  | _=>false)
 | _=>false
section
variable {rs:List Nat} {tk:Option Nat} {S1 S2:St} {m M:Mem}
theorem ZvC{E:Env}(w:World)(hE:E.fix=none){f:List Value→Mem→Value→Mem→List (List Value)→Prop}(hs:Less S1 S2)(iy:∀id x,S1.L id=some x→id∈rs)(hL:∀id∈rs,S1.L id=S2.L id)
  (bY:∀k,tk=some k→S1.tok k=S2.tok k) (hm:m.le M) {o:Oper} (il:ZsL E rs tk o=true):
  LC (fun K:St×Mem→Prop=>opW (E.fixed f) S1 m o fun S' m'=>K (S',m')) (fun K:St×Mem→Prop=>opW E S2 M o fun S' m'=>K (S',m')) (Out (Znc rs o) tk (ZdB o) m M o.dst S1 S2):=by
 have eJ:∀(rs:List Nat)(g:Bool)(o:Oper),LC (fun K:St×Mem→Prop=>Zcv (E.fixed f) S1 o fun sv=>K (S1.put o.dst (some sv),m)) (fun K:St×Mem→Prop=>Zcv E S2 o fun sv=>K (S2.put o.dst (some sv),M)) (Out rs tk g m M o.dst S1 S2):=fun rs g o=>by
  refine LC.map (f:=fun sv=>(S1.put o.dst (some sv),m)) (g:=fun sv=>(S2.put o.dst (some sv),M)) (ρ:=Eq) (T1:=fun K=>Zcv (E.fixed f) S1 o K) (T2:=fun K=>Zcv E S2 o K) ?_ ?_ ?_
  ·exact(ZsH w hs:LE (Zcv E S1 o) (Zcv E S2 o))
  ·rintro a b rfl
   exact Out.put0 hm _ (fun sv h=>h)
  ·exact fun h=>ZkW h
 obtain⟨dst,op,type,pos,after,guard⟩:=o
 have hP:∀(rs:List Nat)(g:Bool)(x:Operand),LC (fun K:St×Mem→Prop=>K (S1.put dst (S1.ev x),m)) (fun K:St×Mem→Prop=>K (S2.put dst (S2.ev x),M)) (Out rs tk g m M dst S1 S2):=fun rs g x=>LC.ret (Out.put0 hm _ (fun sv h=>hs.ev h))
 have cT:∀{g:Bool} {d:Nat} {x:Box} {sv:SV},Out [d] tk g m M (some d) S1 S2 ((S1.newL d x).put (some d) (some sv),m) ((S2.newL d x).put (some d) (some sv),M):=fun {g d x sv}=>(OutB.newL hm (fun _=>⟨rfl,rfl⟩) (by simp) x).put (some d) (fun sv h=>h)
 cases op with
 | move x=>exact hP _ _ x
 | assign x=>exact hP _ _ x
 | pick c x y=>exact Zcx hs fun v=>LC.chk fun _=>LC.br (hP _ _ x) (hP _ _ y)
 | load T x=>
  have hq:Zpp (E.fixed f) dst=Zpp E dst:=rfl
  simp only[opW,hq]
  cases ld:Zpp E dst with
  | some y=>exact LC.false
  | none=>
  refine LC.map (f:=fun v=>(S1.put dst (some (.v v)),m)) (g:=fun v=>(S2.put dst (some (.v v)),M)) (ρ:=Eq) (T1:=fun K=>ZfA (E.fixed f) S1 m T x K) (T2:=fun K=>ZfA E S2 M T x K) ?_ ?_ ?_
  ·exact(ZsI hs hm:LE (ZfA E S1 m T x) (ZfA E S2 M T x))
  ·rintro a b rfl
   exact Out.put0 hm _ (fun sv h=>h)
  ·exact fun h=>ZfD h
 | store T x y=>
  refine Zcx hs fun v=>?_
  show LC (fun K=>match ZmS E x with
   | none=>_
   | some key=>bif (E.fixed f).fix.isSome then False else _) (fun K=>match ZmS E x with
   | none=>_
   | some key=>_) _
  cases ZmS E x with
  | some key=>exact LC.false
  | none=>
  refine LC.map (f:=fun y:St×Mem=>(y.1.put dst none,m)) (g:=fun y:St×Mem=>(y.1.put dst none,M)) (ρ:=fun y1 y2=>OutB rs tk false m M S1 S2 y1 y2∧y1.2=m∧y2.2=M) ?_ ?_ ?_ (T1:=fun K=>ZgB (E.fixed f) S1 T x v fun S'=>K (S',m)) (T2:=fun K=>ZgB E S2 T x v fun S'=>K (S',M))
  ·exact fun h=>Zf8 (fun S' _ ⟨y1,g1,g2⟩=>⟨(y1.1,m),fun K hK=>g1 (fun y=>K (y.1,m)) hK,⟨g2.env1,g2.env2,g2.L,g2.tok,hm,fun _=>⟨rfl,rfl⟩,g2.gh2⟩,rfl,rfl⟩) (ZqN (tk:=tk) (rs:=rs) (g:=false) hs iy hm h)
  ·rintro a b ⟨h1,h2,h3⟩
   have:=h1.put dst (x1:=none) (x2:=none) (fun sv h=>h)
   rw[h2,h3]at this;exact this
  ·exact fun h=>Zf8 (fun S' _=>h _)
 | alloc T=>
  simp only[opW,Zqv,ZsL]at *
  cases dst with
  | none=>exact LC.false
  | some d=>
   simp only
   show LC (fun K=>match E.tt T with
    | none=>False
    | some i=>_) _ _
   cases E.tt T with
   | none=>exact LC.false
   | some i=>
    simp only at il ⊢
    rw[hL d (Ze4.1 il)]
    cases hx:S2.L d with
    | some x=>exact LC.false
    | none=>exact fun _ b=>⟨_,fun K hK=>hK b,cT⟩
 | box T x=>
  refine Zcx hs fun v=>?_
  show LC (fun K=>bif Zf0 E dst then(bif (E.fixed f).fix.isSome then False else _)else _) (fun K=>bif Zf0 E dst then _ else _) _
  cases kC:Zf0 E dst with
  | true=>exact LC.false
  | false=>
  simp only[cond_false]
  simp only[ZwE,ZsL]at *
  cases dst with
  | none=>exact LC.false
  | some d=>
   simp only
   show LC (fun K=>match E.tt T with
    | none=>False
    | some i=>_) _ _
   cases E.tt T with
   | none=>exact LC.false
   | some i=>
    simp only at il ⊢
    rw[hL d (Ze4.1 il)]
    cases hx:S2.L d with
    | some x=>exact LC.false
    | none=>exact LC.chk fun _ _ b=>⟨_,fun K hK=>hK b,cT⟩
 | buildSlice T len parts=>
  simp only[opW]
  have hq:ZcM (E.fixed f) dst=ZcM E dst:=rfl
  simp only[hq]
  cases gL:ZcM E dst with
  | some ke=>exact LC.false
  | none=>
  simp only[Zec,ZsL]at *
  cases dst with
  | none=>exact LC.false
  | some d=>
   simp only
   show LC (fun K=>match E.tt T with
    | none=>False
    | some t=>match t.d with
     | .slice e=>match E.tt e with
      | none=>False
      | some i=>_
     | _=>False) _ _
   cases E.tt T with
   | none=>exact LC.false
   | some t=>
    simp only
    cases t.d <;> simp only <;> try exact LC.false
    rename_i e
    cases E.tt e with
    | none=>exact LC.false
    | some i=>
     simp only at il ⊢
     rw[hL d (Ze4.1 il)]
     cases hx:S2.L d with
     | some x=>exact LC.false
     | none=>
      refine LC.chk fun _=>Znb hs fun vs=>LC.chk fun _ _ b hb=>⟨_,fun K hK=>hK b ?_,?_⟩
      ·intro o
       cases he:m b o with
       | none=>rfl
       | some v=>have:=hm _ _ _ he;rw[hb o]at this;cases this
      ·exact(OutB.newL (Mem.add_le hm b (Zbv vs)) (fun h=>by cases h) (by simp[Znc,dl]) _).put (some d) (fun sv h=>h)
 | makeSlice T l c=>
  have hq:ZcM (E.fixed f) dst=ZcM E dst:=rfl
  simp only[opW,hq]
  have lb:ZrW (E.fixed f) dst=ZrW E dst:=rfl
  cases gL:ZcM E dst with
  | some ke=>exact LC.false
  | none=>
  simp only[lb]
  cases lf:ZrW E dst with
  | true=>exact LC.false
  | false=>
  simp only[cond_false]
  simp only[ZtI,ZsL]at *
  cases dst with
  | none=>exact LC.false
  | some d=>
   simp only
   show LC (fun K=>match ZaB E T with
    | none=>False
    | some (e,j)=>_) _ _
   cases ZaB E T with
   | none=>exact LC.false
   | some ej=>
    simp only at il ⊢
    rw[hL d (Ze4.1 il)]
    cases hx:S2.L d with
    | some x=>exact LC.false
    | none=>exact Zcx hs fun v=>Zcx hs fun v'=>LC.chk fun _ ⟨h1,_⟩=>⟨h1,fun b=>⟨_,fun K hK=>hK.2 b,cT⟩⟩
 | convert s d x=>
  simp only[opW]
  show LC (fun K=>bif Zf6 E s d then _ else _) _ _
  cases Zf6 E s d with
  | false=>
   simp only[cond_false]
   show LC (fun K=>bif Zco E s d then _ else _) _ _
   cases Zco E s d with
   | false=>
    simp only[cond_false]
    show LC (fun K=>bif Zcp E s d then _ else _) _ _
    cases Zcp E s d with
    | false=>exact eJ _ _ ⟨dst,.convert s d x,type,pos,after,guard⟩
    | true=>exact LC.false
   | true=>exact LC.false
  | true=>
   simp only[cond_true]
   cases he:S1.ev x with
   | none=>exact LC.false
   | some sv=>
    simp only[hs.ev he]
    cases sv <;> first
     | exact LC.false
     | exact LC.ret (Out.put0 hm _ (fun sv h=>h))
 | call c=>
  obtain⟨callee,args,argTypes⟩:=c
  cases callee with
  | value g=>
   simp only[opW,ZtU]
   show LC (fun K=>match Zdz E dst with
    | []=>_
    | ids=>bif (E.fixed f).fix.isSome then False else _) (fun K=>match Zdz E dst with
    | []=>_
    | ids=>_) _
   cases rl:Zdz E dst with
   | cons i l=>exact LC.false
   | nil=>
   simp only[ZtH]
   have gX:Zeb E dst=none:=(Zk3 il).2 _ _ _ rfl
   have oI:Zeb (E.fixed f) dst=none:=gX
   cases he:S1.ev g with
   | none=>exact LC.false
   | some sv=>
    simp only[hs.ev he]
    cases sv with
    | loc id off=>exact LC.false
    | sl id n c=>exact LC.false
    | v u=>
     cases u <;> try exact LC.false
     rename_i fv first captured
     cases fv <;> try exact LC.false
     rename_i gg
     have iP:ZrS (E.fixed f) dst=ZrS E dst:=rfl
     simp only[iP,gX,oI]
     cases lg:ZrS E dst with
     | true=>exact LC.false
     | false=>
     simp only[cond_false]
     have hq:ZcM (E.fixed f) dst=ZcM E dst:=rfl
     simp only[hq]
     cases gL:ZcM E dst with
     | some ke=>exact LC.false
     | none=>
     intro h
     have oJ:=Zjb hs h
     revert h
     rw[←oJ]
     show LC (fun K:St×Mem→Prop=>wvs S1 args.toList fun vs=>Zmj (E.fixed f) S1 m type gg (first.toList++vs++captured.toList) (ZcC S1 args.toList++Zc3 E dst) fun v S' m'=>K (S'.put dst (some (SV.v v)),m'))
      (fun K:St×Mem→Prop=>wvs S2 args.toList fun vs=>Zmj E S2 M type gg (first.toList++vs++captured.toList) (ZcC S1 args.toList++Zc3 E dst) fun v S' m'=>K (S'.put dst (some (SV.v v)),m')) _
     refine Znb hs fun vs=>?_
     refine LC.map (f:=fun y:Value×(St×Mem)=>(y.2.1.put dst (some (.v y.1)),y.2.2)) (g:=fun y:Value×(St×Mem)=>(y.2.1.put dst (some (.v y.1)),y.2.2)) (ZsK (rs:=rs) (tk:=tk) (γ:=fun _ _=>none) hE (f:=f) hs iy hm) ?_ ?_
     ·rintro⟨v1,y1⟩ ⟨v2,y2⟩ ⟨rfl,h2⟩
      exact h2.put dst (fun sv h=>h)
     ·exact fun h=>ZkY (fun v S' m' _ _=>h _)
  | invoke r mm=>
   simp only[opW]
   exact eJ _ _ ⟨dst,_,type,pos,after,guard⟩
  | builtin b=>
   cases b with
   | append=>
    simp only[opW,ZsL]at *
    split
    ·rename_i s x T xT d _ _
     cases fS:tk with
     | none=>simp[fS]at il
     | some key=>
      simp only[fS]at il
      obtain rfl:=Nat.eq_of_beq_eq_true il
      simp only[ZtU]
      show LC (fun K=>match Zdz E (some d)with
       | []=>_
       | ids=>bif (E.fixed f).fix.isSome then False else _) (fun K=>match Zdz E (some d)with
       | []=>_
       | ids=>_) _
      cases rl:Zdz E (some d)with
      | cons i l=>exact LC.false
      | nil=>
      refine Zcx hs fun v=>Zcx hs fun v'=>?_
      have z:=ZoB (E:=E) (rs:=[]) (tk:=some (E.tokOf d)) (key:=E.tokOf d) (S1:=S1) (S2:=S2) (f:=f) (T:=T) (xT:=xT) (vs:=v) (vx:=v') hm rfl (fun k hk=>bY k (fS.trans hk))
      refine LC.map z (f:=fun y:Value×(St×Mem)=>(y.2.1.put (some d) (some (.v y.1)),y.2.2)) (g:=fun y:Value×(St×Mem)=>(y.2.1.put (some d) (some (.v y.1)),y.2.2)) ?_ ?_
      ·rintro⟨v1,y1⟩ ⟨v2,y2⟩ ⟨rfl,h2⟩
       exact h2.put (some d) (fun sv h=>h)
      ·exact fun h=>Zg1 (fun v t m' _=>h _)
    ·exact LC.false
   | copy=>
    simp only[opW,ZsL]at *
    split
    ·rename_i d s T xT _ _
     have hq:ZeL (E.fixed f) d=ZeL E d:=rfl
     simp only[hq]
     cases ZeL E d with
     | none=>exact LC.false
     | some id=>
      refine Zcx hs fun v=>Zcx hs fun v'=>?_
      have z:=ZsJ (E:=E) (rs:=rs) (tk:=tk) (g:=false) (S1:=S1) (S2:=S2) (f:=f) (T:=T) (id:=id) (vd:=v) (vs:=v') hs iy hm
      refine LC.map z (f:=fun y:Int×(St×Mem)=>(y.2.1.put dst (some (.v (.int .i64 y.1))),m)) (g:=fun y:Int×(St×Mem)=>(y.2.1.put dst (some (.v (.int .i64 y.1))),M)) ?_ ?_
      ·rintro⟨n1,y1⟩ ⟨n2,y2⟩ ⟨rfl,h2,h3,h4⟩
       have:=h2.put dst (x1:=some (.v (.int .i64 n1))) (x2:=some (.v (.int .i64 n1))) (fun sv h=>h)
       rw[h3,h4]at this;exact this
      ·exact fun h=>ZkX (fun n S' _=>h _)
    ·exact LC.false
   | _=>
    simp only[opW]
    exact eJ _ _ ⟨dst,_,type,pos,after,guard⟩
 | _=>
  simp only[opW]
  exact eJ _ _ ⟨dst,_,type,pos,after,guard⟩
theorem ZvD{E:Env}(w:World)(hE:E.fix=none){f:List Value→Mem→Value→Mem→List (List Value)→Prop}(hs:Less S1 S2)(iy:∀id x,S1.L id=some x→id∈rs)(hL:∀id∈rs,S1.L id=S2.L id)
  (bY:∀k,tk=some k→S1.tok k=S2.tok k) (hm:m.le M) {ops:Array Oper} {o:Oper} (il:ZsL E rs tk o=true):
  LC (fun K:St×Mem→Prop=>opG (E.fixed f) ops o S1 m fun S' m'=>K (S',m')) (fun K:St×Mem→Prop=>opG E ops o S2 M fun S' m'=>K (S',m')) (Out (Znc rs o) tk (ZdB o) m M o.dst S1 S2):=by
 have h1:=ZvC w hE (f:=f) hs iy hL bY hm il
 have h0:LC (fun K:St×Mem→Prop=>K (S1.put o.dst (some (.v undef)),m)) (fun K:St×Mem→Prop=>K (S2.put o.dst (some (.v undef)),M)) (Out (Znc rs o) tk (ZdB o) m M o.dst S1 S2):=LC.ret (Out.put0 hm _ (fun sv h=>h))
 unfold opG
 cases hg:o.guard with
 | none=>exact h1
 | some jw=>
  obtain⟨j,want⟩:=jw
  simp only
  cases ops.toList[j]? with
  | none=>exact LC.false
  | some oj=>
   simp only
   cases oj.dst with
   | none=>exact LC.false
   | some t=>
    simp only
    cases he:S1.env t with
    | none=>exact LC.false
    | some sv=>
     simp only[hs.env t sv he]
     cases sv with
     | loc id off=>exact LC.false
     | sl id n c=>exact LC.false
     | v u=>
      simp only
      cases ZdA u with
      | true=>exact h0
      | false=>
       refine LC.chk fun _=>?_
       cases want
       ·exact LC.br h0 h1
       ·exact LC.br h1 h0
end
end Go.Eng
namespace Go.Eng
open Go Go.RowKit
def mem(l:List Nat)(i:Nat):Bool:=l.any (Nat.beq i ·)
theorem ZaW{l:List Nat}{i:Nat}:mem l i=true↔i∈l:=Ze4
def ZqO(t:Option Nat)(k:Nat):Bool:=match t with
 | some q=>Nat.beq k q
 | none=>false
theorem Zbw{t:Option Nat}{k:Nat}:ZqO t k=true↔t=some k:=by
 cases t with
 | none=>simp[ZqO]
 | some q=>
  simp only[ZqO,Option.some.injEq]
  exact⟨fun h=>(Nat.eq_of_beq_eq_true h).symm,fun h=>by subst h;exact Nat.beq_refl _⟩
def ZfI(o:Oper)(t:Nat):Bool:=ZqO o.dst t
def ZoC(ops:Array Oper)(d:DOp)(o:Oper)(S:St):St:=
 {env:=fun t=>bif mem (o.looksAt ops) t then S.env t else none
  L:=fun id=>bif mem d.rs id then S.L id else none
  ids:=S.ids
  tok:=fun k=>bif ZqO d.tk k then S.tok k else none
  tkeys:=S.tkeys
  gh:=S.gh }
def Znd(d:DOp)(o:Oper)(S S':St):St:=
 {env:=fun t=>bif ZfI o t then S'.env t else S.env t
  L:=fun id=>bif mem d.ws id then S'.L id else S.L id
  ids:=S.ids
  tok:=fun k=>bif ZqO d.tk k then S'.tok k else S.tok k
  tkeys:=S.tkeys
  gh:=S.gh }
def upd(μ:Nat→Mem)(i:Nat)(m:Mem):Nat→Mem:=fun j=>bif Nat.beq j i then m else μ j
def Zoi(μ:Nat→Mem)(M:Mem):List Nat→Prop→Prop
 | [],p=>p
 | j::l,p=>(μ j).le M→Zoi μ M l p
def Zpy(μ:Nat→Mem)(m0:Mem):List Nat→(Mem→Prop)→Prop
 | [],k=>k m0
 | [j],k=>k (μ j)
 | l,k=>∀V:Mem,m0.le V→Zoi μ V l (k V)
abbrev Fx:=Nat→List Value→Mem→Value→Mem→List (List Value)→Prop
def ZrR(E:Env)(ops:Array Oper)(m0:Mem)(f:Fx)(d:DOp)(S:St)(μ:Nat→Mem)(K:St→Mem→Prop):Prop:=match ops.toList[d.i]? with
 | none=>False
 | some o=>Zpy μ m0 d.vw fun V=>opG (E.fixed (f d.i)) ops o (ZoC ops d o S) V K
def ZoD(ops:Array Oper)(d:DOp)(S S':St):St:=match ops.toList[d.i]? with
 | none=>S
 | some o=>Znd d o S S'
def ZjT(E:Env)(ops:Array Oper)(m0:Mem)(f:Fx)(d:DOp)(S:St)(μ:Nat→Mem)(K:St→(Nat→Mem)→Prop):Prop:=
 ZrR E ops m0 f d S μ fun S' m'=>K (ZoD ops d S S') (upd μ d.i m')
def Zie(E:Env)(ops:Array Oper)(m0:Mem)(f:Fx):List DOp→(St→(Nat→Mem)→Prop)→St→(Nat→Mem)→Prop
 | [],K,S,μ=>K S μ
 | d::r,K,S,μ=>ZjT E ops m0 f d S μ (Zie E ops m0 f r K)
def Zvm(ops:Array Oper)(d:DOp):Option Nat:=match ops.toList[d.i]? with
 | none=>none
 | some o=>ZfB ops o
def Zif(E:Env)(ops:Array Oper)(m0:Mem)(f:Fx):List DOp→(St→(Nat→Mem)→Prop)→St→(Nat→Mem)→Prop
 | [],K,S,μ=>K S μ
 | d::r,K,S,μ=>match Zvm ops d with
  | none=>ZjT E ops m0 f d S μ (Zif E ops m0 f r K)
  | some t=>match S.env t with
   | some (.v v)=>bif ZdA v then ZjT E ops m0 f d S μ (Zif E ops m0 f r K)else chk (ZgA v) (br (Zcl v) (ZjT E ops m0 f d (S.put (some t) (some (.v (.bool true)))) μ (Zif E ops m0 f r K)) (ZjT E ops m0 f d (S.put (some t) (some (.v (.bool false)))) μ (Zif E ops m0 f r K)))
   | _=>False
def Zvn(m0:Mem)(μ:Nat→Mem):List Nat→(Mem→Prop)→Prop
 | [],k=>k m0
 | l,k=>∀M:Mem,m0.le M→Zoi μ M l (k M)
def Zig(ops:Array Oper):List DOp→List Nat
 | []=>[]
 | d::r=>match ops.toList[d.i]? with
  | none=>Zig ops r
  | some o=>bif ZdB o then d.i::Zig ops r else Zig ops r
def Zud:List DOp→List Nat
 | []=>[]
 | d::r=>d.ws++Zud r
def ZtM:List DOp→List Nat
 | []=>[]
 | d::r=>match d.tk with
  | none=>ZtM r
  | some k=>k::ZtM r
def ZjU(ds:List DOp)(S:St):St:={ S with ids:=Zud ds++S.ids,tkeys:=ZtM ds++S.tkeys }
def ZwJ(a b:List Nat):Bool:=a.all fun i=>!mem b i
def ZwB(a b:List Nat):Bool:=a.all fun i=>mem b i
def Zne(o:Oper)(l:List Nat):Bool:=match o.dst with
 | none=>true
 | some t=>!mem l t
def Zvo(a b:Oper):Bool:=match a.dst with
 | none=>true
 | some t=>!ZfI b t
def Zxb(a b:Option Nat):Bool:=match a with
 | none=>true
 | some k=>!ZqO b k
def Zpz(ops:Array Oper)(c d:DOp):Bool:=match ops.toList[c.i]?,ops.toList[d.i]? with
 | some oc,some od=>(Zne oc (od.looksAt ops)&&Zne od (oc.looksAt ops)&&Zvo oc od)&&(ZwJ c.ws d.rs&&ZwJ d.ws c.rs&&Zxb c.tk d.tk)&&(!mem d.vw c.i&&!mem c.vw d.i&&!Nat.beq c.i d.i)
 | _,_=>false
def Zbc(o:Oper):List Nat:=(o.after.toList.filter (Region.binds .any ·)).map (·.on)
def Zwf:List DOp→Nat→List Nat
 | [],_=>[]
 | d::r,i=>bif Nat.beq d.i i then d.an else Zwf r i
def Zvp(E:Env)(ops:Array Oper)(d:DOp)(before:List DOp):Bool:=match ops.toList[d.i]? with
 | none=>false
 | some o=>(ZsL E d.rs d.tk o&&ZwB (Znc d.rs o) d.ws&&ZwB d.ws d.rs)&&(ZwB d.vw d.an&&ZwB (Zbc o) (before.map (·.i))) &&
   (d.an.all fun j=>mem (Zbc o) j||(Zbc o).any fun p=>mem (Zwf before p) j)&&(before.all fun c=>mem d.an c.i||Zpz ops c d)&&(before.all fun c=>!Nat.beq c.i d.i)
def Zil(E:Env)(ops:Array Oper):List DOp→List DOp→Bool
 | [],_=>true
 | d::r,before=>Zvp E ops d before&&Zil E ops r (d::before)
def Zue(E:Env)(ops:Array Oper)(ds:List DOp)(n:Nat):Bool:=(List.range n).all (fun i=>ds.any fun d=>Nat.beq d.i i)&&Nat.ble ds.length ops.size&&Zil E ops ds []&&E.fix.isNone
def Zr1:List Oper→Bool
 | []=>false
 | o::l=>(match o.op with
  | .call c=>(match c.callee with
   | .value _=>true
   | _=>false)
  | _=>false)||Zr1 l
def Zxz:Fx:=fun _ _ _ _ _ _=>True
def exF(b:Bool)(p:Fx→Prop):Prop:=match b with
 | true=>∃f,p f
 | false=>p Zxz
theorem ZsM{b:Bool}{p:Fx→Prop}(h:exF b p):∃f,p f:=by
 cases b
 ·exact⟨_,h⟩
 ·exact h
theorem ZsN{b:Bool}{p q:Fx→Prop}(h:∀f,p f→q f)(x:exF b p):exF b q:=by
 cases b
 ·exact h _ x
 ·obtain⟨f,x⟩:=x;exact⟨f,h f x⟩
def Zuf(ops:Array Oper)(ds:List DOp)(k:Nat):Bool:=(Nat.ble k ops.size&&(List.range k).all fun j=>match ops.toList[ops.size - k+j]? with
 | none=>false
 | some o=>(List.range j).all (fun i=>mem (Zbc o) (ops.size - k+i))&&((Zbc o).all (fun i=>Nat.ble (i+1) (ops.size - k+j))&&(bif Nat.beq j 0 then(List.range (ops.size - k)).all (fun i=>mem (Zbc o) i||(Zbc o).any fun p=>mem (Zwf ds p) i)else true)))&&ds.all fun d=>Nat.ble (d.i+1) (ops.size - k)
def Zjc(E:Env)(ops:Array Oper)(K:St→Mem→Prop):List Oper→St→Mem→Prop
 | [],S,m=>K S m
 | o::r,S,m=>Zvz E ops o S m (Zjc E ops K r)
def ZqP(E:Env)(ops:Array Oper)(k:Nat)(K:St→Mem→Prop)(S:St)(m:Mem):Prop:=Zjc E ops K (ops.toList.drop (ops.size - k)) S m
def Zr2(E:Env)(S:St)(ids:List Nat)(T:TypeId)(x:Operand)(k:Value→Prop):Prop:=match E.tt T with
 | none=>False
 | some i=>match S.ev x with
  | some (.loc id off)=>match S.L id with
   | none=>False
   | some bx=>chk (!mem ids id) (Zcd i bx off k)
  | some (.v v)=>match E.m0 with
   | none=>False
   | some m0=>chk (ZjC v&&(ZeL E x).isNone) (ZcA i m0 (Zqn v) (Zqo v) k)
  | _=>False
def ZlT(E:Env)(S:St)(ids:List Nat):List Oper→St→(St→Prop)→Prop
 | [],S1,k=>k S1
 | o::r,S1,k=>match o.op with
  | .load T x=>Zr2 E S ids T x fun v=>ZlT E S ids r (S1.put o.dst (some (.v v))) k
  | _=>False
def ZqQ{α:Type}:List α→Bool
 | []=>true
 | _=>false
def Znf(l:List Nat):Operand→Bool
 | .tmp t=>!mem l t
 | _=>true
def Zwg:Operand→Bool
 | .func _=>true
 | _=>false
def Zr3(E:Env)(ops:Array Oper)(o:Oper):Bool:=o.guard.isNone&&(ZqQ (Zbc o)&&(match o.op with
 | .load _ x=>(Zpp E o.dst).isNone&&(o.dst.isSome&&Znf (Zar ops.toList) x)
 | _=>false))
def Zng(E:Env)(ops:Array Oper)(c:Nat)(lds:List Oper)(o:Oper):Bool:=o.guard.isNone&&(match o.op with
 | .call q=>(match q.callee with
  | .value f=>(Zeb E o.dst).isSome&&(ZqQ (Zdz E o.dst)&&(o.dst.isSome&&(Zne o (Zar lds)&&(Zwg f &&
    ((List.range c).all fun j=>mem (Zbc o) j||match ops.toList[j]? with
     | none=>false
     | some oj=>match oj.dst with
      | none=>false
      | some t=>q.args.toList.all (Znf [t]))))))&&(Zbc o).all fun j=>Nat.ble (j+1) c
  | _=>false)
 | _=>false)
def Zvq(E:Env)(ops:Array Oper)(k:Nat):Bool:=
 (Nat.ble k ops.size&&(Nat.ble 1 k&&E.thaw))&&((ops.toList.take (ops.size - k)).all (Zr3 E ops)&&(Za6 (Zar (ops.toList.take (ops.size - k))) &&
  ((match ops.toList[ops.size - k]? with
   | none=>false
   | some o=>Zng E ops (ops.size - k) (ops.toList.take (ops.size - k)) o) &&
  (List.range k).all fun j=>bif Nat.beq j 0 then true else match ops.toList[ops.size - k+j]?,ops.toList[ops.size - k]? with
   | some o,some oc=>(List.range j).all (fun i=>mem (Zbc o) (ops.size - k+i))&&((Zbc o).all (fun i=>Nat.ble (i+1) (ops.size - k+j)) &&
     (bif Nat.beq j 1 then(List.range (ops.size - k)).all (fun i=>mem (Zbc o) i||mem (Zbc oc) i)else true))
   | _,_=>false)))
def Zwh(E:Env)(id:Nat)(ops:Array Oper)(K:St→Mem→Prop)(S:St)(m:Mem):Prop:=
 chk (E.last id&&Zvq E ops (E.lastK id)) (match ops.toList.drop (ops.size - E.lastK id)with
  | []=>False
  | o::r=>match o.op with
   | .call q=>ZlT E S (Zc3 E o.dst) (ops.toList.take (ops.size - E.lastK id)) S fun S1=>chk (ZqQ (ZcC S1 q.args.toList)) (opG E ops o S1 m (Zjc E ops K r))
   | _=>False)
def ZjV(E:Env)(id:Nat)(ops:Array Oper)(K:St→Mem→Prop)(S:St)(m:Mem):Prop:=
 bif E.hot id then Zwh E id ops K S m else
 chk (Zue E ops (E.dr id) (bif E.last id then ops.size - E.lastK id else ops.size)&&(bif E.last id then Zuf ops (E.dr id) (E.lastK id)else true)) (exF (Zr1 ops.toList) fun f=>bif E.gb then Zif E ops m f (E.dr id) (fun S' μ=>Zvn m μ (Zig ops (E.dr id)) fun M=>bif E.last id then ZqP E ops (E.lastK id) K S' M else K S' M) (ZjU (E.dr id) S) (fun _=>m)else Zie E ops m f (E.dr id) (fun S' μ=>Zvn m μ (Zig ops (E.dr id)) fun M=>bif E.last id then ZqP E ops (E.lastK id) K S' M else K S' M) (ZjU (E.dr id) S) (fun _=>m))
def ZwC(S:St)(y:Option SV):Option SV:=match y with
 | some (.loc i off)=>(match S.L i with
  | some x=>some (.v (.pointer (some ⟨x.b,off,none⟩)))
  | none=>none)
 | y=>y
def ptrS(S:St)(ts:List Nat):St:={ S with env:=fun t=>bif mem ts t then ZwC S (S.env t)else S.env t }
def Zim(S S':St):List Nat→Prop→Prop
 | [],p=>p
 | t::l,p=>match S.env t with
  | some (.loc i _)=>S'.L i=S.L i∧Zim S S' l p
  | some (.v _)=>Zim S S' l p
  | _=>False
def Zug(S S':St)(ts:List Nat):St:={ S' with env:=fun t=>bif mem ts t then S.env t else S'.env t }
def Zwi(ts ds:List Nat)(f:(St→Mem→Prop)→St→Mem→Prop)(K:St→Mem→Prop)(S:St)(m:Mem):Prop:=match ts with
 | []=>f K S m
 | _::_=>chk (ZwJ ts ds) (f (fun S' m'=>Zim S S' ts (K (Zug S S' ts) m')) (ptrS S ts) m)
def ZaZ(E:Env)(id:Nat)(ops:Array Oper)(K:St→Mem→Prop)(S:St)(m:Mem):Prop:=ZtU E (some (1000000+id)) S m fun S m=>Zt2 E (bif E.last id then E.acq id else none) (Zwi (E.ptrAt id) (Zar ops.toList) (ZjV E id ops)) K S m
theorem Zh1{μ:Nat→Mem}{M:Mem}{p q:Prop}(h:p→q):∀{l:List Nat},Zoi μ M l p→Zoi μ M l q
 | [],x=>h x
 | j::l,x=>fun y=>Zh1 h (x y)
theorem Zh2{μ:Nat→Mem}{M:Mem}{p:Prop}:∀{l:List Nat},Zoi μ M l p→(∀j∈l,(μ j).le M)→p
 | [],x,_=>x
 | j::l,x,h=>Zh2 (x (h j (by simp))) (fun i hi=>h i (by simp[hi]))
theorem ZoE{μ:Nat→Mem}{m0:Mem}{k k':Mem→Prop}(h:∀V,k V→k' V):∀{l:List Nat},Zpy μ m0 l k→Zpy μ m0 l k'
 | [],x=>h _ x
 | [j],x=>h _ x
 | i::j::l,x=>fun V hV=>Zh1 (h V) (x V hV)
theorem ZoF{μ:Nat→Mem}{m0 A:Mem}{l:List Nat}(h0:m0.le A)(hl:∀j∈l,(μ j).le A):∃V:Mem,V.le A∧∀k:Mem→Prop,Zpy μ m0 l k→k V:=by
 match l with
 | []=>exact⟨m0,h0,fun k x=>x⟩
 | [j]=>exact⟨μ j,hl j (by simp),fun k x=>x⟩
 | i::j::l=>exact⟨A,Mem.le_refl A,fun k x=>Zh2 (x A h0) hl⟩
theorem ZqR{μ:Nat→Mem}{m0:Mem}{i:Nat}{m:Mem}{l:List Nat}(h:i ∉ l)(k:Mem→Prop):Zpy (upd μ i m) m0 l k=Zpy μ m0 l k:=by
 have one:∀{j},j∈l→upd μ i m j=μ j:=fun {j} hj=>by
  have:j≠i:=fun e=>h (e ▸ hj)
  simp[upd,Zaq this]
 have all:∀{l':List Nat},(∀j∈l',j∈l)→∀(M:Mem)(p:Prop),Zoi (upd μ i m) M l' p=Zoi μ M l' p:=by
  intro l'
  induction l' with
  | nil=>intro _ M p;rfl
  | cons j l' ih=>
   intro hs M p
   simp only[Zoi]
   rw[one (hs j (by simp)),ih (fun x hx=>hs x (by simp[hx]))]
 match l with
 | []=>rfl
 | [j]=>simp only[Zpy];rw[one (by simp)]
 | a::b::l=>
  simp only[Zpy]
  exact propext ⟨fun x V hV=>by have:=x V hV;rwa [all (fun j hj=>hj)]at this,fun x V hV=>by rw[all (fun j hj=>hj)];exact x V hV⟩
theorem ZqS{m0:Mem}{μ:Nat→Mem}{l:List Nat}{k:Mem→Prop}{A:Mem}(h:Zvn m0 μ l k)(h0:m0.le A)(he:l=[]→A=m0)(hl:∀j∈l,(μ j).le A):k A:=by
 match l with
 | []=>rw[he rfl];exact h
 | i::l=>exact Zh2 (h A h0) hl
theorem Znh{m0:Mem}{μ:Nat→Mem}{l:List Nat}{k k':Mem→Prop}(h:∀M:Mem,m0.le M→k M→k' M)(x:Zvn m0 μ l k):Zvn m0 μ l k':=by
 match l with
 | []=>exact h _ (Mem.le_refl _) x
 | i::l=>exact fun M hM=>Zh1 (h M hM) (x M hM)
theorem Zef{E:Env}{ops:Array Oper}{m0:Mem}{f:Fx}{d:DOp}{S:St}{μ:Nat→Mem}{K K':St→Mem→Prop}(h:∀S' m',K S' m'→K' S' m')(hx:ZrR E ops m0 f d S μ K):ZrR E ops m0 f d S μ K':=by
 unfold ZrR at *
 split at hx
 ·exact hx.elim
 ·exact ZoE (fun V y=>Zf9 (th:=true) (.inl rfl) (fun S' m' _ _=>h S' m') y) hx
theorem Zk4{E:Env}{ops:Array Oper}{m0:Mem}{f:Fx}:∀{r:List DOp} {K K':St→(Nat→Mem)→Prop} {S:St} {μ:Nat→Mem},(∀S' μ',SameOut (Zar ops.toList) S S'→K S' μ'→K' S' μ')→Zie E ops m0 f r K S μ→Zie E ops m0 f r K' S μ
 | [],K,K',S,μ,h,hx=>h _ _ (SameOut.refl _ S) hx
 | d::r,K,K',S,μ,h,hx=>by
  refine Zef (fun S' m' y=>Zk4 (fun S'' μ'' hs y=>h _ _ (SameOut.trans ?_ hs) y) y) hx
  intro t ht
  unfold ZoD
  cases ho:ops.toList[d.i]? with
  | none=>rfl
  | some o=>
   have:ZfI o t=false:=by
    cases hd:ZfI o t with
    | false=>rfl
    | true=>exact absurd (ZaX ho (Zbw.1 hd)) ht
   simp[Znd,this]
theorem ZqT{ops:Array Oper}{d:DOp}{S S':St}:SameOut (Zar ops.toList) S (ZoD ops d S S'):=by
 intro t ht
 unfold ZoD
 cases ho:ops.toList[d.i]? with
 | none=>rfl
 | some o=>
  have:ZfI o t=false:=by
   cases hd:ZfI o t with
   | false=>rfl
   | true=>exact absurd (ZaX ho (Zbw.1 hd)) ht
  simp[Znd,this]
theorem ZqU{ops:Array Oper}{d:DOp}{t:Nat}(h:Zvm ops d=some t):t∈Zar ops.toList:=by
 unfold Zvm ZfB at h
 split at h
 ·cases h
 ·split at h
  ·cases h
  ·split at h
   ·cases h
   ·rename_i oj hj
    exact ZaX hj h
theorem Zk5{E:Env}{ops:Array Oper}{m0:Mem}{f:Fx}:∀{r:List DOp} {K K':St→(Nat→Mem)→Prop} {S:St} {μ:Nat→Mem},(∀S' μ',SameOut (Zar ops.toList) S S'→K S' μ'→K' S' μ')→Zif E ops m0 f r K S μ→Zif E ops m0 f r K' S μ
 | [],K,K',S,μ,h,hx=>h _ _ (SameOut.refl _ S) hx
 | d::r,K,K',S,μ,h,hx=>by
  have step:∀{S1:St},SameOut (Zar ops.toList) S S1→ZjT E ops m0 f d S1 μ (Zif E ops m0 f r K)→ZjT E ops m0 f d S1 μ (Zif E ops m0 f r K'):=fun hs y=>
   Zef (fun S' m' y=>Zk5 (fun S'' μ'' jv y=>h _ _ (SameOut.trans (SameOut.trans hs ZqT) jv) y) y) y
  unfold Zif at hx ⊢
  split at hx
  ·exact step (SameOut.refl _ S) hx
  ·rename_i t ht
   have hP:∀x,SameOut (Zar ops.toList) S (S.put (some t) x):=fun x=>(SameOut.refl _ S).put (fun t' e=>by cases e;exact ZqU ht) x
   split at hx
   ·rename_i v hv
    cases hu:ZdA v with
    | true=>simp only[hu,cond_true]at hx ⊢;exact step (SameOut.refl _ S) hx
    | false=>
     simp only[hu,cond_false]at hx ⊢
     refine Zah (fun y=>?_) hx
     cases hb:Zcl v with
     | true=>rw[hb]at y;exact step (hP _) y
     | false=>rw[hb]at y;exact step (hP _) y
   ·exact hx.elim
theorem ZpA{S:St}{t:Nat}{x:SV}(h:S.env t=some x):S.put (some t) (some x)=S:=by
 cases S with
 | mk env L ids tok tkeys gh=>
  simp only[St.put]
  congr 1
  funext i
  by_cases e:i=t
  ·subst e;simp at h ⊢;exact h.symm
  ·simp[Zaq e]
theorem Zjd{E:Env}{ops:Array Oper}{m0:Mem}{f:Fx}:∀{r:List DOp} {K:St→(Nat→Mem)→Prop} {S:St} {μ:Nat→Mem},Zif E ops m0 f r K S μ→Zie E ops m0 f r K S μ
 | [],K,S,μ,hx=>hx
 | d::r,K,S,μ,hx=>by
  have step:∀{S1:St},ZjT E ops m0 f d S1 μ (Zif E ops m0 f r K)→ZjT E ops m0 f d S1 μ (Zie E ops m0 f r K):=fun y=>Zef (fun S' m' y=>Zjd y) y
  unfold Zif at hx
  show ZjT E ops m0 f d S μ (Zie E ops m0 f r K)
  split at hx
  ·exact step hx
  ·split at hx
   ·rename_i v hv
    cases hu:ZdA v with
    | true=>simp only[hu,cond_true]at hx;exact step hx
    | false=>
     simp only[hu,cond_false]at hx
     obtain⟨h1,h2⟩:=Zae hx
     have he:=Zbz h1
     cases hb:Zcl v with
     | true=>
      rw[hb]at he h2
      subst he
      have h3:ZjT E ops m0 f d (S.put (some _) (some (.v (.bool true)))) μ (Zif E ops m0 f r K):=h2
      rw[ZpA hv]at h3;exact step h3
     | false=>
      rw[hb]at he h2
      subst he
      have h3:ZjT E ops m0 f d (S.put (some _) (some (.v (.bool false)))) μ (Zif E ops m0 f r K):=h2
      rw[ZpA hv]at h3;exact step h3
   ·exact hx.elim
theorem Zk6{E:Env}{id:Nat}{ops:Array Oper}{K K':St→Mem→Prop}{S:St}{m:Mem}(h:∀S' m',SameOut (Zar ops.toList) S S'→leD E id m m'→K S' m'→K' S' m'){S':St}{M:Mem}(hs:SameOut (Zar ops.toList) S S')(hM:m.le M)(y:bif E.last id then ZqP E ops (E.lastK id) K S' M else K S' M):bif E.last id then ZqP E ops (E.lastK id) K' S' M else K' S' M:=by
 cases hl:E.last id with
 | false=>
  rw[hl]at y
  exact h _ _ hs (by unfold leD;rw[hl];exact hM) y
 | true=>
  rw[hl]at y
  simp only[cond_true]at y ⊢
  unfold ZqP at y ⊢
  have key:∀(r:List Oper),(∀o∈r,o∈ops.toList)→∀(S':St)(M:Mem),SameOut (Zar ops.toList) S S'→leT E.thaw m M→Zjc E ops K r S' M→Zjc E ops K' r S' M:=by
   intro r
   induction r with
   | nil=>exact fun _ S' M hs hM y=>h _ _ hs (by unfold leD;rw[hl];exact hM) y
   | cons o r ih=>
    intro hr S' M hs hM y
    simp only[Zjc]at y ⊢
    obtain⟨i,ho⟩:=List.getElem?_of_mem (hr o (by simp))
    exact ZjP (fun t ht=>ZaX ho ht) (fun S2 m2 jv aY y=>ih (fun o ho=>hr o (by simp[ho])) _ _ (hs.trans jv) (leT.trans hM aY) y) y
  exact key _ (fun o ho=>List.mem_of_mem_drop ho) _ _ hs (.of hM) y
theorem Zk7{E:Env}{ops:Array Oper}{K K':St→Mem→Prop}{S:St}{m:Mem}(h:∀S' m',SameOut (Zar ops.toList) S S'→leT E.thaw m m'→K S' m'→K' S' m'):∀(r:List Oper),(∀o∈r,o∈ops.toList)→∀(S':St)(M:Mem),SameOut (Zar ops.toList) S S'→leT E.thaw m M→Zjc E ops K r S' M→Zjc E ops K' r S' M
 | [],_,S',M,hs,hM,y=>h _ _ hs hM y
 | o::r,hr,S',M,hs,hM,y=>by
  simp only[Zjc]at y ⊢
  obtain⟨i,ho⟩:=List.getElem?_of_mem (hr o (by simp))
  exact ZjP (fun t ht=>ZaX ho ht) (fun S2 m2 jv aY y=>Zk7 h r (fun o ho=>hr o (by simp[ho])) _ _ (hs.trans jv) (leT.trans hM aY) y) y
theorem ZoG{E:Env}{S:St}{ids:List Nat}{T:TypeId}{x:Operand}{k k':Value→Prop}(h:∀v,k v→k' v)(hx:Zr2 E S ids T x k):Zr2 E S ids T x k':=by
 unfold Zr2 at *
 split at hx
 ·exact hx
 ·split at hx
  ·split at hx
   ·exact hx
   ·exact Zah (Zdd h) hx
  ·split at hx
   ·exact hx
   ·exact Zah (Zg0 h) hx
  ·exact hx
theorem Zje{E:Env}{S:St}{ids:List Nat}{D:List Nat}:∀{r:List Oper} {S1:St} {k k':St→Prop},(∀o∈r,∀t,o.dst=some t→t∈D)→(∀S',SameOut D S1 S'→k S'→k' S')→ZlT E S ids r S1 k→ZlT E S ids r S1 k'
 | [],S1,k,k',_,h,hx=>h _ (SameOut.refl _ S1) hx
 | o::r,S1,k,k',hd,h,hx=>by
  unfold ZlT at *
  split at hx
  ·refine ZoG (fun v y=>Zje (fun o ho=>hd o (by simp[ho])) (fun S' hs y=>h _ (SameOut.trans ?_ hs) y) y) hx
   exact(SameOut.refl _ S1).put (fun t e=>hd o (by simp) t e) _
  ·exact hx
theorem Zuh{E:Env}{id:Nat}{ops:Array Oper}{K K':St→Mem→Prop}{S:St}{m:Mem}(h:∀S' m',SameOut (Zar ops.toList) S S'→leD E id m m'→K S' m'→K' S' m')(hx:Zwh E id ops K S m):Zwh E id ops K' S m:=by
 unfold Zwh at *
 obtain⟨h1,h2⟩:=Zae hx
 refine Zaa h1 ?_
 simp only[Bool.and_eq_true]at h1
 have hH:E.thaw=true:=by
  have:=h1.2
  simp only[Zvq,Bool.and_eq_true]at this
  exact this.1.2.2
 split at h2
 ·exact h2
 ·rename_i o r lk
  split at h2
  ·rename_i q hq
   have bZ:∀o'∈ops.toList.drop (ops.size - E.lastK id),o'∈ops.toList:=fun o' ho'=>List.mem_of_mem_drop ho'
   rw[lk]at bZ
   have inD:∀o'∈ops.toList,∀t,o'.dst=some t→t∈Zar ops.toList:=fun o' ho' t ht=>by
    obtain⟨i,hi⟩:=List.getElem?_of_mem ho'
    exact ZaX hi ht
   refine Zje (D:=Zar ops.toList) (fun o' ho' t ht=>inD o' (List.mem_of_mem_take ho') t ht) (fun S1 hs y=>Zah (fun y=>?_) y) h2
   refine Zf9 (th:=true) (.inl rfl) (fun S2 m2 jv _ y=>?_) y
   refine Zk7 (S:=S) (m:=m) (fun S3 m3 rm _ y=>h _ _ rm (by unfold leD;rw[h1.1,hH];trivial) y) r (fun o' ho'=>bZ o' (by simp[ho'])) _ _ (hs.trans ?_) (by rw[hH];trivial) y
   exact jv.mono fun t ht=>by
    cases hd:o.dst with
    | none=>simp[hd,dl]at ht
    | some d=>simp[hd,dl]at ht;subst ht;exact inD o (bZ o (by simp)) _ hd
  ·exact h2
theorem ZjW(E:Env):ZdW E (ZjV E):=by
 intro id ops K K' S m h hx
 unfold ZjV at *
 cases hh:E.hot id with
 | true=>simp only[hh,cond_true]at hx ⊢;exact Zuh h hx
 | false=>
 simp only[hh,cond_false]at hx ⊢
 refine Zah (fun y=>?_) hx
 refine ZsN (fun f y=>?_) y
 cases lY:E.gb with
 | false=>
  simp only[lY,cond_false]at y ⊢
  exact Zk4 (fun S' μ hs y=>Znh (fun M hM y=>Zk6 h hs hM y) y) y
 | true=>
  simp only[lY,cond_true]at y ⊢
  exact Zk5 (fun S' μ hs y=>Znh (fun M hM y=>Zk6 h hs hM y) y) y
theorem Zgc{S S':St}{p q:Prop}(h:p→q):∀{l:List Nat},Zim S S' l p→Zim S S' l q
 | [],x=>h x
 | t::l,x=>by
  unfold Zim at *
  split at x
  ·exact⟨x.1,Zgc h x.2⟩
  ·exact Zgc h x
  ·exact x
theorem Zgd{S S':St}{p:Prop}:∀{l:List Nat},Zim S S' l p→p∧∀t∈l,(∃i off,S.env t=some (.loc i off)∧S'.L i=S.L i)∨∃v,S.env t=some (.v v)
 | [],x=>⟨x,by simp⟩
 | t::l,x=>by
  unfold Zim at x
  split at x
  ·rename_i i off he
   obtain⟨h1,h2⟩:=Zgd x.2
   refine⟨h1,fun t' ht=>?_⟩
   rcases List.mem_cons.1 ht with rfl|ht
   ·exact .inl ⟨i,off,he,x.1⟩
   ·exact h2 t' ht
  ·rename_i v he
   obtain⟨h1,h2⟩:=Zgd x
   refine⟨h1,fun t' ht=>?_⟩
   rcases List.mem_cons.1 ht with rfl|ht
   ·exact .inr ⟨v,he⟩
   ·exact h2 t' ht
  ·exact x.elim
theorem ZqV{S S':St}{ts ds:List Nat}(h:SameOut ds (ptrS S ts) S'):SameOut ds S (Zug S S' ts):=by
 intro t ht
 show(bif mem ts t then S.env t else S'.env t)=_
 cases hm:mem ts t with
 | true=>rfl
 | false=>
  rw[cond_false,h t ht]
  show(bif mem ts t then _ else S.env t)=_
  rw[hm];rfl
theorem ZpB{E:Env}{id:Nat}{ops:Array Oper}{ts:List Nat}{K K':St→Mem→Prop}{S:St}{m:Mem}(h:∀S' m',SameOut (Zar ops.toList) S S'→leD E id m m'→K S' m'→K' S' m')
  (y:Zwi ts (Zar ops.toList) (ZjV E id ops) K S m):Zwi ts (Zar ops.toList) (ZjV E id ops) K' S m:=by
 unfold Zwi at *
 split at y
 ·exact ZjW E id ops K K' S m h y
 ·exact Zah (fun y=>ZjW E id ops _ _ _ m (fun S' m' hs hl y=>Zgc (fun y=>h _ m' (ZqV hs) hl y) y) y) y
theorem ZjX(E:Env):ZdW E (ZaZ E):=by
 intro id ops K K' S m h hx
 refine ZjI (fun S1 m1 he hm y=>?_) hx
 have up:∀{m'},leD E id m1 m'→leD E id m m':=fun hl=>by
  unfold leD at hl ⊢
  cases hl':E.last id with
  | true=>rw[hl']at hl;exact leT.trans (.of hm) hl
  | false=>rw[hl']at hl;exact Mem.le_trans hm hl
 cases hl:E.last id with
 | false=>
  simp only[hl,cond_false,Zt2]at y ⊢
  exact ZpB (fun S' m' hs hl y=>h S' m' ((ZcW he).trans hs) (up hl) y) y
 | true=>
  simp only[hl,cond_true]at y ⊢
  unfold Zt2 at *
  split at y
  ·exact ZpB (fun S' m' hs hl y=>h S' m' ((ZcW he).trans hs) (up hl) y) y
  ·obtain⟨y1,y2⟩:=Zae y
   refine Zaa y1 ?_
   simp only[Bool.and_eq_true]at y1
   split at y2
   ·exact y2
   ·obtain⟨a,n,c,z1,z2,z3⟩:=y2
    refine⟨a,n,c,z1,z2,ZpB (fun S' m' hs _ z=>?_) z3⟩
    split at z
    ·exact z
    ·exact Zah (fun z zs hz=>h _ _ ((ZcW he).trans (fun t ht=>hs t ht)) (by unfold leD;rw[hl,y1.1];trivial) (z zs hz)) z
end Go.Eng
namespace Go.Eng
open Go Go.RowKit
theorem St.ext'{a b:St}(h1:a.env=b.env)(h2:a.L=b.L)(h3:a.ids=b.ids)(h4:a.tok=b.tok)(h5:a.tkeys=b.tkeys)(h6:a.gh=b.gh):a=b:=by
 cases a;cases b;simp at *;exact⟨h1,h2,h3,h4,h5,h6⟩
structure Ind (ops:Array Oper)(c d:DOp)(oc od:Oper):Prop where
 hc:ops.toList[c.i]?=some oc
 hd:ops.toList[d.i]?=some od
 cd:∀t,ZfI oc t=true→mem (od.looksAt ops) t=false
 dc:∀t,ZfI od t=true→mem (oc.looksAt ops) t=false
 ne:∀t,ZfI oc t=true→ZfI od t=false
 lcd:∀id,mem c.ws id=true→mem d.rs id=false
 ldc:∀id,mem d.ws id=true→mem c.rs id=false
 tk:∀k,ZqO c.tk k=true→ZqO d.tk k=false
 vcd:c.i ∉ d.vw
 vdc:d.i ∉ c.vw
 i:c.i≠d.i
theorem Zni{a b:List Nat}(h:ZwJ a b=true):∀i,mem a i=true→mem b i=false:=fun i hi=>by
 have:=List.all_eq_true.1 h i (ZaW.1 hi)
 simpa using this
theorem Zg6{a b:List Nat}(h:ZwB a b=true):∀i,i∈a→i∈b:=fun i hi=>ZaW.1 (List.all_eq_true.1 h i hi)
theorem Zjf{o:Oper}{l:List Nat}(h:Zne o l=true):∀t,ZfI o t=true→mem l t=false:=fun t ht=>by
 have:=Zbw.1 ht
 simpa[Zne,this]using h
theorem ZoH{a b:Oper}(h:Zvo a b=true):∀t,ZfI a t=true→ZfI b t=false:=fun t ht=>by
 have:=Zbw.1 ht
 simpa[Zvo,this]using h
theorem ZqW{a b:Option Nat}(h:Zxb a b=true):∀t,ZqO a t=true→ZqO b t=false:=fun t ht=>by
 have:=Zbw.1 ht
 simpa[Zxb,this]using h
theorem Zk8{ops:Array Oper}{c d:DOp}(h:Zpz ops c d=true):∃oc od,Ind ops c d oc od:=by
 unfold Zpz at h
 split at h
 ·rename_i oc od hc hd
  simp only[Bool.and_eq_true,Bool.not_eq_true']at h
  obtain⟨⟨⟨⟨h1,h2⟩,h3⟩,⟨h4,h5⟩,h6⟩,⟨h7,h8⟩,h9⟩:=h
  refine⟨oc,od,hc,hd,Zjf h1,Zjf h2,ZoH h3,Zni h4,Zni h5,ZqW h6,?_,?_,?_⟩
  ·intro hm;rw[ZaW.2 hm]at h7;cases h7
  ·intro hm;rw[ZaW.2 hm]at h8;cases h8
  ·intro e;rw[e,ZbZ]at h9;cases h9
 ·cases h
theorem Ind.symm'{ops:Array Oper}{c d:DOp}{oc od:Oper}(h:Ind ops c d oc od):Ind ops d c od oc:=by
 refine⟨h.hd,h.hc,h.dc,h.cd,?_,h.ldc,h.lcd,?_,h.vdc,h.vcd,h.i.symm⟩
 ·intro t ht
  cases hh:ZfI oc t with
  | false=>rfl
  | true=>rw[h.ne t hh]at ht;cases ht
 ·intro k hk
  cases hh:ZqO c.tk k with
  | false=>rfl
  | true=>rw[h.tk k hh]at hk;cases hk
section
variable {E:Env} {ops:Array Oper} {m0:Mem} {f:Fx} {c d:DOp} {oc od:Oper}
theorem ZsO(h:Ind ops c d oc od)(S S':St):ZoC ops d od (Znd c oc S S')=ZoC ops d od S:=by
 refine St.ext' (funext fun t=>?_) (funext fun id=>?_) rfl (funext fun k=>?_) rfl rfl
 ·simp only[ZoC,Znd]
  cases ht:ZfI oc t with
  | true=>simp[h.cd t ht]
  | false=>simp
 ·simp only[ZoC,Znd]
  cases ht:mem c.ws id with
  | true=>simp[h.lcd id ht]
  | false=>simp
 ·simp only[ZoC,Znd]
  cases ht:ZqO c.tk k with
  | true=>simp[h.tk k ht]
  | false=>simp
theorem ZsP(h:Ind ops c d oc od)(hw:∀id,id∈d.ws→id∈d.rs)(S Sc Sd:St):Znd c oc (Znd d od S Sd) Sc=Znd d od (Znd c oc S Sc) Sd:=by
 refine St.ext' (funext fun t=>?_) (funext fun id=>?_) rfl (funext fun k=>?_) rfl rfl
 ·simp only[Znd]
  cases ht:ZfI oc t with
  | true=>simp[h.ne t ht]
  | false=>simp
 ·simp only[Znd]
  cases ht:mem c.ws id with
  | true=>
   have:mem d.ws id=false:=by
    cases hh:mem d.ws id with
    | false=>rfl
    | true=>
     have h1:=h.lcd id ht
     rw[ZaW.2 (hw id (ZaW.1 hh))]at h1;cases h1
   simp[this]
  | false=>simp
 ·simp only[Znd]
  cases ht:ZqO c.tk k with
  | true=>simp[h.tk k ht]
  | false=>simp
theorem ZsQ{μ:Nat→Mem}{i j:Nat}(h:i≠j)(a b:Mem):upd (upd μ i a) j b=upd (upd μ j b) i a:=by
 funext k
 simp only[upd]
 by_cases hk:k=j
 ·subst hk;simp[Zaq (Ne.symm h)]
 ·simp[Zaq hk]
theorem Zh3(h:Ind ops c d oc od)(S S':St)(μ:Nat→Mem)(m':Mem)(K:St→Mem→Prop):ZrR E ops m0 f d (ZoD ops c S S') (upd μ c.i m') K=ZrR E ops m0 f d S μ K:=by
 unfold ZrR ZoD
 simp only[h.hd,h.hc,ZsO h,ZqR h.vcd]
theorem Znj(S:St)(μ:Nat→Mem)(K:St→(Nat→Mem)→Prop):ZjT E ops m0 f d S μ K=ZrR E ops m0 f d S μ fun S' m'=>K (ZoD ops d S S') (upd μ d.i m'):=rfl
def Zxj(E:Env)(ops:Array Oper)(m0:Mem)(f:Fx)(d:DOp)(S:St)(μ:Nat→Mem)(S':St)(m':Mem):Prop:=∀K:St→Mem→Prop,ZrR E ops m0 f d S μ K→K S' m'
theorem ZpC{K:St→(Nat→Mem)→Prop}{S':St}{m':Mem}(hw:∀id,id∈d.ws→id∈d.rs):∀{r1 r2:List DOp} {S:St} {μ:Nat→Mem},(∀c∈r1,Zpz ops c d=true)→Zie E ops m0 f (r1++d::r2) K S μ→Zxj E ops m0 f d S μ S' m'→
  Zie E ops m0 f (r1++r2) K (ZoD ops d S S') (upd μ d.i m')
 | [],r2,S,μ,_,h,ho=>ho _ h
 | c::r1,r2,S,μ,hi,h,ho=>by
  obtain⟨oc,od,fH⟩:=Zk8 (hi c (by simp))
  simp only[List.cons_append,Zie,Znj]at h ⊢
  rw[Zh3 fH.symm']
  refine Zef (fun Sc mc y=>?_) h
  have ih:=ZpC (S':=S') (m':=m') hw (r1:=r1) (r2:=r2) (fun c hc=>hi c (by simp[hc])) y (fun K hK=>by rw[Zh3 fH]at hK;exact ho K hK)
  rw[ZsQ fH.i]at ih
  have e:ZoD ops c (ZoD ops d S S') Sc=ZoD ops d (ZoD ops c S Sc) S':=by
   simp only[ZoD,fH.hc,fH.hd]
   exact ZsP fH hw S Sc S'
  rw[e];exact ih
end
theorem ZoI{F:Fence}(hF:FOk F){n:Nat}{P:Program}{o:Oper}{a:Act}{w:World}{p:Prop}(h:o.wpIn F n P a w (fun _ _=>p) (fun _ _ _=>p)):p:=by
 have cM:∀k,F.room k:=fun k d hd=>by rw[hF.depth]at hd;cases hd
 have h:=h.2
 generalize (o.semAt F.round a.eval).run P w=r at h
 cases r with
 | ok x w'=>
  cases x <;> simp only[Oper.uponIn]at h
  all_goals first
   | exact h
   | exact h.elim
   | (obtain⟨e,w'',fr,h,_⟩:=h.2.2 [] (cM _)
      cases e <;> first
       | exact h
       | (obtain⟨_,_,h⟩:=h;exact h))
   | (obtain⟨v,w'',h,_⟩:=h.2 default [] (cM _)
      exact h)
   | (obtain⟨e,w'',h,_⟩:=h.2.2 default [] (cM _)
      cases e <;> first
       | exact h
       | (obtain⟨_,_,h⟩:=h;exact h))
 | halt x w'=>
  cases x <;> simp only[Oper.uponIn]at h
  all_goals first
   | exact h
   | exact h.elim
end Go.Eng
namespace Go.Eng
open Go Go.RowKit
theorem ZqX{a b:St}(h:∀id,a.L id=b.L id)(sv:SV):a.den sv=b.den sv:=by
 cases sv <;> simp only[St.den,h]
section
variable {C:Ctx} {E:Env} {ops:Array Oper} {m0:Mem} {f:Fx} {d:DOp} {o:Oper} {S:St} {μ:Nat→Mem} {A:Mem} {a:Act} {w:World}
theorem Zui(oK:∀i,i∈Znc d.rs o→i∈d.ws)(lI:∀i,i∈d.ws→i∈d.rs)(dL:∀i,i∈d.ws→i∈S.ids)(fS:∀k,d.tk=some k→k∈S.tkeys)(hr:Rel C S A a w)
  {S2:St} {A2:Mem} {a':Act} {w':World} {y:St×Mem} {g:Bool} {m M:Mem} (h:Rel C S2 A2 a' w') (ho:Out (Znc d.rs o) d.tk g m M o.dst (ZoC ops d o S) S y (S2,A2)):Rel C (Znd d o S y.1) A2 a' w':=by
 have hL:∀id,(Znd d o S y.1).L id=S2.L id:=by
  intro id
  simp only[Znd]
  cases hm:mem d.ws id with
  | true=>
   simp only[cond_true]
   rcases ho.L id with⟨_,e⟩|⟨e1,e2⟩
   ·exact e
   ·rw[e1,e2]
    simp[ZoC,ZaW.2 (lI id (ZaW.1 hm))]
  | false=>
   simp only[cond_false]
   rcases ho.L id with⟨hc,_⟩|⟨e1,e2⟩
   ·rw[ZaW.2 (oK id hc)]at hm;cases hm
   ·exact e2.symm
 have hT:∀k,(Znd d o S y.1).tok k=S2.tok k:=by
  intro k
  simp only[Znd]
  cases hm:ZqO d.tk k with
  | true=>
   simp only[cond_true]
   rcases ho.tok k with⟨_,e⟩|⟨e1,e2⟩
   ·exact e
   ·rw[e1,e2]
    simp[ZoC,hm]
  | false=>
   simp only[cond_false]
   rcases ho.tok k with⟨hc,_⟩|⟨e1,e2⟩
   ·rw[Zbw.2 hc]at hm;cases hm
   ·exact e2.symm
 refine h.restrict ho.gh2.symm (fun id x hx=>by rw[←hL];exact hx) (fun k t ht=>.inl (by rw[←hT];exact ht)) ?_ ?_ ?_
 ·intro i sv he
  have he':S2.env i=some sv:=by
   simp only[Znd]at he
   cases hd:ZfI o i with
   | true=>
    simp only[hd,cond_true]at he
    exact ho.env1 i sv (Zbw.1 hd) he
   | false=>
    simp only[hd,cond_false]at he
    have:o.dst≠some i:=fun e=>by rw[show ZfI o i=true from Zbw.2 e]at hd;cases hd
    exact(ho.env2 i this).trans he
  obtain⟨v,h1,h2⟩:=h.env i sv he'
  exact⟨v,by rw[ZqX hL];exact h1,h2⟩
 ·intro id x hx
  show id∈S.ids
  cases hm:mem d.ws id with
  | true=>exact dL id (ZaW.1 hm)
  | false=>simp only[Znd,hm,cond_false]at hx;exact hr.ids id x hx
 ·intro k t ht
  show k∈S.tkeys
  cases hm:ZqO d.tk k with
  | true=>exact fS k (Zbw.1 hm)
  | false=>simp only[Znd,hm,cond_false]at ht;exact hr.tkeys k t ht
structure DOk (E:Env)(ops:Array Oper)(d:DOp)(o:Oper):Prop where
 at_:ops.toList[d.i]?=some o
 fp:ZsL E d.rs d.tk o=true
 chg:∀i,i∈Znc d.rs o→i∈d.ws
 ws:∀i,i∈d.ws→i∈d.rs
theorem ZpD(hE:E.ok){F:Fence}(hF:FOk F)(hY:YOk E C)(bA:ZkT C.n ops.toList=true)(gp:E.fix=none)(hd:DOk E ops d o)(dL:∀i,i∈d.ws→i∈S.ids)(fS:∀k,d.tk=some k→k∈S.tkeys)
  (hr:Rel C S A a w) (h0:m0.le A) (hv:∀j,j∈d.vw→(μ j).le A) (h:ZrR E ops m0 f d S μ (fun _ _=>True)) {n:Nat} {Q:Exit→Act→World→Prop} {next:Act→World→Prop}
  (hK:∀S' m' A' a' w',Zxj E ops m0 f d S μ S' m'→Rel C (ZoD ops d S S') A' a' w'→A.le A'→m'.le A'→(ZdB o=false→A'=A)→next a' w'):wpOpIn F n E.P ops Q d.i next a w:=by
 unfold ZrR at h
 simp only[hd.at_]at h
 obtain⟨V,rn,hV⟩:=ZoF (l:=d.vw) h0 hv
 have lZ:Less (ZoC ops d o S) S:=⟨fun t sv ht=>by
  simp only[ZoC]at ht
  cases hm:mem (o.looksAt ops) t <;> simp[hm]at ht;exact ht,fun id x hx=>by
  simp only[ZoC]at hx
  cases hm:mem d.rs id <;> simp[hm]at hx;exact hx⟩
 have h2:opG E ops o S A (fun S2 A2=>∃y1:St×Mem,(∀K:St×Mem→Prop,opG (E.fixed (f d.i)) ops o (ZoC ops d o S) V (fun S' m'=>K (S',m'))→K y1)∧Out (Znc d.rs o) d.tk (ZdB o) V A o.dst (ZoC ops d o S) S y1 (S2,A2)):=
  ZvD (rs:=d.rs) (tk:=d.tk) w gp lZ (fun id x hx=>by
   simp only[ZoC]at hx
   cases hm:mem d.rs id with
   | true=>exact ZaW.1 hm
   | false=>simp[hm]at hx) (fun id cL=>by simp[ZoC,ZaW.2 cL]) (fun k hk=>by simp[ZoC,Zbw.2 hk]) rn hd.fp (hV _ h)
 have h3:=Zf9 (th:=false) (.inr (Zk3 hd.fp)) (K':=fun S2 A2=>A.le A2∧∃y1:St×Mem,(∀K:St×Mem→Prop,opG (E.fixed (f d.i)) ops o (ZoC ops d o S) V (fun S' m'=>K (S',m'))→K y1)∧Out (Znc d.rs o) d.tk (ZdB o) V A o.dst (ZoC ops d o S) S y1 (S2,A2)) (fun S' m' _ hm y=>⟨hm,y⟩) h2
 have ho':ops[d.i]?=some o:=by simpa using hd.at_
 have:=Zdc hE hF hY (Zcq bA d.i o hd.at_) hr h3 (n:=n) (Q:=Q) (next:=next) (fun S2 A2 a' w' ⟨hA,y1,g1,g2⟩ bB=>by
  refine hK y1.1 y1.2 A2 a' w' ?_ ?_ hA g2.le (fun hg=>(g2.same hg).2)
  ·intro K oL
   unfold ZrR at oL
   simp only[hd.at_]at oL
   exact g1 (fun y=>K y.1 y.2) (hV _ oL)
  ·simp only[ZoD,hd.at_]
   exact Zui hd.chg hd.ws dL fS hr bB g2)
 unfold wpOpIn
 simp only[ho']
 exact this
end
theorem ZjY(ops:Array Oper)(d:DOp)(S S':St):(ZoD ops d S S').ids=S.ids∧(ZoD ops d S S').tkeys=S.tkeys:=by
 unfold ZoD
 cases ops.toList[d.i]? <;> exact⟨rfl,rfl⟩
theorem ZpE(μ:Nat→Mem)(i:Nat)(m:Mem):upd μ i m i=m:=by simp[upd]
theorem Zuj{μ:Nat→Mem}{i j:Nat}(h:j≠i)(m:Mem):upd μ i m j=μ j:=by simp[upd,Zaq h]
def Zvr:(Nat→Prop)→List DOp→Prop
 | _,[]=>True
 | D,c::r=>(∀j,j∈c.vw→D j)∧Zvr (fun j=>D j∨j=c.i) r
theorem extract{C:Ctx}{E:Env}(hE:E.ok){F:Fence}(hF:FOk F)(hY:YOk E C){ops:Array Oper}(bA:ZkT C.n ops.toList=true)(gp:E.fix=none){m0:Mem}{f:Fx}{d:DOp}{r2:List DOp}{K:St→(Nat→Mem)→Prop}:
  ∀{r1:List DOp} {D:Nat→Prop} {S:St} {μ:Nat→Mem} {A:Mem} {a:Act} {w:World},Rel C S A a w→m0.le A→(∀j,D j→(μ j).le A)→Zvr D r1→(∀c∈r1,(∃o,DOk E ops c o)∧(∀i,i∈c.ws→i∈S.ids)∧(∀k,c.tk=some k→k∈S.tkeys))→(∀c∈r1,Zpz ops c d=true)→
   Zie E ops m0 f (r1++d::r2) K S μ→ZrR E ops m0 f d S μ (fun _ _=>True)
 | [],D,S,μ,A,a,w,hr,h0,hD,ht,hc,hi,h=>Zef (fun _ _ _=>trivial) h
 | c::r1,D,S,μ,A,a,w,hr,h0,hD,ht,hc,hi,h=>by
  obtain⟨oc,od,fH⟩:=Zk8 (hi c (by simp))
  obtain⟨⟨o,cB⟩,dL,fS⟩:=hc c (by simp)
  simp only[List.cons_append,Zie,Znj]at h
  have key:=ZpD (n:=0) (next:=fun _ _=>ZrR E ops m0 f d S μ (fun _ _=>True)) (Q:=fun _ _ _=>ZrR E ops m0 f d S μ (fun _ _=>True)) hE hF hY bA gp cB dL fS hr h0 (fun j hj=>hD j (ht.1 j hj)) (Zef (fun _ _ _=>trivial) h) (fun S' m' A' a' w' cU bB hA hm _=>by
   have:=extract hE hF hY bA gp (r1:=r1) (D:=fun j=>D j∨j=c.i) bB (Mem.le_trans h0 hA) (fun j hj=>by
    by_cases e:j=c.i
    ·subst e;rw[ZpE];exact hm
    ·rw[Zuj e];exact Mem.le_trans (hD j (hj.resolve_right e)) hA) ht.2 (fun c' hc'=>by
     obtain⟨h1,h2,h3⟩:=hc c' (by simp[hc'])
     exact⟨h1,fun i hi=>by rw[(ZjY ops c S S').1];exact h2 i hi,fun k hk=>by rw[(ZjY ops c S S').2];exact h3 k hk⟩) (fun c' hc'=>hi c' (by simp[hc'])) (cU _ h)
   rwa [Zh3 fH]at this)
  unfold wpOpIn at key
  have ho':ops[c.i]?=some o:=by simpa using cB.at_
  simp only[ho']at key
  split at key
  ·exact ZoI hF key
  ·exact key.2
end Go.Eng
namespace Go.Eng
open Go Go.RowKit
theorem Zch{l:Array Bool}{i:Nat}(h:i < l.size):(l.setIfInBounds i true).getD i false=true:=by simp[Array.getD,h]
theorem ZpF{E:Env}(hE:E.ok){F:Fence}(hF:FOk F){C:Ctx}(hY:YOk E C){ops:Array Oper}(bA:ZkT C.n ops.toList=true){n:Nat}{Q:Exit→Act→World→Prop}{K:St→Mem→Prop}{i0:Nat}
  (over:∀(fuel:Nat)(listed:Array Bool)(S':St)(m':Mem)(a':Act)(w':World),listed.size=ops.size→(∀j,j < ops.size→listed.getD j false=true)→K S' m'→Rel C S' m' a' w'→wpAnyIn F n E.P .any ops Q fuel listed a' w')
  (fX:∀i,i0≤i→i < ops.size→∃o,ops[i]?=some o∧(∀j,i0≤j→j < i→j∈Zbc o)∧(∀j∈Zbc o,j < i)):
  ∀(r:List Oper)(i:Nat),ops.toList.drop i=r→i0≤i→i≤ops.size→∀(fuel:Nat)(listed:Array Bool)(S':St)(m':Mem)(a':Act)(w':World),r.length≤fuel→listed.size=ops.size→(∀j,j < i→listed.getD j false=true)→(∀j,i≤j→listed.getD j false=false)→Zjc E ops K r S' m'→Rel C S' m' a' w'→wpAnyIn F n E.P .any ops Q fuel listed a' w':=by
 intro r
 induction r with
 | nil=>
  intro i hi h1 h2 fuel listed S' m' a' w' _ bT bM _ hk bB
  have:ops.size≤i:=by
   have:=congrArg List.length hi
   simp at this
   omega
  exact over fuel listed S' m' a' w' bT (fun j hj=>bM j (by omega)) hk bB
 | cons o r ih=>
  intro i hi h1 h2 fuel listed S' m' a' w' iE bT bM dE hk bB
  have eO:i < ops.size:=by
   have:=congrArg List.length hi
   simp at this
   omega
  obtain⟨o',ho',ro,fT⟩:=fX i h1 eO
  have jZ:ops.toList[i]?=some o:=by
   have:=congrArg (fun l=>l[0]?) hi
   simpa using this
  have oM:o'=o:=by
   have:ops.toList[i]?=some o':=by simpa using ho'
   rw[jZ]at this;cases this;rfl
  subst oM
  have oN:ops.toList.drop (i+1)=r:=by
   have:=congrArg (List.drop 1) hi
   simpa[List.drop_drop,Nat.add_comm]using this
  obtain⟨fuel,rfl⟩:∃k,fuel=k+1:=⟨fuel - 1,by simp at iE;omega⟩
  have gY:listed.getD i false=false:=dE i (Nat.le_refl _)
  have fR:i < listed.size:=by omega
  refine⟨fun cH=>?_,fun q hq=>?_⟩
  ·exfalso
   have:i∈Region.ready .any ops listed:=mem_ready.2 ⟨by simpa[Array.getD,fR]using gY,o',ho',fun e he hb=>?_⟩
   ·rw[cH]at this;simp at this
   ·have hm:e.on∈Zbc o':=by
     simp only[Zbc,List.mem_map,List.mem_filter]
     exact⟨e,⟨by simpa using he,hb⟩,rfl⟩
    exact bM _ (fT _ hm)
  ·obtain⟨l4,o2,eR,fI⟩:=mem_ready.1 hq
   have hq':q < ops.size:=(Array.getElem?_eq_some_iff.1 eR).1
   have:q=i:=by
    by_cases h3:q < i
    ·have h4:=bM q h3
     have hl:q < listed.size:=by omega
     simp[Array.getD,hl]at l4 h4
     rw[l4]at h4;cases h4
    ·by_cases h4:q=i
     ·exact h4
     ·exfalso
      obtain⟨o3,kH,jy,_⟩:=fX q (by omega) hq'
      rw[kH]at eR;cases eR
      have:=jy i h1 (by omega)
      simp only[Zbc,List.mem_map,List.mem_filter]at this
      obtain⟨e,⟨he,hb⟩,h5⟩:=this
      have:=fI e (by simpa using he) hb
      rw[h5,gY]at this;cases this
   subst this
   simp only[Zjc]at hk
   have:=ZhY hE hF hY (Zcq bA _ o' jZ) bB hk (n:=n) (Q:=Q) (next:=wpAnyIn F n E.P .any ops Q fuel (listed.setIfInBounds q true)) (fun S2 m2 a2 w2 eH fJ=>ih (q+1) oN (by omega) (by omega) fuel _ S2 m2 a2 w2 (by simp at iE;omega) (by simpa using bT) (fun j hj=>by
    by_cases e:j=q
    ·subst e;simp[Array.getD,fR]
    ·rw[getD_set_ne false (Ne.symm e)]
     exact bM j (by omega)) (fun j hj=>by
    rw[getD_set_ne false (by omega)]
    exact dE j (by omega)) eH fJ)
   unfold wpOpIn
   simp only[ho']
   exact this
def St.wenv(S:St)(e:Nat→Option SV):St:={ S with env:=e }
theorem Zg7(S:St)(e:Nat→Option SV):∀ids,Zbb (S.wenv e) ids=Zbb S ids
 | []=>rfl
 | id::l=>by simp only[Zbb,Zg7 S e l];rfl
theorem Zjg(S:St)(e:Nat→Option SV):∀ks,ZdG (S.wenv e) ks=ZdG S ks
 | []=>rfl
 | q::l=>by simp only[ZdG,Zjg S e l];rfl
theorem ZpG(S:St)(e:Nat→Option SV)(b:Nat)(k:Prop):∀l,nfz (S.wenv e) b l k=nfz S b l k
 | []=>rfl
 | id::l=>by simp only[nfz,ZpG S e b k l];rfl
theorem ZpH(S:St)(e:Nat→Option SV)(b:Nat)(ks:List Nat):∀l,ntk (S.wenv e) b ks l=ntk S b ks l
 | []=>rfl
 | k::l=>by simp only[ntk,ZpH S e b ks l];rfl
theorem Zk9(S:St)(e:Nat→Option SV):∀(ids:List Nat)(bxs:List Box) (css:List (List Value)),Zcw (S.wenv e) ids bxs css=(Zcw S ids bxs css).wenv e
 | [],_,_=>by simp[Zcw]
 | id::ids,[],_=>by simp[Zcw]
 | id::ids,x::xs,[]=>by simp[Zcw]
 | id::ids,x::xs,cs::css=>by simp only[Zcw,Zk9 S e ids xs css];rfl
theorem ZsR{S:St}{e:Nat→Option SV}{x:Operand}(h:∀t,x=.tmp t→e t=S.env t):(S.wenv e).val x=S.val x:=by
 unfold St.val
 have:(S.wenv e).ev x=S.ev x:=by
  cases x with
  | tmp t=>exact h t rfl
  | _=>rfl
 rw[this]
 cases S.ev x with
 | none=>rfl
 | some sv=>cases sv <;> rfl
theorem Zuk{S:St}{e:Nat→Option SV}{x:Operand}(h:∀t,x=.tmp t→e t=S.env t):(S.wenv e).ev x=S.ev x:=by
 cases x with
 | tmp t=>exact h t rfl
 | _=>rfl
theorem ZpI{S:St}{e:Nat→Option SV}{k:List Value→Prop}:∀{l:List Operand},(∀x∈l,∀t,x=.tmp t→e t=S.env t)→wvs (S.wenv e) l k=wvs S l k
 | [],_=>rfl
 | x::l,h=>by
  simp only[wvs,wv]
  rw[ZsR (h x (by simp))]
  cases S.val x with
  | none=>rfl
  | some v=>exact ZpI fun y hy=>h y (by simp[hy])
theorem Zjh{S:St}{e:Nat→Option SV}:∀{l:List Operand},(∀x∈l,∀t,x=.tmp t→e t=S.env t)→ZcC (S.wenv e) l=ZcC S l
 | [],_=>rfl
 | x::l,h=>by
  simp only[ZcC]
  rw[Zuk (h x (by simp)),Zjh fun y hy=>h y (by simp[hy])]
  rfl
theorem Zla:∀{n:Nat} {k k':List (List Value)→Prop},(∀v,v.length=n→k v→k' v)→allL n k→allL n k'
 | 0,k,k',h,hx=>h _ rfl hx
 | n+1,k,k',h,hx=>fun cs=>Zla (fun l hl hx=>h _ (by simp[hl]) hx) (hx cs)
theorem Znk{E:Env}{S:St}{e:Nat→Option SV}{m:Mem}{rt:TypeId}{g:FuncId}{args:List Value}{ids:List Nat}{ks:List (Nat×Nat)}{K:Value→St→Mem→Prop}
  (h:Zij E (S.wenv e) m rt g args ids ks K):Zij E S m rt g args ids ks fun v S' m'=>K v (S'.wenv e) m'∧S'.env=S.env∧∀id,id ∉ ids→S'.L id=S.L id:=by
 unfold Zij at *
 rw[Zg7]at h
 cases hb:Zbb S ids with
 | none=>simp[hb]at h
 | some bxs=>
  simp only[hb]at h ⊢
  cases hm:E.m0 with
  | none=>simp[hm]at h
  | some m0=>
   simp only[hm]at h ⊢
   obtain⟨h1,Y,R,h2,h3,h4,h5,h6⟩:=Zae h
   rw[Zjg]at h2 h3 h4 h6
   refine Zaa h1 ⟨Y,R,h2,h3,fun b hb=>?_,h5,?_⟩
   ·rcases h4 b hb with q|⟨q1,q2,q3⟩
    ·exact .inl q
    ·have e1:∀k,nfz (S.wenv e) b S.ids k=nfz S b S.ids k:=fun k=>ZpG S e b k S.ids
     have e2:ntk (S.wenv e) b (ks.map (·.1)) S.tkeys=ntk S b (ks.map (·.1)) S.tkeys:=ZpH S e b _ S.tkeys
     refine .inr ⟨q1,q2,?_⟩
     have q3:nfz (S.wenv e) b S.ids (ntk (S.wenv e) b (ks.map (·.1)) S.tkeys):=q3
     rw[e1,e2]at q3;exact q3
   ·simp only[Bool.and_eq_true]at h1
    have dQ:=ZaE h1.2.1
    have bQ:=(ZbU hb).1
    refine Shape.all_mono _ (fun v z m' hm' hn=>?_) h6
    refine Zla (fun css hc z=>ZhX (fun tvs z hR=>⟨?_,?_,fun id cL=>?_⟩) z) (z m' hm' hn)
    ·have:=z hR
     rw[Zk9]at this;exact this
    ·rw[ZcB]
    ·rcases Zea (S:=S) dQ bQ hc id with⟨_,q⟩|⟨i,x,cs,q,_⟩
     ·exact q
     ·exact absurd (List.mem_of_getElem? q) cL
theorem ZsS{l:List Value}{n:Nat}{k:Value→Prop}(h:ZrO l n k):∃v,k v∧ZrO l n (·=v):=by
 obtain⟨v,h1,h2⟩:=ZgL h
 exact⟨v,h2,Zag h1 rfl⟩
theorem Znl{i:TI}{x:Box}{off:Nat}{k:Value→Prop}(h:Zcd i x off k):∃v,k v∧Zcd i x off (·=v):=by
 unfold Zcd at *
 cases ha:i.agg with
 | true=>
  simp only[ha,cond_true]at *
  cases hf:(x.full&&(Nat.beq x.cap i.size&&Nat.beq off 0))with
  | true=>
   simp only[hf,cond_true]at *
   exact⟨_,h,rfl⟩
  | false=>
   simp only[hf,cond_false]at *
   obtain⟨h1,h2⟩:=Zae h
   exact⟨_,h2,Zaa h1 rfl⟩
 | false=>
  simp only[ha,cond_false]at *
  exact ZsS h
theorem Znm{i:TI}{m:Mem}{b o:Nat}{k:Value→Prop}(h:ZcA i m b o k):∃v,k v∧∀m':Mem,m.le m'→ZcA i m' b o (·=v):=by
 unfold ZcA at *
 cases ha:i.agg with
 | false=>
  simp only[ha,cond_false]at *
  obtain⟨v,h1,h2⟩:=h
  exact⟨v,h2,fun m' hm=>⟨v,hm _ _ _ h1,rfl⟩⟩
 | true=>
  simp only[ha,cond_true]at *
  cases hb:Nat.ble i.size 16 with
  | true=>
   simp only[hb,cond_true]at *
   obtain⟨vs,h1,h2,h3⟩:=ZhU h
   exact⟨_,h3,fun m' hm=>ZjF vs h1 ⟨fun j v hv=>hm _ _ _ (h2 j v hv),rfl⟩⟩
  | false=>
   simp only[hb,cond_false]at *
   obtain⟨vs,h1,h2,h3⟩:=h
   exact⟨_,h3,fun m' hm=>⟨vs,h1,fun j v hv=>hm _ _ _ (h2 j v hv),rfl⟩⟩
def Zxk(E:Env)(S:St)(ids:List Nat)(o:Oper)(X:St):Prop:=
 ∃T x d v,o.op=.load T x∧o.dst=some d∧X.env d=some (.v v)∧∀(S':St)(m':Mem),(∀t,x=.tmp t→S'.env t=S.env t)→(∀id,id ∉ ids→S'.L id=S.L id)→(∀mm:Mem,E.m0=some mm→mm.le m')→ZfA E S' m' T x (·=v)
theorem ZqY{E:Env}{S:St}{ids:List Nat}{T:TypeId}{x:Operand}{k:Value→Prop}(h:Zr2 E S ids T x k):
  ∃v,k v∧∀(S':St)(m':Mem),(∀t,x=.tmp t→S'.env t=S.env t)→(∀id,id ∉ ids→S'.L id=S.L id)→(∀mm:Mem,E.m0=some mm→mm.le m')→ZfA E S' m' T x (·=v):=by
 have iG:∀S':St,(∀t,x=.tmp t→S'.env t=S.env t)→S'.ev x=S.ev x:=fun S' h=>by
  cases x with
  | tmp t=>exact h t rfl
  | _=>rfl
 unfold Zr2 at h
 cases ht:E.tt T with
 | none=>simp[ht]at h
 | some i=>
  simp only[ht]at h
  split at h
  ·rename_i id off he
   cases hL:S.L id with
   | none=>simp[hL]at h
   | some bx=>
    simp only[hL]at h
    obtain⟨h1,h2⟩:=Zae h
    obtain⟨v,h3,h4⟩:=Znl h2
    refine⟨v,h3,fun S' m' q1 q2 q3=>?_⟩
    have cL:id ∉ ids:=fun hm=>by rw[ZaW.2 hm]at h1;cases h1
    unfold ZfA
    simp only[ht,iG S' q1,he,q2 id cL,hL]
    exact h4
  ·rename_i v0 he
   cases hm:E.m0 with
   | none=>simp[hm]at h
   | some m0=>
    simp only[hm]at h
    obtain⟨h1,h2⟩:=Zae h
    simp only[Bool.and_eq_true,Option.isNone_iff_eq_none]at h1
    obtain⟨v,h3,h4⟩:=Znm h2
    refine⟨v,h3,fun S' m' q1 q2 q3=>?_⟩
    unfold ZfA
    simp only[ht,iG S' q1,he,h1.2]
    exact Zaa h1.1 (h4 m' (q3 m0 rfl))
  ·exact h.elim
theorem Zji{E:Env}{S:St}{ids:List Nat}:∀{r:List Oper} {S1:St} {k:St→Prop},Za6 (Zar r)=true→(∀o∈r,o.dst.isSome=true)→ZlT E S ids r S1 k→
  ∃e:Nat→Option SV,k (S1.wenv e)∧(∀o∈r,Zxk E S ids o (S1.wenv e))∧∀t,t ∉ Zar r→e t=S1.env t
 | [],S1,k,_,_,h=>⟨S1.env,h,by simp,fun _ _=>rfl⟩
 | o::r,S1,k,hn,hd,h=>by
  have ll:=hd o (by simp)
  obtain⟨d,l5⟩:=Option.isSome_iff_exists.1 ll
  unfold ZlT at h
  split at h
  ·rename_i T x ho
   obtain⟨v,h1,h2⟩:=ZqY h
   have hn':=ZaE hn
   simp only[Zar,l5,List.nodup_cons]at hn'
   have kg:Za6 (Zar r)=true:=by
    simp only[Zar,l5,Za6,Bool.and_eq_true]at hn
    exact hn.2
   obtain⟨e,g1,g2,g3⟩:=Zji kg (fun o ho=>hd o (by simp[ho])) h1
   rw[l5]at g1 g2 g3
   refine⟨e,g1,fun o' ho'=>?_,fun t ht=>?_⟩
   ·rcases List.mem_cons.1 ho' with rfl|ho'
    ·refine⟨T,x,d,v,ho,l5,?_,h2⟩
     show e d=_
     rw[g3 d hn'.1]
     simp[St.put,ZbZ]
    ·exact g2 o' ho'
   ·simp only[Zar,l5,List.mem_cons,not_or]at ht
    rw[g3 t ht.2]
    simp[St.put,Zaq ht.1]
  ·exact h.elim
theorem Zh4{α:Type}{l:List α}(h:ZqQ l=true):l=[]:=by
 cases l with
 | nil=>rfl
 | cons=>cases h
theorem Znn{E:Env}{ops:Array Oper}{o:Oper}{q:Go.Call}{f:Operand}{S:St}{e:Nat→Option SV}{m:Mem}{K:St→Mem→Prop}(hg:o.guard=none)(hq:o.op=.call q)(hf:q.callee=.value f)(gX:(Zeb E o.dst).isSome=true)(iF:Zdz E o.dst=[])
  (ll:o.dst.isSome=true) {g0:FuncId} (rp:f=.func g0) (ha:∀x∈q.args.toList,∀t,x=.tmp t→e t=S.env t) (hl:ZcC (S.wenv e) q.args.toList=[]) (h:opG E ops o (S.wenv e) m K):
  opG E ops o S m fun S' m'=>∃S2,K S2 m'∧S'.wenv S2.env=S2∧(∀t,o.dst≠some t→S2.env t=e t∧S'.env t=S.env t)∧(∀t,o.dst=some t→S'.env t=S2.env t)∧∀id,id ∉ Zc3 E o.dst→S2.L id=S.L id:=by
 unfold opG at *
 simp only[hg]at h ⊢
 unfold opW at *
 simp only[hq,hf]at h ⊢
 unfold ZtU at *
 simp only[iF]at h ⊢
 obtain⟨ks,js⟩:=Option.isSome_iff_exists.1 gX
 obtain⟨d,hd⟩:=Option.isSome_iff_exists.1 ll
 unfold ZtH at *
 subst rp
 simp only[St.ev]at h ⊢
 have hl':ZcC S q.args.toList=[]:=by rw[←Zjh (e:=e) ha];exact hl
 simp only[js]at h ⊢
 cases cG:E.fix with
 | some f=>simp[cG]at h
 | none=>
  simp only[cG,Option.isSome_none,cond_false]at h ⊢
  rw[ZpI ha]at h
  refine Zcc (fun vs y=>?_) h
  rw[hl]at y
  rw[hl']
  refine Zi5 (fun v S' m' _ z=>?_) (Znk y)
  obtain⟨z1,z2,z3⟩:=z
  rw[hd]at z1 ⊢
  refine⟨_,z1,rfl,fun t ht=>?_,fun t ht=>?_,fun id cL=>?_⟩
  ·have:t≠d:=fun e=>ht (by rw[e])
   simp[St.put,Zaq this,St.wenv,z2]
  ·cases ht
   simp[St.put,ZbZ,St.wenv]
  ·exact z3 id (by simpa[hd]using cL)
theorem Zjj{p q:Nat→Bool}{i:Nat}(hp:p i=true)(hq:∀j,q j=(p j&&!Nat.beq j i)):∀{l:List Nat},l.Nodup→i∈l→l.countP q+1=l.countP p
 | [],_,h=>by cases h
 | x::l,hn,hi=>by
  rw[List.nodup_cons]at hn
  rw[List.countP_cons,List.countP_cons]
  by_cases e:x=i
  ·subst e
   have:l.countP q=l.countP p:=List.countP_congr fun j hj=>by
    have:j≠x:=fun e=>hn.1 (e ▸ hj)
    rw[hq,Zaq this];simp
   rw[this,hq,ZbZ,hp];simp
  ·have ih:=Zjj hp hq hn.2 ((List.mem_cons.1 hi).resolve_left fun h=>e h.symm)
   rw[hq x,Zaq e]
   simp only[Bool.not_false,Bool.and_true]
   omega
def unl(ops:Array Oper)(c:Nat)(listed:Array Bool)(t:Nat):Bool:=(List.range c).any fun j=>!listed.getD j false&&match ops.toList[j]? with
 | none=>false
 | some o=>ZfI o t
def Zqp(ops:Array Oper)(c:Nat)(listed:Array Bool)(S X:St):St:=X.wenv fun t=>bif unl ops c listed t then S.env t else X.env t
theorem Zlb:∀{l:List Oper},(Zar l).Nodup→∀{i j:Nat} {o o':Oper} {t:Nat},l[i]?=some o→l[j]?=some o'→o.dst=some t→o'.dst=some t→i=j
 | [],_,i,j,o,o',t,h,_,_,_=>by simp at h
 | x::l,hn,0,0,_,_,_,_,_,_,_=>rfl
 | x::l,hn,0,j+1,o,o',t,h1,h2,h3,h4=>by
  simp at h1 h2;subst h1
  simp only[Zar,h3,List.nodup_cons]at hn
  exact absurd (ZaX h2 h4) hn.1
 | x::l,hn,i+1,0,o,o',t,h1,h2,h3,h4=>by
  simp at h1 h2;subst h2
  simp only[Zar,h4,List.nodup_cons]at hn
  exact absurd (ZaX h1 h3) hn.1
 | x::l,hn,i+1,j+1,o,o',t,h1,h2,h3,h4=>by
  simp at h1 h2
  have:(Zar l).Nodup:=by
   unfold Zar at hn
   split at hn
   ·exact hn
   ·exact(List.nodup_cons.1 hn).2
  rw[Zlb this h1 h2 h3 h4]
theorem Zul{E:Env}(hE:E.ok){F:Fence}(hF:FOk F){C:Ctx}(hY:YOk E C){ops:Array Oper}(bA:ZkT C.n ops.toList=true){id n:Nat}{Q:Exit→Act→World→Prop}{K:St→Mem→Prop}
  (over:∀(fuel:Nat)(listed:Array Bool)(S':St)(m':Mem)(a':Act)(w':World),listed.size=ops.size→(∀j,j < ops.size→listed.getD j false=true)→K S' m'→Rel C S' m' a' w'→wpAnyIn F n E.P .any ops Q fuel listed a' w')
  {S:St} {m:Mem} {a:Act} {w:World} (hr:Rel C S m a w) (h:Zwh E id ops K S m):wpAnyIn F n E.P .any ops Q ops.size (Array.replicate ops.size false) a w:=by
 unfold Zwh at h
 obtain⟨h1,h2⟩:=Zae h
 generalize E.lastK id=k at *
 simp only[Bool.and_eq_true]at h1
 have cB:=h1.2
 unfold Zvq at cB
 simp only[Bool.and_eq_true,List.all_eq_true]at cB
 obtain⟨⟨ir,eH,hH⟩,oO,dQ,bX,l6⟩:=cB
 have ir:=Nat.le_of_ble_eq_true ir
 have eH:=Nat.le_of_ble_eq_true eH
 have oP:=ZaE dQ
 generalize hc:ops.size - k=c at *
 have pW:c < ops.size:=by omega
 split at h2
 ·exact h2.elim
 rename_i oc r lk
 have ky:ops.toList[c]?=some oc:=by
  have:=congrArg (fun l=>l[0]?) lk
  simpa using this
 have l7:ops[c]?=some oc:=by simpa using ky
 rw[ky]at bX
 simp only at bX
 split at h2
 rotate_left
 ·exact h2.elim
 rename_i q hq
 unfold Zng at bX
 simp only[hq,Bool.and_eq_true]at bX
 obtain⟨oQ,bX⟩:=bX
 cases jz:q.callee with
 | builtin b=>simp[jz]at bX
 | invoke _ _=>simp[jz]at bX
 | value f=>
 simp only[jz,Bool.and_eq_true,List.all_eq_true]at bX
 obtain⟨⟨gX,oR,l8,kI,rq,rr⟩,l9⟩:=bX
 have oQ:=Option.isNone_iff_eq_none.1 oQ
 obtain⟨g0,ru⟩:∃g0,f=.func g0:=by
  cases f <;> simp[Zwg]at rq
  exact⟨_,rfl⟩
 obtain⟨dc,ma⟩:=Option.isSome_iff_exists.1 l8
 have ldAt:∀j,j < c→∃o,ops[j]?=some o∧(ops.toList.take c)[j]?=some o:=fun j hj=>by
  have:j < ops.toList.length:=by simp;omega
  refine⟨ops[j]'(by omega),by simp[show j < ops.size by omega],?_⟩
  rw[List.getElem?_take_of_lt hj];simp[show j < ops.size by omega]
 have ldOk:∀o∈ops.toList.take c,o.guard=none∧Zbc o=[]∧∃T x d,o.op=.load T x∧o.dst=some d∧Zpp E o.dst=none∧∀t,x=.tmp t→t ∉ Zar ops.toList:=fun o ho=>by
  have:=oO o ho
  unfold Zr3 at this
  simp only[Bool.and_eq_true]at this
  obtain⟨q1,q2,q3⟩:=this
  split at q3
  ·rename_i T x j9
   simp only[Bool.and_eq_true]at q3
   obtain⟨q4,q5,q6⟩:=q3
   obtain⟨d,hd⟩:=Option.isSome_iff_exists.1 q5
   refine⟨Option.isNone_iff_eq_none.1 q1,Zh4 q2,T,x,d,j9,hd,Option.isNone_iff_eq_none.1 q4,fun t e hm=>?_⟩
   subst e
   simp only[Znf,Bool.not_eq_true']at q6
   rw[ZaW.2 hm]at q6;cases q6
  ·cases q3
 have md:dc ∉ Zar (ops.toList.take c):=fun hm=>by
  simp only[Zne,ma,Bool.not_eq_true']at kI
  rw[ZaW.2 hm]at kI;cases kI
 obtain⟨e,h3,hV,he⟩:=Zji dQ (fun o ho=>by
  obtain⟨_,_,_,_,d,_,hd,_⟩:=ldOk o ho
  simp[hd]) h2
 obtain⟨h4,h5⟩:=Zae h3
 have h4:=Zh4 h4
 have unl_mem:∀{listed:Array Bool} {t:Nat},unl ops c listed t=true→t∈Zar (ops.toList.take c):=fun {listed t} hu=>by
  unfold unl at hu
  simp only[List.any_eq_true,Bool.and_eq_true,List.mem_range]at hu
  obtain⟨j,hj,_,hu⟩:=hu
  obtain⟨o,ho,ho'⟩:=ldAt j hj
  have:ops.toList[j]?=some o:=by simpa using ho
  rw[this]at hu
  exact ZaX ho' (Zbw.1 hu)
 have takeSub:∀t,t∈Zar (ops.toList.take c)→t∈Zar ops.toList:=by
  have:∀(l:List Oper)(k t:Nat),t∈Zar (l.take k)→t∈Zar l:=by
   intro l
   induction l with
   | nil=>intro k t h;simp[Zar]at h
   | cons x l ih=>
    intro k t h
    cases k with
    | zero=>simp[Zar]at h
    | succ k=>
     simp only[List.take_succ_cons,Zar]at h ⊢
     cases hx:x.dst with
     | none=>simp only[hx]at h ⊢;exact ih k t h
     | some d=>
      simp only[hx,List.mem_cons]at h ⊢
      exact h.imp (fun h=>h) (ih k t)
  exact this _ c
 have fX:∀i,c+1≤i→i < ops.size→∃o,ops[i]?=some o∧(∀j,c≤j→j < i→j∈Zbc o)∧(∀j∈Zbc o,j < i)∧(i=c+1→∀j,j < c→j∈Zbc o∨j∈Zbc oc):=by
  intro i eQ gA
  have:=l6 (i - c) (List.mem_range.2 (by omega))
  have cS:Nat.beq (i - c) 0=false:=Zaq (by omega)
  rw[cS,cond_false,show c+(i - c)=i by omega,ky]at this
  split at this
  ·rename_i o oc' ho oS
   cases oS
   simp only[Bool.and_eq_true,List.all_eq_true]at this
   refine⟨o,by simpa using ho,fun j rv hj=>?_,fun j hj=>Nat.le_of_ble_eq_true (this.2.1 j hj),fun hi j hj=>?_⟩
   ·have h3:=ZaW.1 (this.1 (j - c) (List.mem_range.2 (by omega)))
    rw[show c+(j - c)=j by omega]at h3
    exact h3
   ·have h3:=this.2.2
    rw[hi,show c+1 - c=1 by omega]at h3
    simp only[show Nat.beq 1 1=true from rfl,cond_true,List.all_eq_true,Bool.or_eq_true,List.mem_range]at h3
    exact(h3 j hj).imp ZaW.1 ZaW.1
  ·cases this
 have kJ:ops.toList.drop (c+1)=r:=by
  have:=congrArg (List.drop 1) lk
  simpa[List.drop_drop,Nat.add_comm]using this
 have sV:r.length=ops.size - (c+1):=by rw[←kJ];simp
 have memo:∀mm:Mem,E.m0=some mm→C.m0=mm:=fun mm hm=>(hY.m0 mm hm).1
 have prd:∀{o:Oper} {listed:Array Bool},(∀e∈o.after,Region.binds .any e=true→listed.getD e.on false=true)→∀j∈Zbc o,listed.getD j false=true:=fun {o listed} fI j hj=>by
  simp only[Zbc,List.mem_map,List.mem_filter]at hj
  obtain⟨e,⟨he,hb⟩,rfl⟩:=hj
  exact fI e (by simpa using he) hb
 have prd':∀{o:Oper} {listed:Array Bool},(∀j∈Zbc o,listed.getD j false=true)→∀e∈o.after,Region.binds .any e=true→listed.getD e.on false=true:=fun {o listed} fI e he hb=>fI e.on (by
  simp only[Zbc,List.mem_map,List.mem_filter]
  exact⟨e,⟨by simpa using he,hb⟩,rfl⟩)
 have main:∀(fuel:Nat)(listed:Array Bool)(X:St)(m':Mem)(a':Act)(w':World),listed.size=ops.size→(∀j,c+1≤j→listed.getD j false=false)→
   ((List.range (c+1)).countP fun j=>!listed.getD j false)+r.length≤fuel→(∀o∈ops.toList.take c,Zxk E S (Zc3 E oc.dst) o X)→(∀id,id ∉ Zc3 E oc.dst→X.L id=S.L id)→SameOut (Zar ops.toList) S X→
   (listed.getD c false=false→m'=m∧X=S.wenv e)→(listed.getD c false=true→Zjc E ops K r X m'∧∀p∈Zbc oc,listed.getD p false=true)→
   Rel C (Zqp ops c listed S X) m' a' w'→wpAnyIn F n E.P .any ops Q fuel listed a' w':=by
  intro fuel
  induction fuel with
  | zero=>
   intro listed X m' a' w' bT gw iE hX nb nf hA hB bB
   have hz:((List.range (c+1)).countP fun j=>!listed.getD j false)=0:=by omega
   have bM:∀j,j < c+1→listed.getD j false=true:=fun j hj=>by
    have:=List.countP_eq_zero.1 hz j (List.mem_range.2 hj)
    simpa using this
   have gI:Zqp ops c listed S X=X:=by
    have:∀t,unl ops c listed t=false:=fun t=>by
     cases hu:unl ops c listed t with
     | false=>rfl
     | true=>
      exfalso
      unfold unl at hu
      simp only[List.any_eq_true,Bool.and_eq_true,List.mem_range]at hu
      obtain⟨j,hj,hu,_⟩:=hu
      rw[bM j (by omega)]at hu;cases hu
    unfold Zqp
    simp only[this,cond_false];rfl
   rw[gI]at bB
   exact ZpF hE hF hY bA over (i0:=c+1) (fun i h1 h2=>by
    obtain⟨o,q1,q2,q3,_⟩:=fX i h1 h2
    exact⟨o,q1,fun j hj=>q2 j (by omega),q3⟩) r (c+1) kJ (Nat.le_refl _) (by omega) 0 listed X m' a' w' (by omega) bT bM gw (hB (bM c (by omega))).1 bB
  | succ fuel ih=>
   intro listed X m' a' w' bT gw iE hX nb nf hA hB bB
   by_cases bM:∀j,j < c+1→listed.getD j false=true
   ·have gI:Zqp ops c listed S X=X:=by
     have:∀t,unl ops c listed t=false:=fun t=>by
      cases hu:unl ops c listed t with
      | false=>rfl
      | true=>
       exfalso
       unfold unl at hu
       simp only[List.any_eq_true,Bool.and_eq_true,List.mem_range]at hu
       obtain⟨j,hj,hu,_⟩:=hu
       rw[bM j (by omega)]at hu;cases hu
     unfold Zqp
     simp only[this,cond_false];rfl
    rw[gI]at bB
    exact ZpF hE hF hY bA over (i0:=c+1) (fun i h1 h2=>by
     obtain⟨o,q1,q2,q3,_⟩:=fX i h1 h2
     exact⟨o,q1,fun j hj=>q2 j (by omega),q3⟩) r (c+1) kJ (Nat.le_refl _) (by omega) _ listed X m' a' w' (by omega) bT bM gw (hB (bM c (by omega))).1 bB
   have dec:∀{i:Nat},i < c+1→listed.getD i false=false→((List.range (c+1)).countP fun j=>!(listed.setIfInBounds i true).getD j false)+1=((List.range (c+1)).countP fun j=>!listed.getD j false):=fun {i} hi gY=>
    Zjj (p:=fun j=>!listed.getD j false) (q:=fun j=>!(listed.setIfInBounds i true).getD j false) (i:=i) (by simp[gY]) (fun j=>by
     by_cases e:j=i
     ·subst e;rw[Zch (by omega),ZbZ];simp
     ·rw[getD_set_ne false (Ne.symm e),Zaq e];simp) List.nodup_range (List.mem_range.2 hi)
   refine⟨fun cH=>?_,fun i hi=>?_⟩
   ·exfalso
    apply bM
    have hl:∀j,j < c→listed.getD j false=true:=fun j hj=>by
     cases hb:listed.getD j false with
     | true=>rfl
     | false=>
      exfalso
      obtain⟨o,ho,ho'⟩:=ldAt j hj
      obtain⟨_,hp,_⟩:=ldOk o (List.mem_of_getElem? ho')
      have fR:j < listed.size:=by omega
      have:j∈Region.ready .any ops listed:=mem_ready.2 ⟨by simpa[Array.getD,fR]using hb,o,ho,prd' (by rw[hp];intro j hj;cases hj)⟩
      rw[cH]at this;simp at this
    intro j hj
    by_cases e:j=c
    ·subst e
     cases hb:listed.getD j false with
     | true=>rfl
     | false=>
      exfalso
      have fR:j < listed.size:=by omega
      have:j∈Region.ready .any ops listed:=mem_ready.2 ⟨by simpa[Array.getD,fR]using hb,oc,l7,prd' fun p hp=>hl p (Nat.le_of_ble_eq_true (l9 p hp))⟩
      rw[cH]at this;simp at this
    ·exact hl j (by omega)
   obtain⟨gY,o,ho,fI⟩:=mem_ready.1 hi
   have hi':i < ops.size:=(Array.getElem?_eq_some_iff.1 ho).1
   have hl:i < listed.size:=by omega
   have iT:listed.getD i false=false:=by simp[Array.getD,hl]at gY ⊢;exact gY
   have fI:=prd fI
   have jZ:ops.toList[i]?=some o:=by simpa using ho
   have gm:∀j,c+1≤j→(i < c+1)→(listed.setIfInBounds i true).getD j false=false:=fun j hj hi=>by
    rw[getD_set_ne false (by omega)];exact gw j hj
   have eI:∀mm:Mem,E.m0=some mm→mm.le m':=fun mm hm=>by rw[←memo mm hm];exact bB.le
   unfold wpOpIn
   simp only[ho]
   rcases Nat.lt_trichotomy i c with ng|ng|ng
   ·
    obtain⟨o',iH,eR⟩:=ldAt i ng
    rw[ho]at iH;cases iH
    have eW:=List.mem_of_getElem? eR
    obtain⟨hg,_,T,x,d,j9,hd,rx,ry⟩:=ldOk o eW
    obtain⟨T',x',d',v,q1,q2,q3,q4⟩:=hX o eW
    rw[j9]at q1;cases q1
    rw[hd]at q2;cases q2
    have me:opG E ops o (Zqp ops c listed S X) m' fun S' m''=>S'=(Zqp ops c listed S X).put (some d) (some (.v v))∧m''=m':=by
     unfold opG
     simp only[hg]
     unfold opW
     simp only[j9,rx]
     refine ZfD (fun u hu=>?_) (q4 (Zqp ops c listed S X) m' (fun t ht=>?_) (fun id cL=>nb id cL) eI)
     ·subst hu;rw[hd];first|exact⟨rfl,rfl⟩|exact⟨rfl,trivial⟩
     ·have rz:=ry t ht
      show(bif unl ops c listed t then S.env t else X.env t)=S.env t
      cases unl ops c listed t with
      | true=>rfl
      | false=>exact(nf t rz)
    refine Zdc hE hF hY (Zcq bA _ o jZ) bB me (n:=n) (Q:=Q) (next:=wpAnyIn F n E.P .any ops Q fuel (listed.setIfInBounds i true)) (fun S2 m2 a2 w2 eH fJ=>?_)
    obtain⟨rfl,rfl⟩:=eH
    have qb:(listed.setIfInBounds i true).getD c false=listed.getD c false:=getD_set_ne false (by omega)
    refine ih _ X m2 a2 w2 (by simpa using bT) (fun j hj=>gm j hj (by omega)) (by have:=dec (i:=i) (by omega) iT;omega) hX nb nf (fun hb=>hA (qb ▸ hb)) (fun hb=>?_) ?_
    ·obtain⟨q5,q6⟩:=hB (qb ▸ hb)
     refine⟨q5,fun p hp=>?_⟩
     by_cases e:p=i
     ·subst e;exact Zch hl
     ·rw[getD_set_ne false (Ne.symm e)];exact q6 p hp
    ·have:(Zqp ops c listed S X).put (some d) (some (.v v))=Zqp ops c (listed.setIfInBounds i true) S X:=by
      have kK:∀t,unl ops c (listed.setIfInBounds i true) t=(unl ops c listed t&&!Nat.beq t d):=fun t=>by
       by_cases ht:t=d
       ·subst ht
        rw[ZbZ]
        simp only[Bool.not_true,Bool.and_false]
        cases hu:unl ops c (listed.setIfInBounds i true) t with
        | false=>rfl
        | true=>
         exfalso
         unfold unl at hu
         simp only[List.any_eq_true,Bool.and_eq_true,List.mem_range]at hu
         obtain⟨j,hj,eX,hU⟩:=hu
         obtain⟨oj,oT,oU⟩:=ldAt j hj
         have:ops.toList[j]?=some oj:=by simpa using oT
         rw[this]at hU
         have:j=i:=Zlb oP oU eR (Zbw.1 hU) hd
         subst this
         rw[Zch hl]at eX;cases eX
       ·rw[Zaq ht]
        simp only[Bool.not_false,Bool.and_true]
        unfold unl
        rw[Bool.eq_iff_iff]
        simp only[List.any_eq_true,Bool.and_eq_true,List.mem_range]
        constructor
        ·rintro⟨j,hj,eX,hU⟩
         refine⟨j,hj,?_,hU⟩
         by_cases e:j=i
         ·subst e;rw[Zch hl]at eX;cases eX
         ·rw[getD_set_ne false (Ne.symm e)]at eX;exact eX
        ·rintro⟨j,hj,eX,hU⟩
         refine⟨j,hj,?_,hU⟩
         by_cases e:j=i
         ·subst e
          rw[jZ]at hU
          have:=Zbw.1 hU
          rw[hd]at this;cases this
          exact absurd rfl ht
         ·rw[getD_set_ne false (Ne.symm e)];exact eX
      unfold Zqp St.wenv St.put
      simp only[kK]
      congr 1
      funext t
      by_cases ht:t=d
      ·subst ht;simp[ZbZ,q3]
      ·simp[Zaq ht]
     rw[←this];exact fJ
   ·
    subst ng
    rw[l7]at ho;cases ho
    obtain⟨rfl,rfl⟩:=hA iT
    have rA:S.wenv e=(Zqp ops i listed S (S.wenv e)).wenv e:=rfl
    have nv:∀x∈q.args.toList,∀t,x=.tmp t→e t=(Zqp ops i listed S (S.wenv e)).env t:=fun x hx t ht=>by
     show e t=(bif unl ops i listed t then S.env t else e t)
     cases hu:unl ops i listed t with
     | false=>rfl
     | true=>
      exfalso
      unfold unl at hu
      simp only[List.any_eq_true,Bool.and_eq_true,List.mem_range]at hu
      obtain⟨j,hj,eX,hU⟩:=hu
      have:=rr j (List.mem_range.2 hj)
      simp only[Bool.or_eq_true]at this
      rcases this with h6|h6
      ·rw[fI j (ZaW.1 h6)]at eX;cases eX
      ·split at h6
       ·cases h6
       ·rename_i oj oT
        rw[oT]at hU
        have rB:=Zbw.1 hU
        simp only[rB,List.all_eq_true]at h6
        have:=h6 x hx
        subst ht
        simp[Znf,mem,ZbZ]at this
    rw[rA]at h5 h4
    have h6:=Znn oQ hq jz gX (Zh4 oR) l8 ru nv h4 h5
    refine Zdc hE hF hY (Zcq bA _ _ ky) bB h6 (n:=n) (Q:=Q) (next:=wpAnyIn F n E.P .any ops Q fuel (listed.setIfInBounds i true)) (fun S2 m2 a2 w2 eH fJ=>?_)
    obtain⟨X2,z1,z2,z3,z4,z5⟩:=eH
    have oV:∀t,t≠dc→X2.env t=e t:=fun t ht=>(z3 t (by rw[ma];exact fun h=>ht (Option.some.inj h).symm)).1
    refine ih _ X2 m2 a2 w2 (by simpa using bT) (fun j hj=>gm j hj (by omega)) (by have:=dec (i:=i) (by omega) iT;omega) (fun o' ho'=>?_) (fun id cL=>(z5 id cL).trans (nb id cL)) (fun t ht=>?_) (fun hb=>?_) (fun _=>⟨z1,fun p hp=>?_⟩) ?_
    ·obtain⟨T',x',d',v,q1,q2,q3,q4⟩:=hX o' ho'
     refine⟨T',x',d',v,q1,q2,?_,q4⟩
     obtain⟨j,hj⟩:=List.getElem?_of_mem ho'
     rw[oV d' (fun e=>md (e ▸ ZaX hj q2))];exact q3
    ·have:t≠dc:=fun e=>ht (e ▸ ZaX ky ma)
     rw[oV t this];exact nf t ht
    ·rw[Zch hl]at hb;cases hb
    ·have:=fI p hp
     by_cases e:p=i
     ·subst e;exact Zch hl
     ·rw[getD_set_ne false (Ne.symm e)];exact this
    ·have:S2=Zqp ops i (listed.setIfInBounds i true) S X2:=by
      have kK:∀t,unl ops i (listed.setIfInBounds i true) t=unl ops i listed t:=fun t=>by
       unfold unl
       rw[Bool.eq_iff_iff]
       simp only[List.any_eq_true,Bool.and_eq_true,List.mem_range]
       constructor
       ·rintro⟨j,hj,eX,hU⟩
        rw[getD_set_ne false (by omega)]at eX
        exact⟨j,hj,eX,hU⟩
       ·rintro⟨j,hj,eX,hU⟩
        exact⟨j,hj,by rw[getD_set_ne false (by omega)];exact eX,hU⟩
      have hs:S2=X2.wenv S2.env:=by rw[←z2];rfl
      rw[hs]
      unfold Zqp
      congr 1
      funext t
      rw[kK]
      by_cases ht:t=dc
      ·subst ht
       have:unl ops i listed t=false:=by
        cases hu:unl ops i listed t with
        | false=>rfl
        | true=>exact absurd (unl_mem hu) md
       rw[this,cond_false]
       exact z4 t ma
      ·rw[(z3 t (by rw[ma];exact fun h=>ht (Option.some.inj h).symm)).2,oV t ht]
       rfl
     rw[←this];exact fJ
   ·exfalso
    obtain⟨o3,kH,jy,_,oW⟩:=fX i (by omega) hi'
    rw[kH]at ho;cases ho
    by_cases oX:i=c+1
    ·apply bM
     intro j hj
     by_cases e:j=c
     ·subst e;exact fI _ (jy _ (Nat.le_refl _) (by omega))
     ·rcases oW oX j (by omega)with h6|h6
      ·exact fI j h6
      ·exact(hB (fI c (jy c (Nat.le_refl _) (by omega)))).2 j h6
    ·have:=fI (c+1) (jy (c+1) (by omega) (by omega))
     rw[gw (c+1) (Nat.le_refl _)]at this;cases this
 have none0:∀j,(Array.replicate ops.size false).getD j false=false:=fun j=>by simp[Array.getD]
 refine main ops.size _ (S.wenv e) m a w (by simp) (fun j _=>none0 j) ?_ hV (fun _ _=>rfl) (fun t ht=>he t (fun hm=>ht (takeSub t hm))) (fun _=>⟨rfl,rfl⟩) (fun hb=>?_) ?_
 ·have:=List.countP_le_length (p:=fun j=>!(Array.replicate ops.size false).getD j false) (l:=List.range (c+1))
  simp only[List.length_range]at this
  omega
 ·rw[none0]at hb;cases hb
 ·have:Zqp ops c (Array.replicate ops.size false) S (S.wenv e)=S:=by
   have:∀t,(bif unl ops c (Array.replicate ops.size false) t then S.env t else e t)=S.env t:=fun t=>by
    cases hu:unl ops c (Array.replicate ops.size false) t with
    | true=>rfl
    | false=>
     refine he t fun hm=>?_
     have:unl ops c (Array.replicate ops.size false) t=true:=by
      have rC:∀{l:List Oper} {t:Nat},t∈Zar l→∃(j:Nat)(o:Oper),l[j]?=some o∧o.dst=some t:=by
       intro l
       induction l with
       | nil=>intro t h;simp[Zar]at h
       | cons x l ih=>
        intro t h
        unfold Zar at h
        split at h
        ·obtain⟨j,o,h1,h2⟩:=ih h
         exact⟨j+1,o,by simpa using h1,h2⟩
        ·rename_i d hd
         rcases List.mem_cons.1 h with rfl|h
         ·exact⟨0,x,by simp,hd⟩
         ·obtain⟨j,o,h1,h2⟩:=ih h
          exact⟨j+1,o,by simpa using h1,h2⟩
      obtain⟨j,o,hj,hd⟩:=rC hm
      have qc:j < c:=by
       have:=(List.getElem?_eq_some_iff.1 hj).1
       simp at this;omega
      have hj':ops.toList[j]?=some o:=by rw[List.getElem?_take_of_lt qc]at hj;exact hj
      unfold unl
      simp only[List.any_eq_true,Bool.and_eq_true,List.mem_range]
      refine⟨j,qc,by rw[none0];rfl,?_⟩
      rw[hj'];exact Zbw.2 hd
     rw[hu]at this;cases this
   unfold Zqp St.wenv
   cases S
   simp only at this ⊢
   congr 1
   funext t;exact this t
  rw[this];exact hr
end Go.Eng
namespace Go.Eng
open Go Go.RowKit
theorem ZjZ:∀{l:List DOp} {p j:Nat},j∈Zwf l p→∃c∈l,c.i=p∧j∈c.an
 | [],p,j,h=>by simp[Zwf]at h
 | d::l,p,j,h=>by
  simp only[Zwf]at h
  cases hb:Nat.beq d.i p with
  | true=>simp only[hb,cond_true]at h;exact⟨d,by simp,Nat.eq_of_beq_eq_true hb,h⟩
  | false=>
   simp only[hb,cond_false]at h
   obtain⟨c,hc,h1⟩:=ZjZ h
   exact⟨c,by simp[hc],h1⟩
theorem Zno{E:Env}{ops:Array Oper}:∀{r before l1:List DOp} {d:DOp} {l2:List DOp},Zil E ops r before=true→r=l1++d::l2→Zvp E ops d (l1.reverse++before)=true
 | [],before,l1,d,l2,h,e=>by simp at e
 | x::r,before,[],d,l2,h,e=>by
  simp only[Zil,Bool.and_eq_true]at h
  simp at e
  rw[←e.1];exact h.1
 | x::r,before,y::l1,d,l2,h,e=>by
  simp only[Zil,Bool.and_eq_true]at h
  simp at e
  obtain⟨rfl,e⟩:=e
  have:=Zno h.2 e
  simpa using this
structure Fact (E:Env)(ops:Array Oper)(ds:List DOp)(d:DOp)(o:Oper):Prop where
 ok:DOk E ops d o
 vw:∀j,j∈d.vw→j∈d.an
 an:∀j,j∈d.an→j∈Zbc o∨∃p∈Zbc o,∃c∈ds,c.i=p∧j∈c.an
theorem Zj0{E:Env}{ops:Array Oper}{ds:List DOp}(h:Zil E ops ds []=true){l1 l2:List DOp}{d:DOp}(e:ds=l1++d::l2):
  ∃o,Fact E ops ds d o∧(∀p∈Zbc o,∃c∈l1,c.i=p)∧(∀c∈l1,(c.i∈d.an∨Zpz ops c d=true)∧c.i≠d.i):=by
 have h1:=Zno h e
 simp only[List.append_nil]at h1
 unfold Zvp at h1
 split at h1
 ·cases h1
 ·rename_i o ho
  simp only[Bool.and_eq_true,List.all_eq_true,Bool.or_eq_true,List.any_eq_true]at h1
  obtain⟨⟨⟨⟨⟨⟨g1,g2⟩,g3⟩,g4,g5⟩,g6⟩,g7⟩,g8⟩:=h1
  have eW:∀c∈l1.reverse,c∈ds:=fun c hc=>by rw[e];simp at hc ⊢;exact .inl hc
  refine⟨o,⟨⟨ho,g1,Zg6 g2,Zg6 g3⟩,Zg6 g4,fun j hj=>?_⟩,fun p hp=>?_,fun c hc=>⟨?_,?_⟩⟩
  ·rcases g6 j hj with h2|⟨p,hp,h2⟩
   ·exact .inl (ZaW.1 h2)
   ·obtain⟨c,hc,h3,h4⟩:=ZjZ (ZaW.1 h2)
    exact .inr ⟨p,hp,c,eW c hc,h3,h4⟩
  ·have:=Zg6 g5 p hp
   obtain⟨c,hc,h2⟩:=List.mem_map.1 this
   exact⟨c,by simpa using hc,h2⟩
  ·exact(g7 c (by simpa using hc)).imp ZaW.1 id
  ·have:=g8 c (by simpa using hc)
   intro e;rw[e,ZbZ]at this;simp at this
theorem Zge{α:Type}{R:α→α→Prop}:∀{l:List α},(∀l1 d l2,l=l1++d::l2→∀c∈l1,R c d)→l.Pairwise R
 | [],_=>List.Pairwise.nil
 | x::l,h=>by
  refine List.Pairwise.cons (fun y hy=>?_) (Zge fun l1 d l2 e c hc=>h (x::l1) d l2 (by simp[e]) c (by simp[hc]))
  obtain⟨s,t,rfl⟩:=List.append_of_mem hy
  exact h (x::s) y t (by simp) x (by simp)
structure Inv (ds:List DOp)(dn:Nat→Bool)(rem:List DOp):Prop where
 rem:rem=ds.filter fun c=>!dn c.i
 closed:∀d∈ds,dn d.i=true→∀j,j∈d.an→dn j=true
section
variable {E:Env} {ops:Array Oper} {ds:List DOp} {dn:Nat→Bool}
theorem Inv.an_of{rem:List DOp}(h:Inv ds dn rem){d:DOp}{o:Oper}(hd:Fact E ops ds d o)(hp:∀p,p∈Zbc o→dn p=true):∀j,j∈d.an→dn j=true:=fun j hj=>by
 rcases hd.an j hj with h1|⟨p,h1,c,h2,h3,h4⟩
 ·exact hp j h1
 ·exact h.closed c h2 (h3 ▸ hp p h1) j h4
theorem Inv.step{r1 r2:List DOp}{d:DOp}(hp:ds.Pairwise fun c d=>c.i≠d.i)(h:Inv ds dn (r1++d::r2))(hd:∀j,j∈d.an→dn j=true):Inv ds (fun j=>dn j||Nat.beq j d.i) (r1++r2):=by
 have fI:(r1++d::r2).Pairwise fun c d=>c.i≠d.i:=by rw[h.rem];exact hp.sublist List.filter_sublist
 refine⟨?_,fun c hc l8 j hj=>?_⟩
 ·have e:(ds.filter fun c=>!(dn c.i||Nat.beq c.i d.i))=(r1++d::r2).filter fun c=>!Nat.beq c.i d.i:=by
   rw[h.rem,List.filter_filter]
   congr 1;funext c
   cases dn c.i <;> simp
  rw[e,List.filter_append,List.filter_cons]
  simp only[ZbZ,Bool.not_true,Bool.false_eq_true,if_false]
  rw[List.pairwise_append]at fI
  obtain⟨_,h2,h3⟩:=fI
  rw[List.pairwise_cons]at h2
  rw[List.filter_eq_self.2,List.filter_eq_self.2]
  ·intro c hc
   have:=h2.1 c hc
   simp[Zaq (Ne.symm this)]
  ·intro c hc
   have:=h3 c hc d (by simp)
   simp[Zaq this]
 ·simp only[Bool.or_eq_true]at l8 ⊢
  rcases l8 with h1|h1
  ·exact .inl (h.closed c hc h1 j hj)
  ·have:c=d:=by
    have j0:d∈ds:=by
     have:d∈ds.filter fun c=>!dn c.i:=by rw[←h.rem];simp
     exact(List.mem_filter.1 this).1
    have hi:=Nat.eq_of_beq_eq_true h1
    by_cases e:c=d
    ·exact e
    ·exfalso
     obtain⟨s,t,rfl⟩:=List.append_of_mem hc
     rw[List.pairwise_append,List.pairwise_cons]at hp
     simp only[List.mem_append,List.mem_cons]at j0
     rcases j0 with j0|j0|j0
     ·exact hp.2.2 d j0 c (by simp) hi.symm
     ·exact e j0.symm
     ·exact hp.2.1.1 d j0 hi
   subst this
   exact .inl (hd j hj)
theorem Inv.head{d:DOp}{r:List DOp}(cB:Zil E ops ds []=true)(h:Inv ds dn (d::r)):∃o,Fact E ops ds d o∧∀p,p∈Zbc o→dn p=true:=by
 obtain⟨l1,l2,h1,h2,h3,_⟩:=List.filter_eq_cons_iff.1 h.rem.symm
 obtain⟨o,hf,hp,_⟩:=Zj0 cB h1
 refine⟨o,hf,fun p lM=>?_⟩
 obtain⟨c,hc,rfl⟩:=hp p lM
 have:=h2 c hc
 simpa using this
theorem Inv.topo(cB:Zil E ops ds []=true)(hp:ds.Pairwise fun c d=>c.i≠d.i):∀{r1 r2:List DOp} {dn:Nat→Bool},Inv ds dn (r1++r2)→Zvr (fun j=>dn j=true) r1
 | [],r2,dn,h=>trivial
 | c::r1,r2,dn,h=>by
  obtain⟨o,hf,fI⟩:=h.head cB
  have lm:=h.an_of hf fI
  refine⟨fun j hj=>lm j (hf.vw j hj),?_⟩
  have:=Inv.topo cB hp (r1:=r1) (r2:=r2) (Inv.step (r1:=[]) hp h lm)
  have e:(fun j=>(dn j||Nat.beq j c.i)=true)=(fun j=>dn j=true∨j=c.i):=by
   funext j
   rw[Bool.or_eq_true]
   exact propext ⟨fun h=>h.imp id Nat.eq_of_beq_eq_true,fun h=>h.imp id fun e=>by rw[e];exact ZbZ _⟩
  rw[e]at this
  exact this
end
theorem Zg8{ops:Array Oper}:∀{ds:List DOp} {j:Nat},j∈Zig ops ds→∃d∈ds,d.i=j
 | [],j,h=>by simp[Zig]at h
 | d::r,j,h=>by
  simp only[Zig]at h
  split at h
  ·obtain⟨c,hc,e⟩:=Zg8 h;exact⟨c,by simp[hc],e⟩
  ·rename_i o _
   cases hg:ZdB o with
   | true=>
    simp only[hg,cond_true,List.mem_cons]at h
    rcases h with h|h
    ·exact⟨d,by simp,h.symm⟩
    ·obtain⟨c,hc,e⟩:=Zg8 h;exact⟨c,by simp[hc],e⟩
   | false=>
    simp only[hg,cond_false]at h
    obtain⟨c,hc,e⟩:=Zg8 h;exact⟨c,by simp[hc],e⟩
theorem Zj1{ops:Array Oper}:∀{ds:List DOp},Zig ops ds=[]→∀d∈ds,∀o,ops.toList[d.i]?=some o→ZdB o=false
 | [],_,d,hd=>by simp at hd
 | c::r,h,d,hd=>fun o ho=>by
  simp only[Zig]at h
  rcases List.mem_cons.1 hd with rfl|hd
  ·simp only[ho]at h
   cases hg:ZdB o with
   | false=>rfl
   | true=>simp[hg]at h
  ·split at h
   ·exact Zj1 h d hd o ho
   ·rename_i oc _
    cases hg:ZdB oc with
    | true=>simp[hg]at h
    | false=>simp only[hg,cond_false]at h;exact Zj1 h d hd o ho
theorem Znp{C:Ctx}{E:Env}(hE:E.ok){F:Fence}(hF:FOk F)(hY:YOk E C){ops:Array Oper}(bA:ZkT C.n ops.toList=true)(gp:E.fix=none){m0:Mem}{f:Fx}{ds:List DOp}(cB:Zil E ops ds []=true)
  {n e:Nat} {Q:Exit→Act→World→Prop} {K:St→Mem→Prop}
  (kL:∀(listed:Array Bool)(rem:List DOp) i,Inv ds (fun j=>listed.getD j false) rem→(∀j,listed.getD j false=true→∃d∈ds,d.i=j)→listed.size=ops.size→i∈Region.ready .any ops listed→(∃d∈ds,d.i=i)∨∀d∈ds,listed.getD d.i false=true)
  (iR:∀(fuel:Nat)(listed:Array Bool)(S':St)(m':Mem)(a':Act)(w':World),e≤fuel→listed.size=ops.size→(∀d∈ds,listed.getD d.i false=true)→(∀j,listed.getD j false=true→∃d∈ds,d.i=j)→K S' m'→Rel C S' m' a' w'→wpAnyIn F n E.P .any ops Q fuel listed a' w'):
  ∀(fuel:Nat){listed:Array Bool}{rem:List DOp}{S:St}{μ:Nat→Mem}{A:Mem}{a:Act}{w:World},listed.size=ops.size→Inv ds (fun j=>listed.getD j false) rem→rem.length+e≤fuel→Rel C S A a w→m0.le A→
   (∀j,listed.getD j false=true→(μ j).le A)→(∀j,listed.getD j false=true→∃d∈ds,d.i=j)→(Zig ops ds=[]→A=m0)→(∀d∈ds,(∀i,i∈d.ws→i∈S.ids)∧∀k,d.tk=some k→k∈S.tkeys)→
   Zie E ops m0 f rem (fun S' μ=>Zvn m0 μ (Zig ops ds) fun M=>K S' M) S μ→wpAnyIn F n E.P .any ops Q fuel listed a w:=by
 have jS:ds.Pairwise fun c d=>(c.i∈d.an∨Zpz ops c d=true)∧c.i≠d.i:=Zge fun l1 d l2 e c hc=>by
  obtain⟨o,_,_,h⟩:=Zj0 cB e
  exact h c hc
 have lj:ds.Pairwise fun c d=>c.i≠d.i:=jS.imp fun h=>h.2
 have factOf:∀d∈ds,∃o,Fact E ops ds d o:=fun d hd=>by
  obtain⟨s,t,e⟩:=List.append_of_mem hd
  obtain⟨o,h,_⟩:=Zj0 cB e
  exact⟨o,h⟩
 have allOf:∀{listed:Array Bool} {rem:List DOp},Inv ds (fun j=>listed.getD j false) rem→rem=[]→∀d∈ds,listed.getD d.i false=true:=fun dH he d hd=>by
  subst he
  have:=List.filter_eq_nil_iff.1 dH.rem.symm d hd
  simpa using this
 have fin:∀{fuel:Nat} {listed:Array Bool} {rem:List DOp} {S:St} {μ:Nat→Mem} {A:Mem} {a:Act} {w:World},listed.size=ops.size→Inv ds (fun j=>listed.getD j false) rem→Rel C S A a w→m0.le A→(∀j,listed.getD j false=true→(μ j).le A)→(∀j,listed.getD j false=true→∃d∈ds,d.i=j)→(Zig ops ds=[]→A=m0)→
   Zie E ops m0 f rem (fun S' μ=>Zvn m0 μ (Zig ops ds) fun M=>K S' M) S μ→rem=[]→e≤fuel→wpAnyIn F n E.P .any ops Q fuel listed a w:=by
  intro fuel listed rem S μ A a w bT dH hr h0 hμ hl hg hn he iE
  have bM:=allOf dH he
  subst he
  refine iR fuel listed S A a w iE bT bM hl (ZqS hn h0 hg fun j hj=>?_) hr
  obtain⟨d,hd,rfl⟩:=Zg8 hj
  exact hμ _ (bM d hd)
 have stuck:∀{listed:Array Bool} {rem:List DOp},listed.size=ops.size→Inv ds (fun j=>listed.getD j false) rem→Region.ready .any ops listed=[]→rem=[]:=by
  intro listed rem bT dH cH
  cases rem with
  | nil=>rfl
  | cons d r=>
   exfalso
   obtain⟨o,hf,hp⟩:=dH.head cB
   have bZ:d∈ds.filter fun c=>!listed.getD c.i false:=by rw[←dH.rem];simp
   have h1:=(List.mem_filter.1 bZ).2
   have ho':ops[d.i]?=some o:=by simpa using hf.ok.at_
   have aX:d.i < ops.size:=(Array.getElem?_eq_some_iff.1 ho').1
   have:d.i∈Region.ready .any ops listed:=mem_ready.2 ⟨by
    have hl:d.i < listed.size:=by omega
    simpa[Array.getD,hl]using h1,o,ho',fun e he hb=>hp e.on (by
     simp only[Zbc,List.mem_map,List.mem_filter]
     exact⟨e,⟨by simpa using he,hb⟩,rfl⟩)⟩
   rw[cH]at this;simp at this
 intro fuel
 induction fuel with
 | zero=>
  intro listed rem S μ A a w bT dH bQ hr h0 hμ jA hg dL hn
  have he:rem=[]:=List.eq_nil_of_length_eq_zero (by omega)
  exact fin bT dH hr h0 hμ jA hg hn he (by omega)
 | succ fuel ih=>
  intro listed rem S μ A a w bT dH bQ hr h0 hμ jA hg dL hn
  by_cases kM:rem=[]
  ·exact fin bT dH hr h0 hμ jA hg hn kM (by omega)
  refine⟨fun cH=>absurd (stuck bT dH cH) kM,fun i hi=>?_⟩
  rcases kL listed rem i dH jA bT hi with⟨d,hd,rfl⟩|mf
  rotate_left
  ·exfalso
   apply kM
   rw[dH.rem,List.filter_eq_nil_iff]
   intro d hd
   simp[mf d hd]
  obtain⟨gY,o,ho,bM⟩:=mem_ready.1 hi
  have aX:d.i < ops.size:=(Array.getElem?_eq_some_iff.1 ho).1
  have hl:d.i < listed.size:=by omega
  have iT:listed.getD d.i false=false:=by simp[Array.getD,hl]at gY ⊢;exact gY
  obtain⟨o',hf⟩:=factOf d hd
  have:o'=o:=by
   have h1:=hf.ok.at_
   have h2:ops.toList[d.i]?=some o:=by simpa using ho
   rw[h1]at h2;exact Option.some.inj h2
  subst this
  have fI:∀p,p∈Zbc o'→listed.getD p false=true:=fun p hp=>by
   simp only[Zbc,List.mem_map,List.mem_filter]at hp
   obtain⟨e,⟨he,hb⟩,rfl⟩:=hp
   exact bM e (by simpa using he) hb
  have lm:=dH.an_of hf fI
  have lk:d∈rem:=by rw[dH.rem];exact List.mem_filter.2 ⟨hd,by simp[iT]⟩
  obtain⟨r1,r2,rfl⟩:=List.append_of_mem lk
  have cC:(r1++d::r2).Sublist ds:=by rw[dH.rem];exact List.filter_sublist
  have mg:=jS.sublist cC
  have fH:∀c∈r1,Zpz ops c d=true:=fun c hc=>by
   rw[List.pairwise_append]at mg
   rcases(mg.2.2 c hc d (by simp)).1 with h1|h1
   ·have h2:=lm _ h1
    have rD:c∈ds.filter fun c=>!listed.getD c.i false:=by rw[←dH.rem];simp[hc]
    have h3:=(List.mem_filter.1 rD).2
    rw[h2]at h3;cases h3
   ·exact h1
  have eW:∀c∈r1++d::r2,c∈ds:=fun c hc=>cC.subset hc
  have hT:=extract hE hF hY bA gp (r1:=r1) (D:=fun j=>listed.getD j false=true) hr h0 hμ (dH.topo cB lj) (fun c hc=>by
   obtain⟨oc,jN⟩:=factOf c (eW c (by simp[hc]))
   exact⟨⟨oc,jN.ok⟩,dL c (eW c (by simp[hc]))⟩) fH hn
  refine ZpD hE hF hY bA gp hf.ok (dL d hd).1 (dL d hd).2 hr h0 (fun j hj=>hμ j (lm j (hf.vw j hj))) hT ?_
  intro S' m' A' a' w' cU bB hA hm rE
  have mh:(fun j=>(listed.setIfInBounds d.i true).getD j false)=fun j=>listed.getD j false||Nat.beq j d.i:=by
   funext j
   by_cases hj:j=d.i
   ·subst hj;simp[Array.getD,hl]
   ·have:Nat.beq j d.i=false:=Zaq hj
    rw[getD_set_ne false (Ne.symm hj),this,Bool.or_false]
  refine ih (rem:=r1++r2) (S:=ZoD ops d S S') (μ:=upd μ d.i m') (A:=A') (by simpa using bT) ?_ (by simp at bQ ⊢;omega) bB (Mem.le_trans h0 hA) ?_ ?_ ?_ ?_ (ZpC hf.ok.ws fH hn cU)
  ·rw[mh];exact dH.step lj lm
  ·intro j hj
   have hj':(listed.getD j false||Nat.beq j d.i)=true:=by rw[←hj];exact(congrFun mh j).symm
   by_cases e:j=d.i
   ·subst e;rw[ZpE];exact hm
   ·rw[Zuj e]
    rw[Zaq e,Bool.or_false]at hj'
    exact Mem.le_trans (hμ j hj') hA
  ·intro j hj
   have hj':(listed.getD j false||Nat.beq j d.i)=true:=by rw[←hj];exact(congrFun mh j).symm
   rw[Bool.or_eq_true]at hj'
   rcases hj' with h|h
   ·exact jA j h
   ·exact⟨d,hd,(Nat.eq_of_beq_eq_true h).symm⟩
  ·intro ln
   rw[rE (Zj1 ln d hd o' hf.ok.at_)]
   exact hg ln
  ·intro c hc
   rw[(ZjY ops d S S').1,(ZjY ops d S S').2]
   exact dL c hc
theorem Znq:∀{ds:List DOp} {d:DOp} {i:Nat},d∈ds→i∈d.ws→i∈Zud ds
 | [],d,i,hd,_=>by simp at hd
 | c::r,d,i,hd,hi=>by
  simp only[Zud,List.mem_append]
  rcases List.mem_cons.1 hd with rfl|hd
  ·exact .inl hi
  ·exact .inr (Znq hd hi)
theorem Znr:∀{ds:List DOp} {d:DOp} {k:Nat},d∈ds→d.tk=some k→k∈ZtM ds
 | [],d,k,hd,_=>by simp at hd
 | c::r,d,k,hd,hk=>by
  simp only[ZtM]
  rcases List.mem_cons.1 hd with rfl|hd
  ·simp[hk]
  ·have:=Znr hd hk
   cases c.tk <;> simp[this]
theorem Zns{C:Ctx}{S:St}{m:Mem}{a:Act}{w:World}(h:Rel C S m a w)(ds:List DOp):Rel C (ZjU ds S) m a w:=
 h.restrict rfl (fun _ _ hx=>hx) (fun _ _ ht=>.inl ht) (fun i sv he=>by
  obtain⟨v,h1,h2⟩:=h.env i sv he
  exact⟨v,by cases sv <;> exact h1,h2⟩) (fun id x hx=>by simp only[ZjU];exact List.mem_append_right _ (h.ids id x hx)) (fun k t ht=>by simp only[ZjU];exact List.mem_append_right _ (h.tkeys k t ht))
theorem Zlc{E:Env}(hE:E.ok)(dN:E.P.follows .mixedOrders=true):Zdg E (ZjV E):=by
 intro C F hF hY n id ops K S m a w Q bA hr h hK
 have over:∀(fuel:Nat)(listed:Array Bool)(S':St)(m':Mem)(a':Act)(w':World),listed.size=ops.size→(∀j,j < ops.size→listed.getD j false=true)→K S' m'→Rel C S' m' a' w'→wpAnyIn F n E.P .any ops Q fuel listed a' w':=by
  intro fuel listed S' m' a' w' bT bM hk bB
  have gw:Region.ready .any ops listed=[]:=by
   cases cH:Region.ready .any ops listed with
   | nil=>rfl
   | cons i l=>
    exfalso
    have hi:i∈Region.ready .any ops listed:=by rw[cH];simp
    obtain⟨gY,o,ho,_⟩:=mem_ready.1 hi
    have aX:i < ops.size:=(Array.getElem?_eq_some_iff.1 ho).1
    have h1:=bM i aX
    have hl:i < listed.size:=by omega
    simp[Array.getD,hl]at gY h1
    rw[gY]at h1;cases h1
  cases fuel with
  | zero=>exact⟨gw,hK _ _ _ _ hk bB⟩
  | succ fuel=>exact⟨fun _=>hK _ _ _ _ hk bB,fun i hi=>by rw[gw]at hi;simp at hi⟩
 unfold ZjV at h
 cases hh:E.hot id with
 | true=>
  simp only[hh,cond_true]at h
  exact wpIn_region_any dN (Zul hE hF hY bA over hr.drew h)
 | false=>
 simp only[hh,cond_false]at h
 obtain⟨h1,h2⟩:=Zae h
 obtain⟨f,h2⟩:=ZsM h2
 have h2:Zie E ops m f (E.dr id) (fun S' μ=>Zvn m μ (Zig ops (E.dr id)) fun M=>bif E.last id then ZqP E ops (E.lastK id) K S' M else K S' M) (ZjU (E.dr id) S) (fun _=>m):=by
  cases lY:E.gb with
  | false=>simp only[lY,cond_false]at h2;exact h2
  | true=>simp only[lY,cond_true]at h2;exact Zjd h2
 simp only[Zue,Bool.and_eq_true,List.all_eq_true,List.any_eq_true]at h1
 obtain⟨⟨⟨⟨kL,bQ⟩,cB⟩,gp⟩,dA⟩:=h1
 refine wpIn_region_any dN ?_
 have gz:∀i,i < (bif E.last id then ops.size - E.lastK id else ops.size)→∃d∈E.dr id,d.i=i:=fun i hi=>by
  obtain⟨d,hd,e⟩:=kL i (List.mem_range.2 hi)
  exact⟨d,hd,Nat.eq_of_beq_eq_true e⟩
 have bQ:(E.dr id).length≤ops.size:=Nat.le_of_ble_eq_true bQ
 have inv0:Inv (E.dr id) (fun j=>(Array.replicate ops.size false).getD j false) (E.dr id):=by
  refine⟨(List.filter_eq_self.2 fun c hc=>?_).symm,fun d hd mh=>?_⟩
  ·simp[Array.getD]
  ·simp[Array.getD]at mh
 have none0:∀j,(Array.replicate ops.size false).getD j false=true→False:=fun j hj=>by simp[Array.getD]at hj
 have ids0:∀d∈E.dr id,(∀i,i∈d.ws→i∈(ZjU (E.dr id) S).ids)∧∀k,d.tk=some k→k∈(ZjU (E.dr id) S).tkeys:=fun d hd=>
  ⟨fun i hi=>List.mem_append_left _ (Znq hd hi),fun k hk=>List.mem_append_left _ (Znr hd hk)⟩
 cases hl:E.last id with
 | false=>
  simp only[hl,cond_false]at h2 gz
  refine Znp hE hF hY bA (by simpa using gp) cB (e:=0) (fun listed _ i _ _ _ hi=>.inl ?_) (fun fuel listed S' m' a' w' _ bT bM _ hk bB=>over fuel listed S' m' a' w' bT (fun j hj=>by obtain⟨d,hd,rfl⟩:=gz j hj;exact bM d hd) hk bB) ops.size (rem:=E.dr id) (A:=m) (by simp) inv0 (by omega) ((Zns hr.drew (E.dr id))) (Mem.le_refl m) (fun j hj=>(none0 j hj).elim) (fun j hj=>(none0 j hj).elim) (fun _=>rfl) ids0 h2
  obtain⟨_,o,ho,_⟩:=mem_ready.1 hi
  exact gz i (Array.getElem?_eq_some_iff.1 ho).1
 | true=>
  simp only[hl,cond_true]at h2 gz dA
  generalize E.lastK id=k at *
  unfold Zuf at dA
  simp only[Bool.and_eq_true,List.all_eq_true]at dA
  obtain⟨⟨js,oY⟩,ll⟩:=dA
  have js:=Nat.le_of_ble_eq_true js
  have fX:∀i,ops.size - k≤i→i < ops.size→∃o,ops[i]?=some o∧(∀j,ops.size - k≤j→j < i→j∈Zbc o)∧(∀j∈Zbc o,j < i)∧(i=ops.size - k→∀j,j < ops.size - k→j∈Zbc o∨∃p∈Zbc o,∃c∈E.dr id,c.i=p∧j∈c.an):=by
   intro i h1 h2
   have:=oY (i - (ops.size - k)) (List.mem_range.2 (by omega))
   rw[show ops.size - k+(i - (ops.size - k))=i by omega]at this
   split at this
   ·cases this
   ·rename_i o ho
    simp only[Bool.and_eq_true,List.all_eq_true]at this
    refine⟨o,by simpa using ho,fun j rv hj=>?_,fun j hj=>Nat.le_of_ble_eq_true (this.2.1 j hj),fun hi j hj=>?_⟩
    ·have h3:=ZaW.1 (this.1 (j - (ops.size - k)) (List.mem_range.2 (by omega)))
     rw[show ops.size - k+(j - (ops.size - k))=j by omega]at h3
     exact h3
    ·have h3:=this.2.2
     rw[hi,Nat.sub_self]at h3
     simp only[show Nat.beq 0 0=true from rfl,cond_true,List.all_eq_true,Bool.or_eq_true,List.any_eq_true]at h3
     rcases h3 j (List.mem_range.2 hj)with h4|⟨p,hp,h4⟩
     ·exact .inl (ZaW.1 h4)
     ·obtain⟨c,hc,h5,h6⟩:=ZjZ (ZaW.1 h4)
      exact .inr ⟨p,hp,c,hc,h5,h6⟩
  have jB:∀d∈E.dr id,d.i < ops.size - k:=fun d hd=>Nat.le_of_ble_eq_true (ll d hd)
  have sW:(E.dr id).length+k≤ops.size:=by
   have lj:(E.dr id).Pairwise fun c d=>c.i≠d.i:=Zge fun l1 d l2 e c hc=>by
    obtain⟨o,_,_,h⟩:=Zj0 cB e
    exact(h c hc).2
   have dQ:((E.dr id).map (·.i)).Nodup:=by
    unfold List.Nodup
    rw[List.pairwise_map]
    exact lj
   have:=List.Nodup.length_le_of_subset dQ (l₂:=List.range (ops.size - k)) (fun j hj=>by
    obtain⟨d,hd,rfl⟩:=List.mem_map.1 hj
    exact List.mem_range.2 (jB d hd))
   simp at this
   omega
  have tail:∀(r:List Oper)(i:Nat),ops.toList.drop i=r→ops.size - k≤i→i≤ops.size→∀(fuel:Nat)(listed:Array Bool)(S':St)(m':Mem)(a':Act)(w':World),r.length≤fuel→listed.size=ops.size→(∀j,j < i→listed.getD j false=true)→(∀j,i≤j→listed.getD j false=false)→Zjc E ops K r S' m'→Rel C S' m' a' w'→wpAnyIn F n E.P .any ops Q fuel listed a' w':=by
   intro r
   induction r with
   | nil=>
    intro i hi h1 h2 fuel listed S' m' a' w' _ bT bM _ hk bB
    have:ops.size≤i:=by
     have:=congrArg List.length hi
     simp at this
     omega
    exact over fuel listed S' m' a' w' bT (fun j hj=>bM j (by omega)) hk bB
   | cons o r ih=>
    intro i hi h1 h2 fuel listed S' m' a' w' iE bT bM dE hk bB
    have eO:i < ops.size:=by
     have:=congrArg List.length hi
     simp at this
     omega
    obtain⟨o',ho',ro,fT,_⟩:=fX i h1 eO
    have jZ:ops.toList[i]?=some o:=by
     have:=congrArg (fun l=>l[0]?) hi
     simpa using this
    have oM:o'=o:=by
     have:ops.toList[i]?=some o':=by simpa using ho'
     rw[jZ]at this;cases this;rfl
    subst oM
    have oN:ops.toList.drop (i+1)=r:=by
     have:=congrArg (List.drop 1) hi
     simpa[List.drop_drop,Nat.add_comm]using this
    obtain⟨fuel,rfl⟩:∃k,fuel=k+1:=⟨fuel - 1,by simp at iE;omega⟩
    have gY:listed.getD i false=false:=dE i (Nat.le_refl _)
    have fR:i < listed.size:=by omega
    refine⟨fun cH=>?_,fun q hq=>?_⟩
    ·exfalso
     have:i∈Region.ready .any ops listed:=mem_ready.2 ⟨by simpa[Array.getD,fR]using gY,o',ho',fun e he hb=>?_⟩
     ·rw[cH]at this;simp at this
     ·have hm:e.on∈Zbc o':=by
       simp only[Zbc,List.mem_map,List.mem_filter]
       exact⟨e,⟨by simpa using he,hb⟩,rfl⟩
      exact bM _ (fT _ hm)
    ·obtain⟨l4,o2,eR,fI⟩:=mem_ready.1 hq
     have hq':q < ops.size:=(Array.getElem?_eq_some_iff.1 eR).1
     have:q=i:=by
      by_cases h3:q < i
      ·have h4:=bM q h3
       have hl:q < listed.size:=by omega
       simp[Array.getD,hl]at l4 h4
       rw[l4]at h4;cases h4
      ·by_cases h4:q=i
       ·exact h4
       ·exfalso
        obtain⟨o3,kH,jy,_⟩:=fX q (by omega) hq'
        rw[kH]at eR;cases eR
        have:=jy i h1 (by omega)
        simp only[Zbc,List.mem_map,List.mem_filter]at this
        obtain⟨e,⟨he,hb⟩,h5⟩:=this
        have:=fI e (by simpa using he) hb
        rw[h5,gY]at this;cases this
     subst this
     simp only[Zjc]at hk
     have:=ZhY hE hF hY (Zcq bA _ o' jZ) bB hk (n:=n) (Q:=Q) (next:=wpAnyIn F n E.P .any ops Q fuel (listed.setIfInBounds q true)) (fun S2 m2 a2 w2 eH fJ=>ih (q+1) oN (by omega) (by omega) fuel _ S2 m2 a2 w2 (by simp at iE;omega) (by simpa using bT) (fun j hj=>by
      by_cases e:j=q
      ·subst e;simp[Array.getD,fR]
      ·rw[getD_set_ne false (Ne.symm e)]
       exact bM j (by omega)) (fun j hj=>by
      rw[getD_set_ne false (by omega)]
      exact dE j (by omega)) eH fJ)
     unfold wpOpIn
     simp only[ho']
     exact this
  refine Znp hE hF hY bA (by simpa using gp) cB (e:=k) (fun listed rem i dH jA bT hi=>?_) (fun fuel listed S' m' a' w' iE bT bM jA hk bB=>?_) ops.size (rem:=E.dr id) (A:=m) (by simp) inv0 (by omega) ((Zns hr.drew (E.dr id))) (Mem.le_refl _) (fun j hj=>(none0 j hj).elim) (fun j hj=>(none0 j hj).elim) (fun _=>rfl) ids0 h2
  ·obtain⟨_,o2,eR,bM⟩:=mem_ready.1 hi
   have hi':i < ops.size:=(Array.getElem?_eq_some_iff.1 eR).1
   by_cases gA:i < ops.size - k
   ·exact .inl (gz i gA)
   ·right
    obtain⟨o3,kH,jy,_,oW⟩:=fX i (by omega) hi'
    have rF:o2=o3:=by rw[kH]at eR;cases eR;rfl
    subst rF
    have oZ:∀j∈Zbc o2,listed.getD j false=true:=fun j hj=>by
     simp only[Zbc,List.mem_map,List.mem_filter]at hj
     obtain⟨e,⟨he,hb⟩,h3⟩:=hj
     have:=bM e (by simpa using he) hb
     rw[h3]at this
     exact this
    intro d hd
    by_cases oX:i=ops.size - k
    ·rcases oW oX d.i (jB d hd)with h3|⟨p,hp,c,hc,h3,h4⟩
     ·exact oZ _ h3
     ·exact dH.closed c hc (h3 ▸ oZ p hp) d.i h4
    ·exfalso
     have h3:=oZ _ (jy (ops.size - k) (Nat.le_refl _) (by omega))
     obtain⟨d',hd',h4⟩:=jA _ h3
     have:=jB d' hd'
     omega
  ·unfold ZqP at hk
   refine tail _ (ops.size - k) rfl (Nat.le_refl _) (Nat.sub_le _ _) fuel listed S' m' a' w' (by simp;omega) bT (fun j hj=>?_) (fun j hj=>?_) hk bB
   ·obtain⟨d,hd,rfl⟩:=gz j hj
    exact bM d hd
   ·cases hb:listed.getD j false with
    | false=>rfl
    | true=>
     obtain⟨d,hd,h3⟩:=jA _ hb
     have:=jB d hd
     omega
theorem Rel.ptrS{C:Ctx}{S:St}{m:Mem}{a:Act}{w:World}(h:Rel C S m a w)(ts:List Nat):Rel C (ptrS S ts) m a w:=by
 refine h.restrict rfl (fun _ _ hx=>hx) (fun _ _ ht=>.inl ht) (fun t sv he=>?_) h.ids h.tkeys
 have den:∀sv,(Eng.ptrS S ts).den sv=S.den sv:=fun sv=>by cases sv <;> rfl
 rw[den]
 have he:(bif mem ts t then ZwC S (S.env t)else S.env t)=some sv:=he
 cases hm:mem ts t with
 | false=>rw[hm]at he;exact h.env t sv he
 | true=>
  rw[hm,cond_true]at he
  unfold ZwC at he
  split at he
  ·rename_i i off hi
   cases hx:S.L i with
   | none=>simp[hx]at he
   | some x=>
    simp only[hx,Option.some.injEq]at he
    subst he
    obtain⟨v,h1,h2⟩:=h.env t _ hi
    simp only[St.den,hx]at h1
    cases h1
    exact⟨_,rfl,h2⟩
  ·exact h.env t sv he
theorem ZpJ{E:Env}(hE:E.ok)(dN:E.P.follows .mixedOrders=true){C:Ctx}{F:Fence}(hF:FOk F)(hY:YOk E C)(n:Nat)(id:Nat)(ops:Array Oper){K:St→Mem→Prop}{S2:St}{m2:Mem}{a:Act}{w:World}{Q:Exit→Act→World→Prop}
  (bA:ZkT C.n ops.toList=true) (fA:Rel C S2 m2 a w) (h2:Zwi (E.ptrAt id) (Zar ops.toList) (ZjV E id ops) K S2 m2) (hK:∀S' m' a' w',K S' m'→Rel C S' m' a' w'→Q .normal a' w'):(Code.region id ops true).wpIn F n E.P Q a w:=by
 unfold Zwi at h2
 split at h2
 ·exact Zlc hE dN hF hY n id ops bA fA h2 hK
 ·rename_i t0 tl kA
  obtain⟨h3,h4⟩:=Zae h2
  generalize E.ptrAt id=ts at *
  have h5:=ZjW E id ops _ (fun S' m'=>SameOut (Zar ops.toList) (ptrS S2 ts) S'∧Zim S2 S' ts (K (Zug S2 S' ts) m')) _ m2 (fun S' m' hs _ y=>⟨hs,y⟩) h4
  refine Zlc hE dN hF hY n id ops bA (fA.ptrS ts) h5 (fun S' m' a' w' hk bB=>?_)
  obtain⟨hs,hk⟩:=hk
  obtain⟨hk,hp⟩:=Zgd hk
  refine hK _ m' a' w' hk (bB.restrict rfl (fun _ _ hx=>hx) (fun _ _ ht=>.inl ht) (fun t sv he=>?_) bB.ids bB.tkeys)
  have den:∀sv,(Zug S2 S' ts).den sv=S'.den sv:=fun sv=>by cases sv <;> rfl
  rw[den]
  have he:(bif mem ts t then S2.env t else S'.env t)=some sv:=he
  cases hm:mem ts t with
  | false=>rw[hm]at he;exact bB.env t sv he
  | true=>
   rw[hm,cond_true]at he
   have mY:=ZaW.1 hm
   have dQ:t ∉ Zar ops.toList:=fun hd=>by
    have:=List.all_eq_true.1 h3 t mY
    simp[ZaW.2 hd]at this
   have h6:=hs t dQ
   have h7:(ptrS S2 ts).env t=ZwC S2 (S2.env t):=by show(bif mem ts t then _ else _)=_;rw[hm];rfl
   rcases hp t mY with⟨i,off,q1,q2⟩|⟨v,q1⟩
   ·rw[q1]at he;cases he
    obtain⟨v,r1,r2⟩:=fA.env t _ q1
    simp only[St.den]at r1
    cases hx:S2.L i with
    | none=>simp[hx]at r1
    | some x=>
     rw[q1]at h7
     simp only[ZwC,hx]at h7
     obtain⟨u,r3,r4⟩:=bB.env t _ (h6.trans h7)
     simp only[St.den]at r3;cases r3
     refine⟨_,?_,r4⟩
     simp only[St.den,q2,hx]
   ·rw[q1]at he;cases he
    rw[q1]at h7
    exact bB.env t _ (h6.trans h7)
theorem Zg9{E:Env}(hE:E.ok)(dN:E.P.follows .mixedOrders=true):Zdg E (ZaZ E):=by
 intro C F hF hY n id ops K S m a w Q bA hr h hK
 obtain⟨S2,m2,fA,h2⟩:=ZhV hr h
 unfold Zt2 at h2
 split at h2
 ·exact ZpJ hE dN hF hY n id ops bA fA h2 hK
 ·rename_i key esz _
  obtain⟨h3,h4⟩:=Zae h2
  cases eI:E.m0 with
  | none=>simp[eI]at h4
  | some mm=>
   simp only[eI]at h4
   obtain⟨p,n',c,z1,z2,z3⟩:=h4
   refine ZpJ hE dN hF hY n id ops bA (fA.acq hY eI z1 z2) z3 (fun S' m' a' w' hk bB=>?_)
   split at hk
   ·exact hk.elim
   ·rename_i t ht
    obtain⟨ir,eH⟩:=Zae hk
    obtain⟨zs,oi,ol⟩:=bB.unacq ht
    exact hK _ _ _ _ (eH zs oi) ol
def Zha(fn:Func):Code:=match fn.body with
 | some c=>c
 | none=>.skip
def Env.at(E:Env)(m:Mem):Env:={ E with m0:=some m }
def FW(E:Env)(fn:Func)(svs:List SV)(xs:List Box)(m:Mem)(R:Value→Mem→List (List Value)→Prop):Prop:=
 W (E.at m) (ZaZ (E.at m)) (Zha fn) (Zxi (E.at m) fn.results.toList m xs R) (S0 svs xs) m
def Zwj(E:Env)(fn:Func)(svs:List SV)(xs:List Box):Bool:=
 !(fn.name == "runtime.NumGoroutine")&&fn.body.isSome&&Zav E (Zha fn)&&Zbj fn.ntmps (Zha fn)&&ZtL E.frz&&E.yl.isNone&&Nat.ble svs.length fn.ntmps&&Zk0 xs svs
theorem Zeg{fn:Func}(h:fn.body.isSome=true):fn.body=some (Zha fn):=by
 unfold Zha
 cases hb:fn.body with
 | none=>rw[hb]at h;cases h
 | some c=>rfl
theorem Zba(E:Env)(m:Mem):∀c:Code,Zav (E.at m) c=Zav E c
 | .region _ _ _=>rfl
 | .seq a b=>by simp only[Zav,Zba E m a,Zba E m b];rfl
 | .cond _ a b=>by simp only[Zav,Zba E m a,Zba E m b]
 | .block _ a=>by simp only[Zav,Zba E m a]
 | .loop a=>by simp only[Zav,Zba E m a];rfl
 | .rangeFunc _ _ a b=>by simp only[Zav,Zba E m a,Zba E m b]
 | .scope a=>by simp only[Zav,Zba E m a]
 | .skip=>rfl
 | .label _=>rfl
 | .goto _=>rfl
 | .exit _=>rfl
 | .ret=>rfl
 | .refuse _=>rfl
theorem Zad{E:Env}(hE:E.ok)(dN:E.P.follows .mixedOrders=true){g:FuncId}{fn:Func}(hf:E.P.funcs[g]?=some fn){m:Mem}{R:Value→Mem→List (List Value)→Prop}(svs:List SV)(xs:List Box)
  (cB:Zwj E fn svs xs=true) (h:FW E fn svs xs m R):CX E.P g (svs.map (Zoy xs)).toArray m xs R:=by
 simp only[Zwj,Bool.and_eq_true,Bool.not_eq_true']at cB
 obtain⟨⟨⟨⟨⟨⟨⟨h1,h2⟩,h3⟩,h4⟩,h5⟩,h8⟩,h6⟩,h7⟩:=cB
 exact Zt6 (E:=E.at m) hE (ZjX _) (Zg9 (E:=E.at m) hE dN) hf h1 (Zeg h2) (by rw[Zba];exact h3) h4 h5 (show E.yl=none by simpa using h8) (fun mm eU=>Option.some.inj eU) svs xs h6 h7 h
theorem ZaO(E:Env)(l:Nat)(xs:List (List Value)):∀c:Code,Zav (E.yields l xs) c=Zav E c
 | .region _ _ _=>rfl
 | .seq a b=>by simp only[Zav,ZaO E l xs a,ZaO E l xs b];rfl
 | .cond _ a b=>by simp only[Zav,ZaO E l xs a,ZaO E l xs b]
 | .block _ a=>by simp only[Zav,ZaO E l xs a]
 | .loop a=>by simp only[Zav,ZaO E l xs a];rfl
 | .rangeFunc _ _ a b=>by simp only[Zav,ZaO E l xs a,ZaO E l xs b]
 | .scope a=>by simp only[Zav,ZaO E l xs a]
 | .skip=>rfl
 | .label _=>rfl
 | .goto _=>rfl
 | .exit _=>rfl
 | .ret=>rfl
 | .refuse _=>rfl
def FWI(E:Env)(fn:Func)(first captured:List Value)(m:Mem)(xs:List (List Value)):Prop:=
 ∀l,W (E.yields l xs) (ZaZ (E.yields l xs)) (Zha fn) (Zwe E fn.results.toList xs.length) (S0 ((first++.func (.yield l) #[] #[]::captured).map .v) []) m
def Zwk(E:Env)(fn:Func)(k:Nat):Bool:=
 !(fn.name == "runtime.NumGoroutine")&&fn.body.isSome&&Zav E (Zha fn)&&Zbj fn.ntmps (Zha fn)&&Nat.ble (k+1) fn.ntmps
theorem Znt{E:Env}(hE:E.ok)(dN:E.P.follows .mixedOrders=true){g:FuncId}{fn:Func}(hf:E.P.funcs[g]?=some fn){m:Mem}(first captured:List Value)(xs:List (List Value))
  (cB:Zwk E fn (first.length+captured.length)=true) (h:FWI E fn first captured m xs):IX E.P g first captured m xs:=by
 simp only[Zwk,Bool.and_eq_true,Bool.not_eq_true']at cB
 obtain⟨⟨⟨⟨h1,h2⟩,h3⟩,h4⟩,h5⟩:=cB
 exact Zt7 (ZaZ:=ZaZ) hE hf h1 (Zeg h2) h4 first captured xs h5 fun l=>
  ⟨ZjX _,Zg9 (E:=E.yields l xs) hE dN,by rw[ZaO];exact h3,h l⟩
end Go.Eng
set_option linter.unusedSectionVars false
namespace Go.Eng
open Go Go.RowKit
set_option maxRecDepth 100000
def Zum:List ResultVar→Nat
 | [.tmp d]=>d
 | _=>0
def Zxc(E:Env)(rs:List ResultVar)(m0:Mem)(esz:Nat)(R:Value→Mem→List (List Value)→Prop)(S:St)(m:Mem):Prop:=
 Zvl E S m rs fun vs=>(match S.tok (E.tokOf (Zum rs))with
  | none=>ZrQ vs=.slice none 0 0
  | some t=>some t=some ⟨ZrQ vs,esz⟩)∧R (ZrQ vs) m []
def Zwl(E:Env)(rs:List ResultVar)(m0:Mem)(esz:Nat)(R:Value→Mem→List (List Value)→Prop):KT:=fun e S m=>match e with
 | .normal=>Zxc E rs m0 esz R S m
 | .ret=>Zxc E rs m0 esz R S m
 | _=>False
theorem ZsT{E:Env}(hE:E.ok){ZaZ:Nat→Array Oper→(St→Mem→Prop)→St→Mem→Prop}(hD:ZdW E ZaZ)(gn:Zdg E ZaZ){g:FuncId}{fn:Func}{c:Code}
  (hf:E.P.funcs[g]?=some fn) (hn:(fn.name == "runtime.NumGoroutine")=false) (hb:fn.body=some c) (hc:Zav E c=true) (hl:Zbj fn.ntmps c=true) (gv:E.yl=none)
  {m:Mem} (eI:∀mm,E.m0=some mm→m=mm) {esz:Nat} {R:Value→Mem→List (List Value)→Prop} (svs:List SV) (bQ:Nat.ble svs.length fn.ntmps=true) (cB:Zk0 [] svs=true)
  (h:W E ZaZ c (Zwl E fn.results.toList m esz R) (S0 svs []) m):CXT E.P g (svs.map (Zoy [])).toArray m esz R:=by
 refine⟨ZgN hf hn (by simp[hb]),fun w hs=>?_⟩
 have bB:=Zna (n:=fn.ntmps) (xs:=[]) hs (fun x hx=>by cases hx) List.nodup_nil cB (Nat.le_of_ble_eq_true bQ)
 refine callsIn_wide.1 (callsIn_of_wp_marks (F:=Fence.wide) (n:=0) hf hb trivial ?_)
 refine Zb5 hE hD gn c hc (.inl rfl) (YOk.none gv (fun mm eU=>⟨eI mm eU,fun g M w' hp k hk=>ZrZ (fun k hk=>by cases hk) hp k hk⟩)) (fun l hl=>by cases hl) 0 hl bB h ?_
 have key:∀S' m' a' w',Zxc E fn.results.toList m esz R S' m'→Rel (ZwA fn.ntmps m w (([]:List Box).map (·.b))) S' m' a' w'→LeavesInM Fence.wide 0 E.P fn a'.tmps (fun e w'=>
   ∃v m',e=Ending.returned v∧m.le m'∧Sub m' w'∧ZgK m m' w.heap.size∧Keep w.heap.size [] w w'∧TokOk m' w' ⟨v,esz⟩∧(∀b,(Tok.mk v esz).blk=some b→w.heap.size≤b)∧R v m' []) a'.defers .returning w':=by
  intro S' m' a' w' hk hr
  obtain⟨ms,q1,_,_⟩:=hr.defers
  refine Rel.leave ?_ ms a' w' rfl q1 hr
  clear hr q1
  intro a2 w2 ht hr
  rw[←ht]
  obtain⟨vs,⟨bY,hk⟩,bL⟩:=Zd4 hE hr hk
  obtain⟨M,hd⟩:=hr.dom
  have gH:∀b o v,m' b o=some v→m b o=some v∨w.heap.size≤b:=fun b o v hv=>by
   rcases hd.new b o v hv with h6|h6
   ·exact .inl h6
   ·rcases hd.p.2 b h6 with h6|h6
    ·exact .inr h6
    ·cases h6
  split at bY
  ·refine⟨ZrQ vs,ZcZ bL,ZrQ vs,m',rfl,hr.le,hr.sub,gH,hd.p.1,.inl bY,fun b hb=>?_,hk⟩
   rw[bY]at hb;simp[Tok.blk]at hb
  ·rename_i t ht
   cases bY
   refine⟨ZrQ vs,ZcZ bL,ZrQ vs,m',rfl,hr.le,hr.sub,gH,hd.p.1,(hr.toks _ _ ht).1,fun b hb=>?_,hk⟩
   rcases hd.p.2 b (hd.tok _ _ _ ht hb)with h6|h6
   ·exact h6
   ·cases h6
 intro e S' m' a' w' hk hr
 cases e with
 | normal=>exact key S' m' a' w' hk hr
 | ret=>exact key S' m' a' w' hk hr
 | exit _=>exact hk.elim
 | goto _=>exact hk.elim
 | panic _=>exact hk.elim
 | outgrown=>exact hk.elim
def FWT(E:Env)(fn:Func)(svs:List SV)(m:Mem)(esz:Nat)(R:Value→Mem→List (List Value)→Prop):Prop:=
 W (E.at m) (ZaZ (E.at m)) (Zha fn) (Zwl (E.at m) fn.results.toList m esz R) (S0 svs []) m
theorem ZoJ{E:Env}(hE:E.ok)(dN:E.P.follows .mixedOrders=true){g:FuncId}{fn:Func}(hf:E.P.funcs[g]?=some fn){m:Mem}{esz:Nat}{R:Value→Mem→List (List Value)→Prop}(svs:List SV)
  (cB:Zwj E fn svs []=true) (h:FWT E fn svs m esz R):CXT E.P g (svs.map (Zoy [])).toArray m esz R:=by
 simp only[Zwj,Bool.and_eq_true,Bool.not_eq_true']at cB
 obtain⟨⟨⟨⟨⟨⟨⟨h1,h2⟩,h3⟩,h4⟩,h5⟩,h8⟩,h6⟩,h7⟩:=cB
 exact ZsT (E:=E.at m) hE (ZjX _) (Zg9 (E:=E.at m) hE dN) hf h1 (Zeg h2) (by rw[Zba];exact h3) h4 (show E.yl=none by simpa using h8) (fun mm eU=>Option.some.inj eU) svs h6 h7 h
theorem CXT.toCX{P:Program}{g:FuncId}{args:Array Value}{m:Mem}{esz:Nat}{R:Value→Mem→List (List Value)→Prop}(h:CXT P g args m esz R):CX P g args m [] R:=
 ⟨h.1,fun w h1 _ _=>(h.2 w h1).mono fun _ _ ⟨v,m',a1,a2,a3,a4,a5,_,_,a8⟩=>⟨v,m',[],a1,a2,a3,a4,a5,rfl,fun i x cs hi=>by simp at hi,a8⟩⟩
theorem CXT.mono{P:Program}{g:FuncId}{args:Array Value}{m:Mem}{esz:Nat}{R R':Value→Mem→List (List Value)→Prop}(h:CXT P g args m esz R)(k:∀v m' css,m.le m'→R v m' css→R' v m' css):CXT P g args m esz R':=
 ⟨h.1,fun w h1=>(h.2 w h1).mono fun _ _ ⟨v,m',a1,a2,a3,a4,a5,a6,a7,a8⟩=>⟨v,m',a1,a2,a3,a4,a5,a6,a7,k _ _ _ a2 a8⟩⟩
def ZvE(m m':Mem)(esz:Nat)(v:Value):Prop:=v=.slice none 0 0∨∃b o n c,v=.slice (some ⟨b,o,none⟩) n c∧n≤c∧m.free b∧∀q,n*esz≤q→q < c*esz→∃u,m' b (o+q)=some u
theorem CXT.room{P:Program}{g:FuncId}{args:Array Value}{m:Mem}{esz:Nat}{R:Value→Mem→List (List Value)→Prop}(h:CXT P g args m esz R):CX P g args m [] (fun v m' _=>∃m1:Mem,m.le m1∧m1.le m'∧R v m1 []∧ZvE m m' esz v):=by
 refine⟨h.1,fun w h1 _ _=>(h.2 w h1).mono ?_⟩
 rintro e w' ⟨v,m',a1,a2,a3,a4,a5,a6,a7,a8⟩
 rcases a6 with h6|⟨b,o0,n,c,cur,T,fr,hv,gD,hh,bT,_,cM⟩
 ·exact⟨v,m',[],a1,a2,a3,a4,a5,rfl,fun i x cs hi=>by simp at hi,m',a2,Mem.le_refl _,a8,.inl h6⟩
 ·have hv:v=.slice (some ⟨b,o0,none⟩) n c:=hv
  have hb:w.heap.size≤b:=a7 b (by simp[Tok.blk,hv])
  have bS:m.free b:=fun o=>by
   cases he:m b o with
   | none=>rfl
   | some u=>have:=h1.lt he;omega
  have qZ:c*esz=n*esz+(c - n)*esz:=by rw[←Nat.add_mul];congr 1;omega
  have cM:∀o,o0+n*esz≤o→o < o0+c*esz→m' b o=none:=cM
  have bT:o0+c*esz≤cur.size:=bT
  obtain⟨P0,lG⟩:∃P0,P0=o0+n*esz:=⟨_,rfl⟩
  obtain⟨zs,li⟩:∃zs,zs=(cur.toList.drop P0).take ((c - n)*esz):=⟨_,rfl⟩
  have gE:zs.length=(c - n)*esz:=by rw[li];simp;omega
  have oh:∀q v,zs[q]?=some v→cur[P0+q]?=some v:=fun q v hq=>by
   rw[li,List.getElem?_take]at hq
   split at hq
   ·rw[List.getElem?_drop]at hq;simpa using hq
   ·cases hq
  have cI:m'.le (m'.addAt b P0 zs):=fun b' o v hv'=>by
   simp only[Mem.addAt]
   split
   ·rename_i hc
    obtain⟨rfl,ho⟩:=hc
    cases hz:zs[o - P0]? with
    | none=>simp only[hz];exact hv'
    | some u=>
     have hq:=(List.getElem?_eq_some_iff.1 hz).1
     rw[cM o (by omega) (by omega)]at hv';cases hv'
   ·exact hv'
  have cQ:∀b' o u,m'.addAt b P0 zs b' o=some u→m' b' o=some u∨(b'=b∧w'.cell? ⟨b',o,none⟩=some u):=fun b' o u hu=>by
   simp only[Mem.addAt]at hu
   split at hu
   ·rename_i hc
    obtain⟨rfl,ho⟩:=hc
    cases hz:zs[o - P0]? with
    | none=>simp only[hz]at hu;exact .inl hu
    | some x=>
     simp only[hz]at hu;cases hu
     have:=oh _ _ hz
     rw[show P0+(o - P0)=o by omega]at this
     refine .inr ⟨rfl,?_⟩
     simp only[World.cell?,hh]
     simpa using this
   ·exact .inl hu
  refine⟨v,m'.addAt b P0 zs,[],a1,Mem.le_trans a2 cI,fun b' o u hu=>(cQ b' o u hu).elim (a3 b' o u) (·.2),fun b' o u hu=>(cQ b' o u hu).elim (a4 b' o u) (fun h=>.inr (h.1 ▸ hb)),a5,rfl,fun i x cs hi=>by simp at hi,m',a2,cI,a8,.inr ⟨b,o0,n,c,hv,gD,bS,fun q iu lb=>?_⟩⟩
  have bA:o0+q - P0 < zs.length:=by omega
  refine⟨zs[o0+q - P0],?_⟩
  simp only[Mem.addAt]
  rw[if_pos ⟨trivial,by omega⟩,List.getElem?_eq_getElem bA]
end Go.Eng
namespace Go.Eng
open Go Go.RowKit
set_option maxRecDepth 100000
def ZlU:List Nat→List Tok→Nat→Option Tok
 | k::ks,t::ts=>fun i=>bif Nat.beq i k then some t else ZlU ks ts i
 | _,_=>fun _=>none
theorem Zjk:∀{ks:List Nat} {ts:List Tok} {i:Nat} {t:Tok},ZlU ks ts i=some t→∃q:Nat,ks[q]?=some i∧ts[q]?=some t
 | [],ts,i,t,h=>by simp[ZlU]at h
 | k::ks,[],i,t,h=>by simp[ZlU]at h
 | k::ks,t0::ts,i,t,h=>by
  by_cases hi:i=k
  ·subst hi;simp[ZlU]at h;subst h;exact⟨0,rfl,rfl⟩
  ·simp only[ZlU,Zaq hi,cond_false]at h
   obtain⟨q,h1,h2⟩:=Zjk h
   exact⟨q+1,by simpa using h1,by simpa using h2⟩
def S0Y(svs:List SV)(xs:List Box)(ks:List Nat)(ts:List Tok):St:={ S0 svs xs with tok:=ZlU ks ts,tkeys:=ks }
def Zj2(S:St):List Nat→List Tok→(List Value→Prop)→Prop
 | k::ks,t::ts,r=>match S.tok k with
  | none=>False
  | some t'=>chk (Nat.beq t'.esz t.esz) (Zj2 S ks ts fun tvs=>r (t'.v::tvs))
 | [],[],r=>r []
 | _,_,_=>False
theorem Ze5{S:St}:∀{ks:List Nat} {ts:List Tok} {r:List Value→Prop},Zj2 S ks ts r→∃tvs,tvs.length=ts.length∧ks.length=ts.length∧(∀(i:Nat)(t:Tok)(tv:Value),ts[i]?=some t→tvs[i]?=some tv→∃k:Nat,ks[i]?=some k∧S.tok k=some ⟨tv,t.esz⟩)∧r tvs
 | [],[],r,h=>⟨[],rfl,rfl,fun i t tv h=>by simp at h,h⟩
 | [],_::_,r,h=>h.elim
 | _::_,[],r,h=>h.elim
 | k::ks,t::ts,r,h=>by
  unfold Zj2 at h
  cases ht:S.tok k with
  | none=>simp[ht]at h
  | some t'=>
   simp only[ht]at h
   obtain⟨h1,h2⟩:=Zae h
   have he:=Nat.eq_of_beq_eq_true h1
   obtain⟨tvs,g1,g2,g3,g4⟩:=Ze5 h2
   refine⟨t'.v::tvs,by simp[g1],by simp[g2],fun i t0 tv hi hv=>?_,g4⟩
   cases i with
   | zero=>
    simp at hi hv;subst hi hv
    exact⟨k,rfl,by rw[ht,←he]⟩
   | succ i=>simpa using g3 i t0 tv (by simpa using hi) (by simpa using hv)
def Zvs(E:Env)(rs:List ResultVar)(xs:List Box)(ks:List Nat)(ts:List Tok)(R:Value→Mem→List (List Value)→List Value→Prop)(S:St)(m:Mem):Prop:=
 Zvl E S m rs fun vs=>ZtK S 0 xs fun css=>Zj2 S ks ts fun tvs=>R (ZrQ vs) (ZrT S E.frz m) css tvs
def Zwm(E:Env)(rs:List ResultVar)(xs:List Box)(ks:List Nat)(ts:List Tok)(R:Value→Mem→List (List Value)→List Value→Prop):KT:=fun e S m=>match e with
 | .normal=>Zvs E rs xs ks ts R S m
 | .ret=>Zvs E rs xs ks ts R S m
 | _=>False
def Zvt(n:Nat)(m:Mem)(w:World)(B:Nat→Prop):Ctx where
 n:=n
 m0:=m
 p:=fun _ M w'=>Upd B w w'∧∀k,M k→w.heap.size≤k∨B k
 st:=by
  rintro g M M' w1 w2 ⟨h1,h2⟩ hu hg
  refine⟨⟨hu.os.trans h1.os,hu.tape.trans h1.tape,hu.output.trans h1.output,Nat.le_trans h1.size hu.size,fun k hk hn=>?_,fun k hk=>hu.wr k (h1.wr k hk)⟩,fun k hk=>?_⟩
  ·rw[hu.block k (Nat.lt_of_lt_of_le hk h1.size) fun hm=>?_,h1.block k hk hn]
   rcases h2 k hm with h|h
   ·omega
   ·exact hn h
  ·rcases hg k hk with h|h
   ·exact h2 k h
   ·have:=h1.size;exact .inl (by omega)
theorem ZoK{n:Nat}{w:World}{m:Mem}{Y:Nat→Prop}{xs:List Box}{svs:List SV}{ks:List Nat}{ts:List Tok}(hs:Sub m w)(hx:∀x∈xs,Own m w x∧x.fz=false∧¬Y x.b)(dQ:(xs.map (·.b)).Nodup)(cB:Zk0 xs svs=true)(hn:svs.length≤n)
  (ht:∀t∈ts,TokOk m w t∧∀b,t.blk=some b→Y b) (jS:ZtG ts) (hY:∀b,Y b→b < w.heap.size∧Wr w b):
  Rel (Zvt n (m.off Y) w (fun k=>k∈xs.map (·.b)∨Y k)) (S0Y svs xs ks ts) m { tmps:=(svs.map (Zoy xs)).toArray++Array.replicate (n - (svs.map (Zoy xs)).toArray.size) undef,defers:=[] } w:=by
 have hL:∀id x,(S0Y svs xs ks ts).L id=some x→100000≤id∧xs[id - 100000]?=some x:=fun id x h=>by
  simp only[S0Y,S0]at h
  cases hb:Nat.ble 100000 id with
  | false=>simp[hb]at h
  | true=>simp only[hb,cond_true]at h;exact⟨Nat.le_of_ble_eq_true hb,h⟩
 have hT:∀k t,(S0Y svs xs ks ts).tok k=some t→∃q:Nat,ks[q]?=some k∧ts[q]?=some t:=fun k t h=>Zjk h
 refine⟨⟨[],rfl,List.nodup_nil,by simp⟩,by simp[Zvt];omega,?_,?_,?_,?_,?_,?_,?_,hs,Mem.off_le m Y,⟨fun k=>k∈xs.map (·.b)∨Y k,⟨Upd.refl _ _,fun k hk=>.inr hk⟩,fun k hk=>?_,fun id x hx=>?_,fun k t b h1 h2=>?_,by simp,fun b o v hv=>?_⟩⟩
 ·intro i sv he
  simp only[S0Y,S0]at he
  have bA:=(List.getElem?_eq_some_iff.1 he).1
  have h1:=Zh0 cB i sv he
  refine⟨Zoy xs sv,?_,?_⟩
  ·cases sv with
   | v x=>rfl
   | loc id off=>
    simp only[ZvB,Bool.and_eq_true]at h1
    have h2:id - 100000 < xs.length:=ZlS h1.2
    simp[St.den,S0Y,S0,Zoy,h1.1,List.getElem?_eq_getElem h2]
   | sl id n c=>
    simp only[ZvB,Bool.and_eq_true]at h1
    have h2:id - 100000 < xs.length:=ZlS h1.2
    simp[St.den,S0Y,S0,Zoy,h1.1,List.getElem?_eq_getElem h2]
  ·rw[Array.getElem?_append_left (by simpa using bA)]
   simp[he]
 ·intro id x hx'
  exact(hx x (List.mem_of_getElem? (hL id x hx').2)).1
 ·intro id id' x x' h1 h2 hb
  obtain⟨g1,g2⟩:=hL _ _ h1
  obtain⟨g3,g4⟩:=hL _ _ h2
  have hi:=(List.getElem?_eq_some_iff.1 g2).1
  have:=(List.getElem?_inj (l:=xs.map (·.b)) (i:=id - 100000) (j:=id' - 100000) (by simpa using hi) dQ).1 (by simp[g2,g4,hb])
  omega
 ·intro id x h1
  obtain⟨g1,g2⟩:=hL _ _ h1
  have hi:=(List.getElem?_eq_some_iff.1 g2).1
  simp only[S0Y,S0,List.mem_map,List.mem_range,bid]
  exact⟨id - 100000,hi,by omega⟩
 ·intro k t h1
  obtain⟨q,_,h2⟩:=hT k t h1
  obtain⟨g1,g2⟩:=ht t (List.mem_of_getElem? h2)
  exact⟨g1,fun b hb=>⟨fun id x lW e=>(hx x (List.mem_of_getElem? (hL id x lW).2)).2.2 (e ▸ g2 b hb),Mem.off_free (g2 b hb)⟩⟩
 ·intro k t h1
  obtain⟨q,h2,_⟩:=hT k t h1
  exact List.mem_of_getElem? h2
 ·intro k k' t t' b h1 h2 h3 h4
  obtain⟨q,g1,g2⟩:=hT k t h1
  obtain⟨q',g3,g4⟩:=hT k' t' h2
  have:=jS q q' t t' b g2 g4 h3 h4
  subst this
  rw[g1]at g3;exact Option.some.inj g3
 ·rcases hk with hk|hk
  ·obtain⟨x,h1,h2⟩:=List.mem_map.1 hk
   exact h2 ▸ (hx x h1).1.lt
  ·exact(hY k hk).1
 ·exact .inl (List.mem_map.2 ⟨x,List.mem_of_getElem? (hL id x hx).2,rfl⟩)
 ·obtain⟨q,_,g2⟩:=hT k t h1
  exact .inr ((ht t (List.mem_of_getElem? g2)).2 b h2)
 ·by_cases fP:Y b
  ·exact .inr (.inr fP)
  ·exact .inl (by show m.off Y b o=some v;rw[Mem.off_at fP];exact hv)
theorem TokOk.sl{m:Mem}{w:World}{t:Tok}(h:TokOk m w t):ZbS t.v=true:=by
 rcases h with h|⟨b,o0,n,c,_,_,_,h,_⟩
 ·rw[h];rfl
 ·rw[h];rfl
theorem ZsU{E:Env}(hE:E.ok){ZaZ:Nat→Array Oper→(St→Mem→Prop)→St→Mem→Prop}(hD:ZdW E ZaZ)(gn:Zdg E ZaZ){g:FuncId}{fn:Func}{c:Code}
  (hf:E.P.funcs[g]?=some fn) (hn:(fn.name == "runtime.NumGoroutine")=false) (hb:fn.body=some c) (hc:Zav E c=true) (hl:Zbj fn.ntmps c=true) (hz:ZtL E.frz=true) (gv:E.yl=none)
  {m:Mem} {Y:Nat→Prop} (eI:∀mm,E.m0=some mm→m.off Y=mm) {R:Value→Mem→List (List Value)→List Value→Prop} (svs:List SV) (xs:List Box) (ks:List Nat) (ts:List Tok) (js:Za6 ks=true) (bQ:Nat.ble svs.length fn.ntmps=true) (cB:Zk0 xs svs=true)
  (h:W E ZaZ c (Zwm E fn.results.toList xs ks ts R) (S0Y svs xs ks ts) m):CXY E.P g (svs.map (Zoy xs)).toArray m Y xs ts R:=by
 refine⟨ZgN hf hn (by simp[hb]),fun w hs hx dQ ht jS hY=>?_⟩
 have bB:=ZoK (n:=fn.ntmps) (ks:=ks) hs hx dQ cB (Nat.le_of_ble_eq_true bQ) ht jS hY
 refine callsIn_wide.1 (callsIn_of_wp_marks (F:=Fence.wide) (n:=0) hf hb trivial ?_)
 refine Zb5 hE hD gn c hc (.inl rfl) (YOk.none gv (fun mm eU=>⟨eI mm eU,fun g M w' hp k hk=>?_⟩)) (fun l hl=>by cases hl) 0 hl bB h ?_
 ·rcases hp.2 k hk with h1|h1|h1
  ·exact hp.1.wr k (Wr.of_none h1)
  ·obtain⟨x,h2,rfl⟩:=List.mem_map.1 h1
   exact hp.1.wr _ (hx x h2).1.wr
  ·exact hp.1.wr k (hY k h1).2
 have key:∀S' m' a' w',Zvs E fn.results.toList xs ks ts R S' m'→Rel (Zvt fn.ntmps (m.off Y) w (fun k=>k∈xs.map (·.b)∨Y k)) S' m' a' w'→LeavesInM Fence.wide 0 E.P fn a'.tmps (fun e w'=>
   ∃v m' css tvs,e=.returned v∧(m.off Y).le m'∧Sub m' w'∧(∀b o u,m' b o=some u→m b o=some u∨Y b∨w.heap.size≤b)∧Upd (fun k=>k∈xs.map (·.b)∨Y k) w w'∧
   css.length=xs.length∧(∀(i:Nat)(x:Box)(cs:List Value),xs[i]?=some x→css[i]?=some cs→Own m' w' { x with cs:=cs })∧
   tvs.length=ts.length∧(∀(i:Nat)(t:Tok)(tv:Value),ts[i]?=some t→tvs[i]?=some tv→ZbS tv=true∧TokOk m' w' ⟨tv,t.esz⟩∧∀b,(Tok.mk tv t.esz).blk=some b→(Y b∨w.heap.size≤b)∧b ∉ xs.map (·.b))∧
   ZtG ((ts.zip tvs).map fun q=>⟨q.2,q.1.esz⟩)∧R v m' css tvs) a'.defers .returning w':=by
  intro S' m' a' w' hk hr
  obtain⟨ms,q1,_,_⟩:=hr.defers
  refine Rel.leave ?_ ms a' w' rfl q1 hr
  clear hr q1
  intro a2 w2 rG hr
  rw[←rG]
  obtain⟨vs,hk,bL⟩:=Zd4 hE hr hk
  obtain⟨css,h1,h2,hk⟩:=Zgb hk
  obtain⟨tvs,k1,k2,k3,h5⟩:=Ze5 hk
  obtain⟨M,hd⟩:=hr.dom
  simp only[ZtL,Bool.and_eq_true]at hz
  have oH:=ZaE hz.1
  have k7:=ZaE js
  obtain⟨f1,f2,f3⟩:=Zpu hr oH
  have frzlt:∀id∈E.frz,id < 100000:=fun id cL=>ZlS (List.all_eq_true.1 hz.2 id cL)
  have boxOf:∀b,b∈xs.map (·.b)→∃(i:Nat)(x:Box)(cs:List Value),xs[i]?=some x∧x.b=b∧S'.L (bid i)=some { x with cs:=cs }:=fun b hb=>by
   obtain⟨y,hy,fP⟩:=List.mem_map.1 hb
   obtain⟨i,hi⟩:=List.getElem?_of_mem hy
   obtain⟨cs,_,ik⟩:=h2 i y hi
   exact⟨i,y,cs,hi,fP,by rw[Nat.zero_add]at ik;exact ik⟩
  have tokY:∀(i:Nat)(t:Tok)(tv:Value),ts[i]?=some t→tvs[i]?=some tv→∃k:Nat,ks[i]?=some k∧S'.tok k=some ⟨tv,t.esz⟩:=k3
  have frzNb:∀id∈E.frz,∀x,S'.L id=some x→x.b ∉ xs.map (·.b):=fun id cL x eN hm=>by
   obtain⟨i,y,cs,_,fP,ik⟩:=boxOf _ hm
   have:=hr.apart _ _ _ _ eN ik fP.symm
   have:=frzlt id cL
   simp only[bid]at *
   omega
  refine⟨ZrQ vs,ZcZ bL,ZrQ vs,ZrT S' E.frz m',css,tvs,rfl,Mem.le_trans hr.le f1,f2,?_,hd.p.1,h1,?_,k1,?_,?_,h5⟩
  ·intro b o u hu
   have inM:M b→m b o=some u∨Y b∨w.heap.size≤b∨b∈xs.map (·.b):=fun hm=>by
    rcases hd.p.2 b hm with h|h|h
    ·exact .inr (.inr (.inl h))
    ·exact .inr (.inr (.inr h))
    ·exact .inr (.inl h)
   rcases f3 b o u hu with hv|⟨id,cL,x,eN,fY⟩
   ·rcases hd.new b o u hv with h6|h6
    ·exact .inl (Mem.off_le m Y b o u h6)
    ·rcases inM h6 with h|h|h|h
     ·exact .inl h
     ·exact .inr (.inl h)
     ·exact .inr (.inr h)
     ·exfalso
      obtain⟨i,y,cs,hi,fP,ik⟩:=boxOf b h
      have:=(hr.own _ _ ik).free (hx y (List.mem_of_getElem? hi)).2.1 o
      simp only[fP]at this
      rw[this]at hv;cases hv
   ·subst fY
    rcases inM (hd.own id x eN)with h|h|h|h
    ·exact .inl h
    ·exact .inr (.inl h)
    ·exact .inr (.inr h)
    ·exact(frzNb id cL x eN h).elim
  ·intro i x cs hi cR
   obtain⟨cs',h6,h7⟩:=h2 i x hi
   rw[cR]at h6;cases h6
   have ho:=hr.own _ _ h7
   have lV:=(hx x (List.mem_of_getElem? hi)).2.1
   refine⟨ho.cells,fun _ o=>?_,fun hz'=>by simp[lV]at hz',ho.whole⟩
   show ZrT S' E.frz m' x.b o=none
   rw[Zd5 S' m' (fun id cL y hy e=>frzNb id cL y hy (e ▸ List.mem_map.2 ⟨x,List.mem_of_getElem? hi,rfl⟩))]
   exact ho.free lV o
  ·intro i t tv hi hv
   obtain⟨k,g1,g2⟩:=tokY i t tv hi hv
   obtain⟨g3,g4⟩:=hr.toks k _ g2
   refine⟨g3.sl,g3.same (fun _ _=>rfl) (fun b o hb hn=>?_),fun b hb=>⟨?_,fun hm=>?_⟩⟩
   ·rw[Zd5 S' m' (fun id _ y hy e=>(g4 b hb).1 id y hy e)];exact hn
   ·rcases hd.p.2 b (hd.tok _ _ _ g2 hb)with h|h|h
    ·exact .inr h
    ·obtain⟨i,y,cs,_,fP,ik⟩:=boxOf b h
     exact((g4 b hb).1 _ _ ik fP).elim
    ·exact .inl h
   ·obtain⟨i,y,cs,_,fP,ik⟩:=boxOf b hm
    exact(g4 b hb).1 _ _ ik fP
  ·intro i j t t' b hi hj eZ dT
   rw[List.getElem?_map]at hi hj
   obtain⟨⟨t0,tv⟩,gA,rfl⟩:=Option.map_eq_some_iff.1 hi
   obtain⟨⟨t0',tv'⟩,rH,rfl⟩:=Option.map_eq_some_iff.1 hj
   obtain⟨a1,a2⟩:=List.getElem?_zip_eq_some.1 gA
   obtain⟨a3,a4⟩:=List.getElem?_zip_eq_some.1 rH
   obtain⟨k,g1,g2⟩:=tokY i t0 tv a1 a2
   obtain⟨k',g3,g4⟩:=tokY j t0' tv' a3 a4
   have:=hr.tapart k k' _ _ b g2 g4 eZ dT
   subst this
   have hi':=(List.getElem?_eq_some_iff.1 g1).1
   exact(List.getElem?_inj (l:=ks) (i:=i) (j:=j) hi' k7).1 (by rw[g1,g3])
 intro e S' m' a' w' hk hr
 cases e with
 | normal=>exact key S' m' a' w' hk hr
 | ret=>exact key S' m' a' w' hk hr
 | exit _=>exact hk.elim
 | goto _=>exact hk.elim
 | panic _=>exact hk.elim
 | outgrown=>exact hk.elim
def FWY(E:Env)(fn:Func)(svs:List SV)(xs:List Box)(ks:List Nat)(ts:List Tok)(m:Mem)(Y:Nat→Prop)(R:Value→Mem→List (List Value)→List Value→Prop):Prop:=
 W (E.at (m.off Y)) (ZaZ (E.at (m.off Y))) (Zha fn) (Zwm (E.at (m.off Y)) fn.results.toList xs ks ts R) (S0Y svs xs ks ts) m
theorem ZoL{E:Env}(hE:E.ok)(dN:E.P.follows .mixedOrders=true){g:FuncId}{fn:Func}(hf:E.P.funcs[g]?=some fn){m:Mem}{Y:Nat→Prop}{R:Value→Mem→List (List Value)→List Value→Prop}(svs:List SV)(xs:List Box)(ks:List Nat)(ts:List Tok)(js:Za6 ks=true)
  (cB:Zwj E fn svs xs=true) (h:FWY E fn svs xs ks ts m Y R):CXY E.P g (svs.map (Zoy xs)).toArray m Y xs ts R:=by
 simp only[Zwj,Bool.and_eq_true,Bool.not_eq_true']at cB
 obtain⟨⟨⟨⟨⟨⟨⟨h1,h2⟩,h3⟩,h4⟩,h5⟩,h8⟩,h6⟩,h7⟩:=cB
 exact ZsU (E:=E.at (m.off Y)) hE (ZjX _) (Zg9 (E:=E.at (m.off Y)) hE dN) hf h1 (Zeg h2) (by rw[Zba];exact h3) h4 h5 (show E.yl=none by simpa using h8) (fun mm eU=>Option.some.inj eU) svs xs ks ts js h6 h7 h
theorem CXY.mono{P:Program}{g:FuncId}{args:Array Value}{m:Mem}{Y:Nat→Prop}{X:List Box}{ts:List Tok}{R R':Value→Mem→List (List Value)→List Value→Prop}(h:CXY P g args m Y X ts R)(k:∀v m' css tvs,(m.off Y).le m'→R v m' css tvs→R' v m' css tvs):CXY P g args m Y X ts R':=
 ⟨h.1,fun w h1 h2 h3 h4 h5 h6=>(h.2 w h1 h2 h3 h4 h5 h6).mono fun _ _ ⟨v,m',css,tvs,a1,a2,a3,a4,a5,a6,a7,a8,a9,a10,a11⟩=>⟨v,m',css,tvs,a1,a2,a3,a4,a5,a6,a7,a8,a9,a10,k _ _ _ _ a2 a11⟩⟩
end Go.Eng
namespace Go.Eng
open Go Go.RowKit
def zok(i:TI):Bool:=Nat.beq i.zero.cells.size i.size&&Zcb i.zero.cells.toList&&(i.agg||Nat.beq i.size 1)
structure TRow (P:Program)(t:TypeId)(i:TI):Prop where
 und:P.underlying t=some i.d
 info:(P.info? t).map (fun x=>(x.size,x.zero,x.bytes))=some (i.size,some i.zero,i.bytes)
 ok:zok i=true
theorem TRow.tok{P:Program}{t:TypeId}{i:TI}(h:TRow P t i):TOk P t i:=by
 have hz:=h.ok
 simp only[zok,Bool.and_eq_true,Bool.or_eq_true]at hz
 refine⟨h.und,?_,Nat.eq_of_beq_eq_true hz.1.1,Zfy hz.1.2,fun ha=>?_⟩
 ·obtain⟨x,hx,e⟩:=Option.map_eq_some_iff.1 h.info
  simp only[Prod.mk.injEq]at e
  exact⟨x,hx,e.1,e.2.1,e.2.2⟩
 ·rcases hz.2 with h1|h1
  ·rw[ha]at h1;cases h1
  ·exact Nat.eq_of_beq_eq_true h1
def ZtN:List (Nat×TI)→Nat→Option TI
 | [],_=>none
 | q::l,t=>bif Nat.beq t q.1 then some q.2 else ZtN l t
def Zvu(P:Program):List (Nat×TI)→Prop
 | []=>True
 | q::l=>TRow P q.1 q.2∧Zvu P l
theorem ZpK{P:Program}:∀{l:List (Nat×TI)},Zvu P l→∀t i,ZtN l t=some i→TOk P t i
 | [],_,t,i,h=>by simp[ZtN]at h
 | q::l,hl,t,i,h=>by
  simp only[ZtN]at h
  cases hb:Nat.beq t q.1 with
  | true=>
   simp only[hb,cond_true,Option.some.injEq]at h
   rw[Nat.eq_of_beq_eq_true hb,←h];exact hl.1.tok
  | false=>simp only[hb,cond_false]at h;exact ZpK hl.2 t i h
abbrev Za0(l:List (Option Box)):Prop:=l=l
end Go.Eng
namespace Go.Eng
open Go Go.RowKit
abbrev Ret(u:Value):Value→Mem→List (List Value)→Prop:=fun v _ _=>v=u
theorem Zac{m m':Mem}{R:Value→Mem→List (List Value)→Prop}{v:Value}(h:m.le m')(k:R v m []):∃m'':Mem,m.le m''∧m''.le m'∧R v m'' []:=⟨m,Mem.le_refl m,h,k⟩
theorem Zr4{m m':Mem}{R:Value→Mem→List (List Value)→Prop}{v:Value}(h:m.le m')(k:R v m' []):∃m'':Mem,m.le m''∧m''.le m'∧R v m'' []:=⟨m',h,Mem.le_refl _,k⟩
section
variable {P:Program} {g:FuncId} {args:Array Value} {m:Mem}
theorem Zak{K:Bool→Mem→Prop}{x:Bool}(h:CX P g args m [] (Ret (.bool x)))(k:∀m',m.le m'→K x m'):
  ∃R:Value→Mem→List (List Value)→Prop,True∧CX P g args m [] R∧(∀(v:Value)(m':Mem) (css:List (List Value)),R v m' css→Shape.fits .bool v=true)∧∀(b:Bool)(m':Mem),m.le m'→R (.bool b) m' []→K b m':=
 ⟨_,trivial,h,fun v _ _ e=>by rw[e];rfl,fun b m' hm e=>by cases e;exact k m' hm⟩
theorem Zat{kk:IntKind}{K:Int→Mem→Prop}{x:Int}(h:CX P g args m [] (Ret (.int kk x)))(k:∀m',m.le m'→K x m'):
  ∃R:Value→Mem→List (List Value)→Prop,True∧CX P g args m [] R∧(∀(v:Value)(m':Mem) (css:List (List Value)),R v m' css→Shape.fits (.int kk) v=true)∧∀(b:Int)(m':Mem),m.le m'→R (.int kk b) m' []→K b m':=
 ⟨_,trivial,h,fun v _ _ e=>by rw[e];simp[Shape.fits],fun b m' hm e=>by cases e;exact k m' hm⟩
theorem Zan{s:Shape}{R:Value→Mem→List (List Value)→Prop}{Q:(Value→Mem→List (List Value)→Prop)→Prop}(h:CX P g args m [] R)(hs:∀(v:Value)(m':Mem) (css:List (List Value)),R v m' css→s.fits v=true)(k:Q R):
  ∃R:Value→Mem→List (List Value)→Prop,True∧CX P g args m [] R∧(∀(v:Value)(m':Mem) (css:List (List Value)),R v m' css→s.fits v=true)∧Q R:=⟨R,trivial,h,hs,k⟩
end
theorem ZqZ{b:Bool}{p q:Prop}:br b p q↔(if b=true then p else q):=by cases b <;> simp[br]
theorem Zj3{b x:Bool}{p q:Prop}(h:b=x)(k:bif x then p else q):br b p q:=by subst h;cases b <;> exact k
theorem Zap{n:Int}(h1 : -9223372036854775808≤n)(h2:n≤9223372036854775807):IntKind.i64.wrap n=n:=by
 unfold IntKind.wrap
 simp only[IntKind.bits,IntKind.signed,Bool.true_and]
 have e:(2:Int) ^ 64=18446744073709551616:=by decide
 have e':(2:Int) ^ (64 - 1)=9223372036854775808:=by decide
 simp only[e,e']
 split
 ·rename_i h
  have:=of_decide_eq_true h
  omega
 ·rename_i h
  have:¬(n % 18446744073709551616 ≥ 9223372036854775808):=fun hh=>h (decide_eq_true hh)
  omega
theorem Zh5{f f':Nat}{a b a' b':List Value}(h:Value.func (.func f) a.toArray b.toArray=.func (.func f') a'.toArray b'.toArray):f=f'∧a=a'∧b=b':=by
 simpa using h
theorem Zr5{k:IntKind}{a b:Int}(h:[Value.int k a]=[Value.int k b]):a=b:=by simpa using h
theorem ZaL{a b:Bool}(h:a=b):[Value.bool a]=[Value.bool b]:=by rw[h]
end Go.Eng
namespace Go.Eng
open Go Go.RowKit Go.ChangeShapes Go.WideShapes
def ZpL(W:World):Mem:=fun b o=>W.cell? ⟨b,o,none⟩
theorem Zgf{H:Type}{enc:TypeId×Value→H}{P:Program}(hl:laidOutB P=true){W W':World}{sp:Nat→Bool}:∀{ts:List TypeId} {vs:List Value} {ds:List (DataW H)} {ps:List MemPlace},(∀t∈ts,P.readableRec t=true∧t < P.types.size)→DataW.TrodAll enc P W 0 (fun _=>true) true ts vs ds ps→(∀p∈ps,W.sameAt W' p)→(∀p∈ps,sp p.block=true)→DataW.TrodAll enc P W' 0 sp true ts vs ds ps
 | [],[],[],ps,_,h,_,_=>h
 | t::ts,v::vs,d::ds,ps,ht,h,hs,qd=>by
  obtain⟨p,q,h1,h2,rfl⟩:=h
  exact⟨p,q,WideElems.Trod_stays hl (ht t (by simp)).1 (ht t (by simp)).2 h1 (fun x hx=>hs x (by simp[hx])) (fun x hx=>qd x (by simp[hx])),Zgf hl (fun t' h'=>ht t' (by simp[h'])) h2 (fun x hx=>hs x (by simp[hx])) (fun x hx=>qd x (by simp[hx])),rfl⟩
 | [],[],_::_,_,_,h,_,_=>h.elim
 | [],_::_,_,_,_,h,_,_=>by simp[DataW.TrodAll]at h
 | _::_,[],_,_,_,h,_,_=>by simp[DataW.TrodAll]at h
 | _::_,_::_,[],_,_,h,_,_=>h.elim
theorem Zq0{H:Type}{enc:TypeId×Value→H}{P:Program}{g:FuncId}{f:Func}{s:ChangeSpec}{W:World}{args:Array Value}{ds gs:List (DataW H)}{before:List MemPlace}{tb:TypeId}(hl:laidOutB P=true)
  (kA:∀t∈f.params.toList,P.readableRec t=true∧t < P.types.size) (hW:DataW.Whole enc P f.params.toList s.vars false W args.toList ds gs before) (hv:s.vars=[])
  (hr:(s.fn H (ds++gs)).results=[.lit (.bool true)]) (ha:(s.fn H (ds++gs)).args=ds) (hw:(s.fn H (ds++gs)).vars=[]) (jt:f.resultTypes=#[tb]) (rI:P.underlying tb=some .bool)
  (eM:CX P g args (ZpL W) [] (Ret (.bool true))):
  Calls P g args W fun e W'=>∃v,e=.returned v∧s.post enc P f false true false false W args v W':=by
 refine(eM.2 W (fun _ _ _ h=>h) (by simp) (by simp)).mono ?_
 rintro e W' ⟨v,m',css,rfl,hm,cC,cT,hk,_,_,rfl⟩
 have hb:Below W.heap.size W W':=hk.below
 have bA:∀p∈before,p.block < W.heap.size:=fun p hp=>by simpa using hW.lt p hp
 have hW':=hW
 obtain⟨p,q,hA,hV,rfl,hz,hn⟩:=hW
 rw[hv]at hV
 obtain⟨rfl,rfl⟩:gs=[]∧q=[]:=by
  cases gs with
  | nil=>exact⟨rfl,hV⟩
  | cons g gs=>exact hV.elim
 refine⟨_,rfl,ds,[],p++[],[],p,[],hW',?_,?_,?_,hb.frame _,fun h=>by cases h⟩
 ·rw[hr,jt]
  exact trodAll_cons_mk (shut_bool rI _) trodAll_mk0
 ·rw[ha]
  exact Zgf hl kA hA (fun x hx=>hb.same (bA x (by simp[hx]))) (fun x hx=>by simpa using bA x (by simp[hx]))
 ·rw[hw,hv];rfl
end Go.Eng
