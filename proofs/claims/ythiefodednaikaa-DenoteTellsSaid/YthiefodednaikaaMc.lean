/- The engine: a reckoner over the code of a program in Lean, with its soundness; it names no program. No condition. -/
import Derived.Test.YthiefodednaikaaMb
import Derived.OrdersIn
import Derived.ProofKit
import Derived.OpenShut
import Derived.JoinedCond
import Derived.Deep.Slices
set_option linter.unusedVariables false
set_option linter.unusedSimpArgs false
namespace Go.Eng
open Go Go.RowKit
theorem ZmN{F:Fence}{n:Nat}{P:Program}{c:Code}{Q:Exit→Act→World→Prop}{a:Act}{w:World}(Inv:Nat→Act→World→Prop)(h0:∃q,Inv q a w)
  (round:∀q a w,Inv q a w→c.wpIn F n P (Exit.then (fun a' w'=>∃q',q' < q∧Inv q' a' w') Q) a w):(Code.loop c).wpIn F n P Q a w:=by
 classical
 have jm:∀a w,(∃q,Inv q a w)→∃q,Inv q a w∧∀q',Inv q' a w→q≤q':=by
  intro a w ⟨q,hq⟩
  induction q using Nat.strongRecOn with
  | _ q ih=>
   by_cases hh:∃q',q' < q∧Inv q' a w
   ·obtain⟨q',h1,h2⟩:=hh;exact ih q' h1 h2
   ·exact⟨q,hq,fun q' hq'=>Nat.le_of_not_lt fun bA=>hh ⟨q',bA,hq'⟩⟩
 let μ:Act→World→Nat:=fun a w=>if h:∃q,Inv q a w then Classical.choose (jm a w h)else 0
 have hμ:∀a w (h:∃q,Inv q a w),Inv (μ a w) a w∧∀q',Inv q' a w→μ a w≤q':=fun a w h=>by
  have:=Classical.choose_spec (jm a w h)
  simp only[μ,h,dif_pos];exact this
 refine wpIn_loop (fun a w=>∃q,Inv q a w) μ h0 fun a w hI=>?_
 refine wpIn_mono (round _ a w (hμ a w hI).1) fun e a' w' he=>?_
 cases e with
 | normal=>
  obtain⟨q',h1,h2⟩:=he
  exact⟨⟨q',h2⟩,Nat.lt_of_le_of_lt ((hμ a' w' ⟨q',h2⟩).2 q' h2) h1⟩
 | _=>exact he
theorem Zch{P:Program}{b:Frame}{a:Act}{k:List Item}{cs:List Frame}{w:World}{c:Code}:step P (lone (b.atR a (.code (.scope c)::k)) cs w)=.next (lone (b.atR a (.code c::.inScope c::k)) cs w):=
 step_lone_go (by simp[stepG,stepG.exec,Frame.atR])
theorem Zjz{P:Program}{b:Frame}{a:Act}{k:List Item}{cs:List Frame}{w:World}{c:Code}:step P (lone (b.atR a (.inScope c::k)) cs w)=.next (lone (b.atR a k) cs w):=
 step_lone_go (by simp[stepG,stepG.exec,Frame.atR])
theorem Zoc{F:Fence}{n:Nat}{P:Program}{a:Act}{w:World}{Q:Exit→Act→World→Prop}{c:Code}(h:c.wpIn F n P (fun e a w=>match e with
  | .goto _=>False
  | e=>Q e a w) a w):(Code.scope c).wpIn F n P Q a w:=by
 intro b k cs ol hb hr
 have h0:(lone (b.atR a (.code (.scope c)::k)) cs w).fenced P F:=fenced_calm hb hr rfl
 obtain⟨e,a₁,w₁,hq,dA⟩:=h b (.inScope c::k) cs ol hb hr
 cases e with
 | normal=>exact⟨.normal,a₁,w₁,hq,.head h0 Zch (StepsIn.trans dA (.one (fenced_calm hb hr rfl) Zjz))⟩
 | exit id=>
  have hx:exitTo id (.inScope c::k)=exitTo id k:=by simp[exitTo]
  exact⟨.exit id,a₁,w₁,hq,fun k' hk=>.head h0 Zch (dA.1 k' (by rw[hx];exact hk)),
    fun hr' hk=>let ⟨k₁,h1,h2⟩:=dA.2 hr' (by rw[hx];exact hk);⟨k₁,h1,.head h0 Zch h2⟩⟩
 | goto l=>exact hq.elim
 | ret=>exact⟨_,a₁,w₁,hq,.of_steps (.one h0 Zch) dA⟩
 | panic ch=>exact⟨_,a₁,w₁,hq,.of_steps (.one h0 Zch) dA⟩
 | outgrown=>exact⟨_,a₁,w₁,hq,.of_steps (.one h0 Zch) dA⟩
theorem YOk.cold{E:Env}{C:Ctx}(h:YOk E C):YOk E.cold C:=⟨h.y,h.m0⟩
def Zdi(E:Env)(ZaV:Nat→Array Oper→(St→Mem→Prop)→St→Mem→Prop):Prop:=
 ∀{C:Ctx} {F:Fence} (_:FOk F) (_:YOk E C) (n:Nat) (id:Nat) (ops:Array Oper) {K:St→Mem→Prop} {S:St} {m:Mem} {a:Act} {w:World} {Q:Exit→Act→World→Prop},
  ZkB C.n ops.toList=true→Rel C S m a w→ZaV id ops K S m→(∀S' m' a' w',K S' m'→Rel C S' m' a' w'→Q .normal a' w')→(Code.region id ops true).wpIn F n E.P Q a w
theorem Zb4{E:Env}(hE:E.ok){ZaV:Nat→Array Oper→(St→Mem→Prop)→St→Mem→Prop}(hD:ZdY E ZaV)(fY:Zdi E ZaV):
  ∀(c:Code),Zas E c=true→∀{F:Fence} (_:FOk F) {C:Ctx} (_:YOk E C) (_:ROk F C) (n:Nat),Zbd C.n c=true→∀{S:St} {m:Mem} {a:Act} {w:World} {K:KT} {Q:Exit→Act→World→Prop},Rel C S m a w→W E ZaV c K S m→
   (∀e S' m' a' w',K e S' m'→Rel C S' m' a' w'→Q e a' w')→c.wpIn F n E.P Q a w
 | .skip,_,F,hF,C,hY,hR,n,_,S,m,a,w,K,Q,hr,h,hK=>wpIn_skip (hK _ _ _ _ _ h hr)
 | .label _,_,F,hF,C,hY,hR,n,_,S,m,a,w,K,Q,hr,h,hK=>wpIn_label (hK _ _ _ _ _ h hr)
 | .exit _,_,F,hF,C,hY,hR,n,_,S,m,a,w,K,Q,hr,h,hK=>wpIn_exit (hK _ _ _ _ _ h hr)
 | .ret,_,F,hF,C,hY,hR,n,_,S,m,a,w,K,Q,hr,h,hK=>wpIn_ret (hK _ _ _ _ _ h hr)
 | .region id ops draw,hc,F,hF,C,hY,hR,n,hl,S,m,a,w,K,Q,hr,h,hK=>by
  simp only[W]at h
  simp only[Zbd]at hl
  cases hj:E.joins id with
  | none=>
   simp only[hj]at h
   cases draw with
   | true=>exact fY hF hY n id ops hl hr (by simpa using h) (fun S' m' a' w' hk bB=>hK _ _ _ _ _ hk bB)
   | false=>
    simp only[cond_false]at h
    exact ZtP hY hr h fun K' S' m' hr' h' fin=>wpIn_region (ZhP hE hF hY hl _ hr' h' (fun S2 m2 a2 w2 hk bB=>by
     obtain⟨S3,m3,k3,r3⟩:=fin S2 m2 a2 w2 hk bB
     exact hK _ _ _ _ _ k3 r3))
  | some outs=>
   simp only[hj]at h
   obtain⟨xs,_,h1,h2⟩:=Shape.exL_elim _ _ h
   have fin:∀S' m' a' w',((S'.gh=S.gh∧Zbz S' Zf0 S.ids=Zbz S Zf0 S.ids∧ZaZ S' Zf0 S.tkeys=ZaZ S Zf0 S.tkeys∧Zgx S' outs fun xs'=>xs'=xs)∧SameOut (Zao ops.toList) S S'∧m.le m')→Rel C S' m' a' w'→Q .normal a' w':=by
    rintro S' m' a' w' ⟨⟨g0,g1,g2,g3⟩,g4,g5⟩ bB
    obtain⟨xs',_,e2,e3,rfl⟩:=Zcq bB g3
    refine hK _ _ _ _ _ h2 ?_
    have hz:=Zeh (A:=⟨outs,[],[],false⟩) (css:=[]) (tvs:=[]) hr.ok bB g4 (by simpa[Zbz,Zf0]using g1) (by simpa[ZaZ,Zf0]using g2) e2 rfl (by simp) rfl (by simp)
    have:Zbu S (Zao ops.toList) ⟨outs,[],[],false⟩ S'.gh xs' [] []={ S with env:=Zbs (fun i=>bif (Zao ops.toList).any (Nat.beq i ·)then none else S.env i) outs xs' }:=by
     simp[Zbu,ZgA,Ze0,g0]
    rw[this]at hz
    exact hz.forget g5 hr.le (fun id x hx hf=>(hr.own id x hx).known hf)
   cases draw with
   | true=>
    simp only[cond_true]at h1
    cases dB:E.last id with
    | true=>simp only[dB,cond_true]at h1
    | false=>
    simp only[dB,cond_false]at h1
    have h1':=hD id ops _ (fun S' m'=>(S'.gh=S.gh∧Zbz S' Zf0 S.ids=Zbz S Zf0 S.ids∧ZaZ S' Zf0 S.tkeys=ZaZ S Zf0 S.tkeys∧Zgx S' outs fun xs'=>xs'=xs)∧SameOut (Zao ops.toList) S S'∧m.le m') S m (fun S' m' hs hm y=>⟨by have y':=Zd0 y;rw[ZcA,ZcB]at y';exact⟨y'.1 rfl,y'.2⟩,hs,hm.le dB⟩) h1
    exact fY hF hY n id ops hl hr h1' fin
   | false=>
    simp only[cond_false]at h1
    have h1':ZtH E.cold ops (List.range ops.size) (fun S' m'=>(S'.gh=S.gh∧Zbz S' Zf0 S.ids=Zbz S Zf0 S.ids∧ZaZ S' Zf0 S.tkeys=ZaZ S Zf0 S.tkeys∧Zgx S' outs fun xs'=>xs'=xs)∧SameOut (Zao ops.toList) S S'∧m.le m') S m:=
     ZgU (E:=E.cold) (fun S' m' hs hm y=>⟨by have y':=Zd0 y;rw[ZcA,ZcB]at y';exact⟨y'.1 rfl,y'.2⟩,hs,hm⟩) h1
    exact wpIn_region (ZhP (E:=E.cold) hE hF hY.cold hl _ hr h1' fin)
 | .seq x y,hc,F,hF,C,hY,hR,n,hl,S,m,a,w,K,Q,hr,h,hK=>by
  simp only[Zas,Zbd,Bool.and_eq_true]at hc hl
  simp only[W]at h
  cases fB:E.cuts (ZaJ y)with
  | none=>
   simp only[fB]at h
   refine wpIn_seq (Zb4 hE hD fY x hc.1.1 hF hY hR n hl.1 hr h fun e S' m' a' w' hk bB=>?_)
   cases e with
   | normal=>exact Zb4 hE hD fY y hc.1.2 hF hY hR n hl.2 bB hk hK
   | _=>exact hK _ _ _ _ _ hk bB
  | some A=>
   simp only[fB]at h hc
   obtain⟨J,h1,h2⟩:=h
   have h1':=ZdJ hD x hc.1.1 (K':=fun e S' m'=>(match e with
    | .normal=>ZkC A.gh S'.gh S.gh (ZlY (Zbz S' A S.ids) (Zbz S A S.ids) (ZlZ (ZaZ S' A S.tkeys) (ZaZ S A S.tkeys) (Zgx S' A.slots fun xs=>ZrC S' A.boxes fun css=>Zfu S' A.toks fun tvs=>J (ghs A.gh S'.gh xs) css tvs m')))
    | e=>K e S' m')∧SameOut (Zh3 x) S S'∧leT E.thaw m m') (fun e S' m' hs hm y=>⟨y,hs,hm⟩) h1
   refine wpIn_seq (Zb4 hE hD fY x hc.1.1 hF hY hR n hl.1 hr h1' ?_)
   rintro e S' m' a' w' ⟨hk,hs,eH⟩ bB
   cases e with
   | normal=>
    obtain⟨r0,hk⟩:=Zd0 hk
    obtain⟨r1,hk⟩:=ZcA.1 hk
    obtain⟨r2,hk⟩:=ZcB.1 hk
    obtain⟨xs,f1,f2,f3,hk⟩:=Zcq bB hk
    obtain⟨css,g1,g2,hk⟩:=ZcY hk
    obtain⟨tvs,k1,k2,hJ⟩:=ZbS hk
    have fP:∀v∈tvs,ZbJ v=true:=fun v hv=>by
     obtain⟨i,hi⟩:=List.getElem?_of_mem hv
     have bA:=(List.getElem?_eq_some_iff.1 hi).1
     obtain⟨qe,iM⟩:∃qe,A.toks[i]?=some qe:=⟨_,List.getElem?_eq_getElem (by omega)⟩
     exact(k2 i qe.1 qe.2 v iM hi).1
    exact Zb4 hE hD fY y hc.1.2 hF hY hR n hl.2 (Zeh hr.ok bB hs r1 r2 f2 g1 g2 k1 k2) (Zd4 (Zd3 (Shape.allL_fits _ _ (ZgP h2 r0) xs f1) css g1) tvs k1 fP m' eH hJ) hK
   | _=>exact hK _ _ _ _ _ hk bB
 | .cond c x y,hc,F,hF,C,hY,hR,n,hl,S,m,a,w,K,Q,hr,h,hK=>by
  simp only[Zas,Zbd,Bool.and_eq_true]at hc hl
  obtain⟨v,hv,h⟩:=Zaz h
  obtain⟨h1,h2⟩:=Zae h
  obtain⟨b,rfl⟩:∃b,v=.bool b:=⟨_,Zbt h1⟩
  simp only[Zck]at h2
  refine wpIn_cond (hr.ev hv) ?_
  cases b
  ·exact Zb4 hE hD fY y hc.2 hF hY hR n hl.2 hr h2 hK
  ·exact Zb4 hE hD fY x hc.1 hF hY hR n hl.1 hr h2 hK
 | .block id x,hc,F,hF,C,hY,hR,n,hl,S,m,a,w,K,Q,hr,h,hK=>by
  simp only[Zas,Zbd]at hc hl
  simp only[W]at h
  refine wpIn_block (Zb4 hE hD fY x hc hF hY hR n hl hr h fun e S' m' a' w' hk bB=>?_)
  cases e with
  | exit id'=>
   simp only at hk
   simp only[Exit.inBlock]
   cases hb:Nat.beq id' id with
   | true=>
    simp only[hb,cond_true]at hk
    rw[if_pos (Nat.eq_of_beq_eq_true hb)]
    exact hK _ _ _ _ _ hk bB
   | false=>
    simp only[hb,cond_false]at hk
    rw[if_neg (fun e=>by subst e;simp at hb)]
    exact hK _ _ _ _ _ hk bB
  | _=>exact hK _ _ _ _ _ hk bB
 | .loop x,hc,F,hF,C,hY,hR,n,hl,S,m,a,w,K,Q,hr,h,hK=>by
  simp only[Zas,Zbd,Bool.and_eq_true]at hc hl
  simp only[W]at h
  obtain⟨I,h1,h2⟩:=h
  generalize hA:E.loops (ZaJ x)=A at *
  obtain⟨xs,f1,f2,f3,h1⟩:=Zcq hr h1
  obtain⟨css,g1,g2,h1⟩:=ZcY h1
  obtain⟨tvs,k1,k2,q,h1⟩:=ZbS h1
  have cA:=hr.ok
  refine ZmN (fun q a w=>∃g xs css tvs m',(A.gh=false→g=S.gh)∧Shape.fitsL (A.slots.map (·.2)) xs=true∧css.length=A.boxes.length∧tvs.length=A.toks.length∧(∀v∈tvs,ZbJ v=true)∧leT E.thaw m m'∧I (ghs A.gh g xs) css tvs m' q∧Rel C (Zbu S (Zh3 x) A g xs css tvs) m' a w) ?_ ?_
  ·refine⟨q,S.gh,xs,css,tvs,m,fun _=>rfl,f1,g1,k1,fun v hv=>?_,leT.refl _ m,h1,?_⟩
   ·obtain⟨i,hi⟩:=List.getElem?_of_mem hv
    have bA:=(List.getElem?_eq_some_iff.1 hi).1
    obtain⟨qe,iM⟩:∃qe,A.toks[i]?=some qe:=⟨_,List.getElem?_eq_getElem (by omega)⟩
    exact(k2 i qe.1 qe.2 v iM hi).1
   ·exact Zeh cA hr (SameOut.refl _ _) rfl rfl f2 g1 g2 k1 k2
  ·rintro q a w ⟨g,xs,css,tvs,m',hg,f1,g1,k1,k2,hm,hI,bB⟩
   have hb:=Zd4 (Zd3 (Shape.allL_fits _ _ (ZgP h2 hg) xs f1) css g1) tvs k1 k2 m' q hm hI
   have hb':=ZdJ hD x hc.1 (K':=fun e S' m''=>(match e with
    | .normal=>ZkC A.gh S'.gh S.gh (ZlY (Zbz S' A S.ids) (Zbz S A S.ids) (ZlZ (ZaZ S' A S.tkeys) (ZaZ S A S.tkeys) (Zgx S' A.slots fun xs'=>ZrC S' A.boxes fun css'=>Zfu S' A.toks fun tvs'=>∃n',n' < q∧I (ghs A.gh S'.gh xs') css' tvs' m'' n')))
    | e=>K e S' m'')∧SameOut (Zh3 x) (Zbu S (Zh3 x) A g xs css tvs) S'∧leT E.thaw m' m'') (fun e S' m'' hs hm y=>⟨y,hs,hm⟩) hb
   refine Zb4 hE hD fY x hc.1 hF hY hR n hl bB hb' ?_
   rintro e S' m'' a' w' ⟨hk,hs,eH⟩ iP
   cases e with
   | normal=>
    obtain⟨r0,hk⟩:=Zd0 hk
    obtain⟨r1,hk⟩:=ZcA.1 hk
    obtain⟨r2,hk⟩:=ZcB.1 hk
    obtain⟨xs',f1',f2',f3',hk⟩:=Zcq iP hk
    obtain⟨css',g1',g2',hk⟩:=ZcY hk
    obtain⟨tvs',k1',k2',q',bA,hI'⟩:=ZbS hk
    have hm':leT E.thaw m m'':=leT.trans hm eH
    refine⟨q',bA,S'.gh,xs',css',tvs',m'',r0,f1',g1',k1',fun v hv=>?_,hm',hI',?_⟩
    ·obtain⟨i,hi⟩:=List.getElem?_of_mem hv
     have bA:=(List.getElem?_eq_some_iff.1 hi).1
     obtain⟨qe,iM⟩:∃qe,A.toks[i]?=some qe:=⟨_,List.getElem?_eq_getElem (by omega)⟩
     exact(k2' i qe.1 qe.2 v iM hi).1
    ·have cV:SameOut (Zh3 x) S S':=SameOut.trans (Zdg (S':=Zbu S (Zh3 x) A g xs css tvs) hc.2 rfl) hs
     exact Zeh cA iP cV r1 r2 f2' g1' g2' k1' k2'
   | _=>exact hK _ _ _ _ _ hk iP
 | .goto _,_,F,hF,C,hY,hR,n,_,S,m,a,w,K,Q,hr,h,hK=>by simp[W]at h
 | .scope x,hc,F,hF,C,hY,hR,n,hl,S,m,a,w,K,Q,hr,h,hK=>by
  simp only[Zas,Zbd]at hc hl
  simp only[W]at h
  refine Zoc (Zb4 hE hD fY x hc hF hY hR n hl hr h fun e S' m' a' w' hk bB=>?_)
  cases e with
  | goto l=>exact hk.elim
  | _=>exact hK _ _ _ _ _ hk bB
 | .rangeFunc f ps x y,hc,F,hF,C,hY,hR,n,hl,S,m,a,w,K,Q,hr,h,hK=>by
  simp only[Zas,Zbd,Bool.and_eq_true]at hc hl
  simp only[W]at h
  exact ZmM hF hY hR n (fun hF' _ hY' hR' n' hl'=>Zb4 hE hD fY x hc.1 hF' hY' hR' n' hl') (fun hF' _ hY' hR' n' hl'=>Zb4 hE hD fY y hc.2 hF' hY' hR' n' hl')
   (fun hk=>ZdJ hD x hc.1 (fun e S' m' _ hm y=>⟨y,hm⟩) hk) (fun hk=>ZdJ hD y hc.2 (fun e S' m' _ hm y=>⟨y,hm⟩) hk) hl.2.1 hl.2.2 hl.1 hr h hK
 | .refuse _,_,F,hF,C,hY,hR,n,_,S,m,a,w,K,Q,hr,h,hK=>by simp[W]at h
end Go.Eng
namespace Go.Eng
open Go Go.RowKit
def bid(j:Nat):Nat:=100000+j
def Zod(xs:List Box):SV→Value
 | .v x=>x
 | .loc id off=>match xs[id - 100000]? with
  | some x=>.pointer (some ⟨x.b,off,none⟩)
  | none=>undef
 | .sl id n c=>match xs[id - 100000]? with
  | some x=>.slice (some ⟨x.b,0,none⟩) n c
  | none=>undef
def Zvm(xs:List Box):SV→Bool
 | .v _=>true
 | .loc id _=>Nat.ble 100000 id&&Nat.blt (id - 100000) xs.length
 | .sl id _ _=>Nat.ble 100000 id&&Nat.blt (id - 100000) xs.length
def ZkI(xs:List Box):List SV→Bool
 | []=>true
 | s::l=>Zvm xs s&&ZkI xs l
def S0(svs:List SV)(xs:List Box):St:=
 {env:=fun i=>svs[i]?
  L:=fun id=>bif Nat.ble 100000 id then xs[id - 100000]? else none
  ids:=(List.range xs.length).map bid
  tok:=fun _=>none
  tkeys:=[]
  gh:=0 }
def ZrD(E:Env)(S:St)(m:Mem):ResultVar→(Value→Prop)→Prop
 | .tmp t,k=>wv S (.tmp t) k
 | .cell t T,k=>Zfs E S m T (.tmp t) k
def Zoe(tmps:Array Value):ResultVar→Sem Value
 | .tmp t=>pure (tmps.getD t undef)
 | .cell a t=>do loadVar t (←asAddr (tmps.getD a undef))
def Zu6(E:Env)(S:St)(m:Mem):List ResultVar→(List Value→Prop)→Prop
 | [],k=>k []
 | r::l,k=>ZrD E S m r fun v=>Zu6 E S m l fun vs=>k (v::vs)
def Zrv:List Value→Value
 | [v]=>v
 | vs=>.tuple vs.toArray
def Ztx(S:St):Nat→List Box→(List (List Value)→Prop)→Prop
 | _,[],k=>k []
 | j,x::xs,k=>match S.L (bid j)with
  | none=>False
  | some y=>{ y with cs:=x.cs }=x∧Ztx S (j+1) xs fun css=>k (y.cs::css)
def Zty(l:List Nat):Bool:=Za0 l&&l.all (fun i=>Nat.blt i 100000)
def ZwQ(E:Env)(rs:List ResultVar)(m0:Mem)(xs:List Box)(R:Value→Mem→List (List Value)→Prop)(S:St)(m:Mem):Prop:=
 Zu6 E S m rs fun vs=>Ztx S 0 xs fun css=>∃m'',m0.le m''∧m''.le (Zry S E.frz m)∧R (Zrv vs) m'' css
def ZwX(E:Env)(rs:List ResultVar)(m0:Mem)(xs:List Box)(R:Value→Mem→List (List Value)→Prop):KT:=fun e S m=>match e with
 | .normal=>ZwQ E rs m0 xs R S m
 | .ret=>ZwQ E rs m0 xs R S m
 | _=>False
theorem ZmO{P:Program}{T:TypeId}{x v:Value}{w:World}(h:(Instr.loadAt T x).run P w=.ok v w):(do loadVar T (←asAddr x):Sem Value).run P w=.ok v w:=by
 cases x with
 | pointer p=>
  cases p with
  | none=>simp[Instr.loadAt,Instr.sureAddr]at h
  | some p=>simpa[Instr.loadAt,Instr.sureAddr,asAddr]using h
 | _=>simp[Instr.loadAt,Instr.sureAddr]at h
theorem Zlv{a b:Nat}(h:Nat.blt a b=true):a < b:=Nat.le_of_ble_eq_true h
section
variable {C:Ctx} {S:St} {m:Mem} {a:Act} {w:World}
theorem ZjA{E:Env}(hE:E.ok)(hr:Rel C S m a w){r:ResultVar}{k:Value→Prop}(h:ZrD E S m r k):∃v,k v∧(Zoe a.tmps r).run E.P w=.ok v w:=by
 cases r with
 | tmp t=>
  obtain⟨v,hv,hk⟩:=Zaz h
  refine⟨v,hk,?_⟩
  have:=hr.ev hv
  simp only[Act.eval]at this
  simp only[Zoe]
  rw[←this];rfl
 | cell t T=>
  obtain⟨v,hk,bL⟩:=ZfR hE hr h
  exact⟨v,hk,ZmO bL⟩
theorem Zd6{E:Env}(hE:E.ok)(hr:Rel C S m a w):∀{rs:List ResultVar} {k:List Value→Prop},Zu6 E S m rs k→∃vs,k vs∧(rs.mapM (Zoe a.tmps)).run E.P w=.ok vs w
 | [],k,h=>⟨[],h,by simp⟩
 | r::l,k,h=>by
  obtain⟨v,h,h1⟩:=ZjA hE hr h
  obtain⟨vs,hk,h2⟩:=Zd6 hE hr h
  refine⟨v::vs,hk,?_⟩
  rw[List.mapM_cons]
  simp only[Sem.run_bind,h1,Result.andThen_ok,h2]
  rfl
theorem Zc0{fn:Func}{tmps:Array Value}{P:Program}{w:World}{vs:List Value}(h:(fn.results.toList.mapM (Zoe tmps)).run P w=.ok vs w):(results fn tmps).run P w=.ok (Zrv vs) w:=by
 have e:results fn tmps=(do
  let vs ←fn.results.mapM (Zoe tmps)
  pure (if h:vs.size=1 then vs[0]else .tuple vs)):=rfl
 rw[e,Array.mapM_eq_mapM_toList]
 simp only[Sem.run_bind,Sem.run_map,h,Result.andThen_ok]
 match vs with
 | []=>rfl
 | [v]=>rfl
 | v::u::l=>rfl
theorem Zf4:∀{xs:List Box} {j:Nat} {k:List (List Value)→Prop},Ztx S j xs k→∃css,css.length=xs.length∧(∀(i:Nat)(x:Box),xs[i]?=some x→∃cs,css[i]?=some cs∧S.L (bid (j+i))=some { x with cs:=cs })∧k css
 | [],j,k,h=>⟨[],rfl,by simp,h⟩
 | x::xs,j,k,h=>by
  simp only[Ztx]at h
  cases hL:S.L (bid j)with
  | none=>simp[hL]at h
  | some y=>
   simp only[hL]at h
   obtain⟨h1,h2⟩:=h
   obtain⟨css,g1,g2,g3⟩:=Zf4 h2
   refine⟨y.cs::css,by simp[g1],?_,g3⟩
   intro i z hi
   cases i with
   | zero=>
    simp at hi;subst hi
    refine⟨y.cs,by simp,?_⟩
    rw[Nat.add_zero,hL,←h1]
   | succ i=>
    obtain⟨cs,h3,h4⟩:=g2 i z (by simpa using hi)
    exact⟨cs,by simpa using h3,by rw[←h4];congr 2;omega⟩
theorem Zd7(S:St)(m:Mem):∀{l:List Nat} {b:Nat},(∀id∈l,∀x,S.L id=some x→x.b≠b)→∀o,Zry S l m b o=m b o
 | [],b,_,o=>rfl
 | id::l,b,h,o=>by
  have ih:=Zd7 S m (l:=l) (b:=b) (fun i hi=>h i (by simp[hi])) o
  simp only[Zry]
  cases hL:S.L id with
  | none=>exact ih
  | some x=>
   simp only
   cases hz:x.fz with
   | true=>exact ih
   | false=>
    simp only[cond_false]
    rw[Mem.add_other _ (Ne.symm (h id (by simp) x hL))];exact ih
theorem Zo7(hr:Rel C S m a w):∀{l:List Nat},l.Nodup→m.le (Zry S l m)∧Sub (Zry S l m) w∧(∀b o v,Zry S l m b o=some v→m b o=some v∨∃id∈l,∃x,S.L id=some x∧x.b=b)
 | [],_=>⟨Mem.le_refl m,hr.sub,fun b o v h=>.inl h⟩
 | id::l,hn=>by
  obtain⟨h1,h2⟩:=List.nodup_cons.1 hn
  obtain⟨i1,i2,i3⟩:=Zo7 hr h2
  simp only[Zry]
  cases hL:S.L id with
  | none=>exact⟨i1,i2,fun b o v h=>(i3 b o v h).imp_right fun⟨id',h,x⟩=>⟨id',by simp[h],x⟩⟩
  | some x=>
   simp only
   cases hz:x.fz with
   | true=>exact⟨i1,i2,fun b o v h=>(i3 b o v h).imp_right fun⟨id',h,x⟩=>⟨id',by simp[h],x⟩⟩
   | false=>
    simp only[cond_false]
    have eJ:=(hr.own id x hL)
    have bR:(Zry S l m).free x.b:=fun o=>by
     rw[Zd7 S m (fun i hi y hy e=>h1 (hr.apart _ _ _ _ hy hL e ▸ hi))]
     exact eJ.free hz o
    refine⟨Mem.le_trans i1 (Mem.le_add bR x.cs),?_,?_⟩
    ·intro b o v hv
     by_cases hb:b=x.b
     ·subst hb;rw[Mem.add_same]at hv;exact eJ.cell hv
     ·rw[Mem.add_other _ hb]at hv;exact i2 b o v hv
    ·intro b o v hv
     by_cases hb:b=x.b
     ·exact .inr ⟨id,by simp,x,hL,hb.symm⟩
     ·rw[Mem.add_other _ hb]at hv
      exact(i3 b o v hv).imp_right fun⟨id',h,x⟩=>⟨id',by simp[h],x⟩
end
theorem ZhQ{xs:List Box}:∀{l:List SV},ZkI xs l=true→∀(i:Nat) s,l[i]?=some s→Zvm xs s=true
 | [],_,i,s,h=>by simp at h
 | x::l,h,i,s,hs=>by
  simp only[ZkI,Bool.and_eq_true]at h
  cases i with
  | zero=>simp at hs;subst hs;exact h.1
  | succ i=>exact ZhQ h.2 i s (by simpa using hs)
def Zwg(n:Nat)(m:Mem)(w:World)(bs:List Nat):Ctx where
 n:=n
 m0:=m
 p:=fun _ M w'=>Keep w.heap.size bs w w'∧∀k,M k→w.heap.size≤k∨k∈bs
 st:=by
  rintro g M M' w1 w2 ⟨h1,h2⟩ hu hg
  refine⟨h1.trans ⟨hu.os,hu.tape,hu.output,hu.size,fun k hk hn=>hu.block k (Nat.lt_of_lt_of_le hk h1.size) fun hm=>?_,hu.wr⟩,fun k hk=>?_⟩
  ·rcases h2 k hm with h|h
   ·omega
   ·exact hn h
  ·rcases hg k hk with h|h
   ·exact h2 k h
   ·have:=h1.size;exact .inl (by omega)
theorem ZrE{n:Nat}{m:Mem}{w:World}{bs:List Nat}(hb:∀k∈bs,Wr w k){g:Int}{M:Nat→Prop}{w':World}(h:(Zwg n m w bs).p g M w')(k:Nat)(hk:M k):Wr w' k:=by
 rcases h.2 k hk with h1|h1
 ·exact h.1.wr k (Wr.of_none h1)
 ·exact h.1.wr k (hb k h1)
theorem ZkJ{C:Ctx}{w:World}{xs:List Box}{svs:List SV}(hs:Sub C.m0 w)(hx:∀x∈xs,Own C.m0 w x∧x.fz=false)(dQ:(xs.map (·.b)).Nodup)(cA:ZkI xs svs=true)(hn:svs.length≤C.n)(hp:C.p 0 (fun k=>k∈xs.map (·.b)) w):
  Rel C (S0 svs xs) C.m0 { tmps:=(svs.map (Zod xs)).toArray++Array.replicate (C.n - (svs.map (Zod xs)).toArray.size) undef,defers:=[] } w:=by
 have hL:∀id x,(S0 svs xs).L id=some x→100000≤id∧xs[id - 100000]?=some x:=fun id x h=>by
  simp only[S0]at h
  cases hb:Nat.ble 100000 id with
  | false=>simp[hb]at h
  | true=>simp only[hb,cond_true]at h;exact⟨Nat.le_of_ble_eq_true hb,h⟩
 refine⟨⟨[],rfl,List.nodup_nil,by simp⟩,by simp;omega,?_,?_,?_,?_,by simp[S0],by simp[S0],by simp[S0],hs,Mem.le_refl _,⟨_,hp,fun k hk=>?_,fun id x hx=>?_,fun k t b ht=>by simp[S0]at ht,by simp,fun _ _ _ h=>.inl h⟩⟩
 ·intro i sv he
  simp only[S0]at he
  have bA:=(List.getElem?_eq_some_iff.1 he).1
  have h1:=ZhQ cA i sv he
  refine⟨Zod xs sv,?_,?_⟩
  ·cases sv with
   | v x=>rfl
   | loc id off=>
    simp only[Zvm,Bool.and_eq_true]at h1
    have h2:id - 100000 < xs.length:=Zlv h1.2
    simp[St.den,S0,Zod,h1.1,List.getElem?_eq_getElem h2]
   | sl id n c=>
    simp only[Zvm,Bool.and_eq_true]at h1
    have h2:id - 100000 < xs.length:=Zlv h1.2
    simp[St.den,S0,Zod,h1.1,List.getElem?_eq_getElem h2]
  ·rw[Array.getElem?_append_left (by simpa using bA)]
   simp[he]
 ·intro id x hx'
  have:=List.mem_of_getElem? (hL id x hx').2
  exact(hx x this).1
 ·intro id id' x x' h1 h2 hb
  obtain⟨g1,g2⟩:=hL _ _ h1
  obtain⟨g3,g4⟩:=hL _ _ h2
  have hi:=(List.getElem?_eq_some_iff.1 g2).1
  have hi':=(List.getElem?_eq_some_iff.1 g4).1
  have:=(List.getElem?_inj (l:=xs.map (·.b)) (i:=id - 100000) (j:=id' - 100000) (by simpa using hi) dQ).1 (by simp[g2,g4,hb])
  omega
 ·intro id x h1
  obtain⟨g1,g2⟩:=hL _ _ h1
  have hi:=(List.getElem?_eq_some_iff.1 g2).1
  simp only[S0,List.mem_map,List.mem_range,bid]
  exact⟨id - 100000,hi,by omega⟩
 ·obtain⟨x,h1,h2⟩:=List.mem_map.1 hk
  exact h2 ▸ (hx x h1).1.lt
 ·exact List.mem_map.2 ⟨x,List.mem_of_getElem? (hL id x hx).2,rfl⟩
theorem ZmP{n:Nat}{w:World}{m:Mem}{xs:List Box}{svs:List SV}(hs:Sub m w)(hx:∀x∈xs,Own m w x∧x.fz=false)(dQ:(xs.map (·.b)).Nodup)(cA:ZkI xs svs=true)(hn:svs.length≤n):
  Rel (Zwg n m w (xs.map (·.b))) (S0 svs xs) m { tmps:=(svs.map (Zod xs)).toArray++Array.replicate (n - (svs.map (Zod xs)).toArray.size) undef,defers:=[] } w:=
 ZkJ (C:=Zwg n m w (xs.map (·.b))) hs hx dQ cA hn ⟨Keep.refl _ _ _,fun k hk=>.inr hk⟩
theorem Rel.leave{P:Program}{C:Ctx}{S:St}{m:Mem}{fn:Func}{tmps:Array Value}{R:Ending→World→Prop}(h:∀a' w',a'.tmps=tmps→Rel C S m a' w'→∃v,(results fn tmps).run P w'=.ok v w'∧R (.returned v) w'):
  ∀(ms:List Nat)(a:Act)(w:World),a.tmps=tmps→a.defers=ms.map ZiK→Rel C S m a w→LeavesInM Fence.wide 0 P fn tmps R a.defers .returning w
 | [],a,w,ht,hm,hr=>by
  rw[hm]
  simp only[List.map_nil,LeavesInM,LeavesIn]
  exact h a w ht hr
 | D::ms,a,w,ht,hm,hr=>by
  obtain⟨ms',q1,q2,q3⟩:=hr.defers
  have eH:ms'=D::ms:=by
   rw[hm]at q1
   have inj:∀(l l':List Nat),l.map ZiK=l'.map ZiK→l=l':=by
    intro l
    induction l with
    | nil=>intro l' h;cases l' <;> simp_all
    | cons x l ih=>
     intro l' h
     cases l' with
     | nil=>simp at h
     | cons y l'=>simp only[List.map_cons,List.cons.injEq]at h;rw[ih l' h.2];simpa[ZiK]using h.1
   exact(inj _ _ q1).symm
  subst eH
  have hD:=q3 D (by simp)
  rw[hm]
  simp only[List.map_cons,LeavesInM]
  refine⟨by simp,.inl ⟨D,_,rfl,run_takeDeferred hD,?_⟩⟩
  have hr':Rel C S m { a with defers:=ms.map ZiK } (w.putObj D (.deferred none)):=by
   obtain⟨M,hd⟩:=hr.dom
   have rc:M D:=hd.mks D (by rw[hm];simp)
   have cU:∀k,k≠D→(w.putObj D (.deferred none)).heap[k]?=w.heap[k]?:=fun k hk=>World.putObj_heap_other hk
   refine hr.swap rfl hr.le rfl rfl rfl rfl hr.env hr.size ⟨ms,rfl,(List.nodup_cons.1 q2).2,fun D' hD'=>?_⟩ (fun k c T fr hk=>cU k (fun e=>by rw[e,hD]at hk;cases hk)) (fun k t b ht hb=>((hr.toks k t ht).2 b hb).2) ?_
   ·rw[cU D' (fun e=>(List.nodup_cons.1 q2).1 (e ▸ hD'))];exact q3 D' (by simp[hD'])
   ·have h1:=hd.step (m':=m) (Zfx (o:=.deferred none) rfl rc) (fun b o v hv=>.inl hv)
    exact⟨_,h1.p,h1.lt,h1.own,h1.tok,fun D' hD'=>h1.mks D' (by rw[hm];exact List.mem_cons_of_mem _ hD'),h1.new⟩
  exact Rel.leave h ms { a with defers:=ms.map ZiK } _ ht rfl hr'
theorem ZtS{E:Env}(hE:E.ok){ZaV:Nat→Array Oper→(St→Mem→Prop)→St→Mem→Prop}(hD:ZdY E ZaV)(fY:Zdi E ZaV){g:FuncId}{fn:Func}{c:Code}
  (hf:E.P.funcs[g]?=some fn) (hn:(fn.name == "runtime.NumGoroutine")=false) (hb:fn.body=some c) (hc:Zas E c=true) (hl:Zbd fn.ntmps c=true) (hz:Zty E.frz=true) (gu:E.yl=none)
  {m:Mem} (eE:∀mm,E.m0=some mm→m=mm) {R:Value→Mem→List (List Value)→Prop} (svs:List SV) (xs:List Box) (bP:Nat.ble svs.length fn.ntmps=true) (cA:ZkI xs svs=true)
  (h:W E ZaV c (ZwX E fn.results.toList m xs R) (S0 svs xs) m):CX E.P g (svs.map (Zod xs)).toArray m xs R:=by
 refine⟨ZgF hf hn (by simp[hb]),fun w hs hx dQ=>?_⟩
 have bB:=ZmP (n:=fn.ntmps) hs hx dQ cA (Nat.le_of_ble_eq_true bP)
 refine callsIn_wide.1 (callsIn_of_wp_marks (F:=Fence.wide) (n:=0) hf hb trivial ?_)
 refine Zb4 hE hD fY c hc (.inl rfl) (YOk.none gu (fun mm eH=>⟨eE mm eH,fun g M w' hp k hk=>ZrE (fun k hk=>by
  obtain⟨x,h1,rfl⟩:=List.mem_map.1 hk
  exact(hx x h1).1.wr) hp k hk⟩)) (fun l hl=>by cases hl) 0 hl bB h ?_
 have key:∀S' m' a' w',ZwQ E fn.results.toList m xs R S' m'→Rel (Zwg fn.ntmps m w (xs.map (·.b))) S' m' a' w'→LeavesInM Fence.wide 0 E.P fn a'.tmps (fun e w'=>
   ∃v_1 m'_1 css,e=Ending.returned v_1∧m.le m'_1∧Sub m'_1 w'∧ZgC m m'_1 w.heap.size∧Keep w.heap.size (xs.map (·.b)) w w'∧css.length=xs.length∧(∀(i:Nat)(x:Box)(cs:List Value),xs[i]?=some x→css[i]?=some cs→Own m'_1 w' { x with cs:=cs })∧R v_1 m'_1 css) a'.defers .returning w':=by
  intro S' m' a' w' hk hr
  obtain⟨ms,q1,_,_⟩:=hr.defers
  refine Rel.leave ?_ ms a' w' rfl q1 hr
  clear hr q1
  intro a2 w2 ht hr
  rw[←ht]
  obtain⟨vs,hk,bL⟩:=Zd6 hE hr hk
  obtain⟨css,h1,h2,m'',h3,h4,h5⟩:=Zf4 hk
  obtain⟨M,hd⟩:=hr.dom
  refine⟨Zrv vs,Zc0 bL,Zrv vs,m'',css,rfl,h3,?_,?_,hd.p.1,h1,?_,h5⟩
  all_goals simp only[Zty,Bool.and_eq_true]at hz
  all_goals have oG:=ZaC hz.1
  all_goals obtain⟨f1,f2,f3⟩:=Zo7 hr oG
  ·exact fun b o v hv=>f2 b o v (h4 b o v hv)
  ·intro b o v hv
   rcases f3 b o v (h4 b o v hv)with hv|⟨id,cK,x,eO,gt⟩
   ·rcases hd.new b o v hv with h6|h6
    ·exact .inl h6
    ·rcases hd.p.2 b h6 with h6|h6
     ·exact .inr h6
     ·exfalso
      obtain⟨y,hy,fM⟩:=List.mem_map.1 h6
      obtain⟨i,hi⟩:=List.getElem?_of_mem hy
      obtain⟨cs,_,ie⟩:=h2 i y hi
      have:=(hr.own _ _ ie).free (hx y hy).2 o
      simp only[fM]at this
      rw[this]at hv;cases hv
   ·right
    have h6:=hd.p.2 _ (hd.own id x eO)
    subst gt
    rcases h6 with h6|h6
    ·exact h6
    ·exfalso
     obtain⟨y,hy,fM⟩:=List.mem_map.1 h6
     obtain⟨i,hi⟩:=List.getElem?_of_mem hy
     obtain⟨cs,_,ie⟩:=h2 i y hi
     have:=hr.apart _ _ _ _ eO ie fM.symm
     have bA:id < 100000:=by
      have:=List.all_eq_true.1 hz.2 id cK
      exact Zlv this
     simp only[bid]at this
     omega
  ·intro i x cs hi cS
   obtain⟨cs',h6,h7⟩:=h2 i x hi
   rw[cS]at h6;cases h6
   have ho:=hr.own _ _ h7
   have lQ:=(hx x (List.mem_of_getElem? hi)).2
   refine⟨ho.cells,fun _ o=>?_,fun hz'=>by simp[lQ]at hz',ho.whole⟩
   cases hv:m'' x.b o with
   | none=>rfl
   | some v=>
    have h8:=h4 _ _ _ hv
    rw[Zd7 S' m' (fun id cK y hy e=>?_)]at h8
    ·have:=ho.free lQ o
     simp only at this
     rw[this]at h8;cases h8
    ·have:=hr.apart _ _ _ _ hy h7 e
     have bA:id < 100000:=by
      have:=List.all_eq_true.1 hz.2 id cK
      exact Zlv this
     simp only[bid]at this
     omega
 intro e S' m' a' w' hk hr
 cases e with
 | normal=>exact key S' m' a' w' hk hr
 | ret=>exact key S' m' a' w' hk hr
 | exit _=>exact hk.elim
 | goto _=>exact hk.elim
 | panic _=>exact hk.elim
 | outgrown=>exact hk.elim
def ZvU(E:Env)(rs:List ResultVar)(n:Nat):KT:=fun e S m=>match e with
 | .normal=>Zu6 E S m rs fun _=>S.gh=n∨S.gh=-1
 | .ret=>Zu6 E S m rs fun _=>S.gh=n∨S.gh=-1
 | _=>False
def Env.yields(E:Env)(l:Nat)(xs:List (List Value)):Env:={ E with yl:=some fun l' g v=>l'=l∧0≤g∧xs[g.toNat]?=some v,m0:=none }
theorem ZtT{E:Env}(hE:E.ok){ZaV:(E:Env)→Nat→Array Oper→(St→Mem→Prop)→St→Mem→Prop}{g:FuncId}{fn:Func}{c:Code}
  (hf:E.P.funcs[g]?=some fn) (hn:(fn.name == "runtime.NumGoroutine")=false) (hb:fn.body=some c) (hl:Zbd fn.ntmps c=true)
  {m:Mem} (first captured:List Value) (xs:List (List Value)) (bP:Nat.ble (first.length+captured.length+1) fn.ntmps=true)
  (h:∀l,ZdY (E.yields l xs) (ZaV (E.yields l xs))∧Zdi (E.yields l xs) (ZaV (E.yields l xs))∧Zas (E.yields l xs) c=true∧W (E.yields l xs) (ZaV (E.yields l xs)) c (ZvU E fn.results.toList xs.length) (S0 ((first++.func (.yield l) #[] #[]::captured).map .v) []) m):
  IX E.P g first captured m xs:=by
 refine⟨ZgF hf hn (by simp[hb]),fun p hp l w hs nW hy=>?_⟩
 obtain⟨hD,fY,hc,h⟩:=h l
 have hE':(E.yields l xs).ok:=hE
 let C:Ctx:=⟨fn.ntmps,m,p,hp⟩
 have cA:∀vs:List Value,ZkI [] (vs.map .v)=true:=fun vs=>by
  induction vs with
  | nil=>rfl
  | cons v vs ih=>simp[ZkI,Zvm,ih]
 have kr:∀vs:List Value,(vs.map SV.v).map (Zod [])=vs:=fun vs=>by
  induction vs with
  | nil=>rfl
  | cons v vs ih=>simp only[List.map_cons,ih];rfl
 have bB:=ZkJ (C:=C) (xs:=[]) (svs:=(first++.func (.yield l) #[] #[]::captured).map .v) hs (by simp) (by simp) (cA _) (by have:=Nat.le_of_ble_eq_true bP;simp;omega) (by
  have e:(fun k=>k∈([]:List Box).map (·.b))=(fun _:Nat=>False):=by funext k;simp
  rw[e];exact nW)
 rw[kr]at bB
 refine callsIn_wide.1 (callsIn_of_wp_marks (F:=Fence.wide) (n:=0) hf hb trivial ?_)
 refine Zb4 hE' hD fY c hc (.inl rfl) (C:=C) ⟨fun Y hY=>by
  simp only[Env.yields,Option.some.injEq]at hY
  subst hY;exact hy,fun mm eH=>by cases eH⟩ (fun l hl=>by cases hl) 0 hl bB h ?_
 have key:∀S' m' a' w',Zu6 E S' m' fn.results.toList (fun _=>S'.gh=xs.length∨S'.gh=-1)→Rel C S' m' a' w'→LeavesInM Fence.wide 0 E.P fn a'.tmps (fun e w'=>∃v M,e=.returned v∧(∀k,M k→k < w'.heap.size)∧(p xs.length M w'∨p (-1) M w')) a'.defers .returning w':=by
  intro S' m' a' w' hk hr
  obtain⟨ms,q1,_,_⟩:=hr.defers
  refine Rel.leave ?_ ms a' w' rfl q1 hr
  clear hr q1
  intro a2 w2 ht hr
  rw[←ht]
  obtain⟨vs,hk,bL⟩:=Zd6 hE hr hk
  obtain⟨M,hd⟩:=hr.dom
  refine⟨Zrv vs,Zc0 bL,_,M,rfl,hd.lt,?_⟩
  have:=hd.p
  rcases hk with hk|hk
  ·rw[hk]at this;exact .inl this
  ·rw[hk]at this;exact .inr this
 intro e S' m' a' w' hk hr
 cases e with
 | normal=>exact key S' m' a' w' hk hr
 | ret=>exact key S' m' a' w' hk hr
 | exit _=>exact hk.elim
 | goto _=>exact hk.elim
 | panic _=>exact hk.elim
 | outgrown=>exact hk.elim
end Go.Eng
namespace Go.Eng
open Go Go.RowKit
def LC{α β:Type}(T1:(α→Prop)→Prop)(T2:(β→Prop)→Prop)(ρ:α→β→Prop):Prop:=
 T1 (fun _=>True)→T2 (fun y2=>∃y1,(∀K,T1 K→K y1)∧ρ y1 y2)
section comb
variable {α β:Type} {ρ:α→β→Prop}
theorem LC.false{T2:(β→Prop)→Prop}:LC (fun _:α→Prop=>False) T2 ρ:=fun h=>h.elim
theorem LC.ret{a:α}{b:β}(h:ρ a b):LC (fun K=>K a) (fun K=>K b) ρ:=fun _=>⟨a,fun _ hK=>hK,h⟩
theorem LC.chk{c:Bool}{T1:(α→Prop)→Prop}{T2:(β→Prop)→Prop}(h:c=true→LC T1 T2 ρ):LC (fun K=>chk c (T1 K)) (fun K=>chk c (T2 K)) ρ:=by
 cases c
 ·exact fun h=>h.elim
 ·exact h rfl
theorem LC.br{c:Bool}{T1 U1:(α→Prop)→Prop}{T2 U2:(β→Prop)→Prop}(h:LC T1 T2 ρ)(k:LC U1 U2 ρ):LC (fun K=>br c (T1 K) (U1 K)) (fun K=>br c (T2 K) (U2 K)) ρ:=by
 cases c
 ·exact k
 ·exact h
theorem LC.and{p q:Prop}{T1:(α→Prop)→Prop}{T2:(β→Prop)→Prop}(je:p→q)(h:p→LC T1 T2 ρ)(mono:∀{K K':β→Prop},(∀y,K y→K' y)→T2 K→T2 K'):LC (fun K=>p∧T1 K) (fun K=>q∧T2 K) ρ:=fun⟨h1,h2⟩=>
 ⟨je h1,mono (fun y ⟨y1,g1,g2⟩=>⟨y1,fun K hK=>g1 K hK.2,g2⟩) (h h1 h2)⟩
theorem LC.map{γ δ:Type}{σ:γ→δ→Prop}{T1:(α→Prop)→Prop}{T2:(β→Prop)→Prop}(h:LC T1 T2 ρ)(f:α→γ)(g:β→δ)(rd:∀a b,ρ a b→σ (f a) (g b))(mono:∀{K K':β→Prop},(∀y,K y→K' y)→T2 K→T2 K'):
  LC (fun K=>T1 fun a=>K (f a)) (fun K=>T2 fun b=>K (g b)) σ:=fun h1=>
 mono (fun b ⟨a,g1,g2⟩=>⟨f a,fun K hK=>g1 _ hK,rd _ _ g2⟩) (h h1)
end comb
abbrev LE{α:Type}(T1 T2:(α→Prop)→Prop):Prop:=LC T1 T2 Eq
theorem Zo8{l:List Value}{n:Nat}{α β:Type}{ρ:α→β→Prop}{f:Value→α}{g:Value→β}(h:∀v,ρ (f v) (g v)):LC (fun K=>Zrt l n fun v=>K (f v)) (fun K=>Zrt l n fun v=>K (g v)) ρ:=by
 unfold Zrt
 cases hl:l[n]? with
 | none=>exact LC.false
 | some v=>simp only;exact LC.ret (h v)
theorem ZrF{op:BinOp}{b:Bool}:LE (Zru op b) (Zru op b):=by
 cases op <;> first
  | exact LC.false
  | exact LC.ret rfl
theorem ZtU{op:BinOp}{k:IntKind}{a b:Int}:LE (ZuY op k a b) (ZuY op k a b):=by
 cases op <;> first
  | exact LC.false
  | exact LC.ret rfl
  | exact LC.and id (fun _=>LC.ret rfl) (fun h=>h _)
theorem Zqq{op:BinOp}{k:IntKind}{a b:Int}:LE (Zjl op k a b) (Zjl op k a b):=by
 cases op <;> first
  | exact LC.false
  | exact LC.and id (fun _=>LC.ret rfl) (fun h=>h _)
theorem ZtV{op:BinOp}{a b:ByteArray}:LE (ZuZ op a b) (ZuZ op a b):=by
 cases op <;> first
  | exact LC.false
  | exact LC.ret rfl
  | exact LC.and id (fun _=>LC.ret rfl) (fun h=>h _)
theorem EqIs.unique{P:Program}{T:TypeId}{x y:Value}{a b:Bool}(w:World)(h:EqIs P T x y a)(k:EqIs P T x y b):a=b:=by
 have h1:=h.1 w
 rw[k.1 w]at h1
 cases h1;rfl
theorem ZtW{E:Env}(w:World){op:BinOp}{T:TypeId}{x y:Value}:LE (ZuU E op T x y) (ZuU E op T x y):=by
 unfold ZuU
 cases ht:E.tt T with
 | none=>exact LC.false
 | some i=>
  simp only
  cases hd:i.d <;> simp only <;> first
   | exact LC.false
   | exact LC.chk fun _=>ZtV
   | exact LC.chk fun _=>ZrF
   | (refine LC.chk fun _=>?_
      rintro⟨b,hb,h⟩
      exact⟨b,hb,Zju (fun v ⟨v1,g1,g2⟩=>⟨v1,fun K ⟨b',hb',hK⟩=>g1 K (by rw[EqIs.unique w hb hb'];exact hK),g2⟩) (ZrF h)⟩)
   | (cases hs:ZiL op
      ·exact LC.chk fun _=>ZtU
      ·exact LC.chk fun _=>Zqq)
theorem Zsl{E:Env}{s d:TypeId}{v:Value}:LE (Zp8 E s d v) (Zp8 E s d v):=by
 unfold Zp8
 cases E.tt s with
 | none=>exact LC.false
 | some i=>
  cases E.tt d with
  | none=>exact LC.false
  | some j=>
   simp only
   cases i.d <;> cases j.d <;> simp only <;> first
    | exact LC.false
    | exact LC.chk fun _=>LC.ret rfl
theorem ZtX{E:Env}{T:TypeId}{v:Value}:LE (Zvi E T v) (Zvi E T v):=by
 unfold Zvi
 cases E.tt T with
 | none=>exact LC.false
 | some i=>
  simp only
  cases i.d <;> simp only <;> first
   | exact LC.false
   | exact LC.ret rfl
   | exact LC.chk fun _=>LC.ret rfl
theorem Zfz{α β:Type}{ρ:α→β→Prop}{x:Option Value}{d y:Nat}{U1:Nat→(α→Prop)→Prop}{U2:Nat→(β→Prop)→Prop}(h:∀n,LC (U1 n) (U2 n) ρ)(mono:∀n {K K':β→Prop},(∀y,K y→K' y)→U2 n K→U2 n K'):
  LC (fun K=>ZgE x d y fun n=>U1 n K) (fun K=>ZgE x d y fun n=>U2 n K) ρ:=by
 cases x with
 | none=>exact h d
 | some v=>exact LC.chk fun _=>LC.and id (fun _=>h _) (mono _)
theorem Zo9{α β:Type}{ρ:α→β→Prop}{place:Nat→Option (Nat×Nat)}{f:List Value→α}{g:List Value→β}(h:∀v,ρ (f v) (g v)):∀{parts:List (Nat×Value)} {cs:List Value},LC (fun K=>ZlW place cs parts fun r=>K (f r)) (fun K=>ZlW place cs parts fun r=>K (g r)) ρ
 | [],cs=>LC.ret (h cs)
 | (i,v)::rest,cs=>by
  simp only[ZlW]
  cases place i with
  | none=>exact LC.false
  | some os=>exact LC.chk fun _=>Zo9 h
theorem Zqr{E:Env}{T:TypeId}{v:Value}{lo hi mx:Option Value}:LE (Zh8 E T v lo hi mx) (Zh8 E T v lo hi mx):=by
 unfold Zh8
 cases ZhI E T with
 | some sz=>
  simp only
  exact LC.chk fun _=>Zfz (fun m=>Zfz (fun h=>Zfz (fun l=>LC.chk fun _=>LC.ret rfl) (fun l K K' hh=>Zag (hh _))) (fun h K K' hh=>Zbl (fun l=>Zag (hh _)))) (fun m K K' hh=>Zbl (fun h=>Zbl (fun l=>Zag (hh _))))
 | none=>
  simp only
  cases ZeM E T with
  | false=>exact LC.false
  | true=>exact LC.chk fun _=>Zfz (fun h=>Zfz (fun l=>LC.ret rfl) (fun l K K' hh=>hh _)) (fun h K K' hh=>Zbl (fun l=>hh _))
structure Less (S1 S2:St):Prop where
 env:∀t sv,S1.env t=some sv→S2.env t=some sv
 L:∀id x,S1.L id=some x→S2.L id=some x
theorem Less.ev{S1 S2:St}(h:Less S1 S2){x:Operand}{sv:SV}(hx:S1.ev x=some sv):S2.ev x=some sv:=by
 cases x with
 | tmp t=>exact h.env t sv hx
 | _=>exact hx
theorem Less.den{S1 S2:St}(h:Less S1 S2){sv:SV}{v:Value}(hx:S1.den sv=some v):S2.den sv=some v:=by
 cases sv with
 | v u=>exact hx
 | loc id off=>
  simp only[St.den]at *
  cases hb:S1.L id with
  | none=>simp[hb]at hx
  | some b=>simp only[hb]at hx;simp only[h.L id b hb];exact hx
 | sl id n c=>
  simp only[St.den]at *
  cases hb:S1.L id with
  | none=>simp[hb]at hx
  | some b=>simp only[hb]at hx;simp only[h.L id b hb];exact hx
theorem Less.val{S1 S2:St}(h:Less S1 S2){x:Operand}{v:Value}(hx:S1.val x=some v):S2.val x=some v:=by
 unfold St.val at *
 cases he:S1.ev x with
 | none=>simp[he]at hx
 | some sv=>simp only[he]at hx;rw[h.ev he];exact h.den hx
section ops
variable {α β:Type} {ρ:α→β→Prop} {S1 S2:St}
theorem Zcu(hs:Less S1 S2){x:Operand}{U1:Value→(α→Prop)→Prop}{U2:Value→(β→Prop)→Prop}(h:∀v,LC (U1 v) (U2 v) ρ):
  LC (fun K=>wv S1 x fun v=>U1 v K) (fun K=>wv S2 x fun v=>U2 v K) ρ:=by
 unfold wv
 cases hv:S1.val x with
 | none=>exact LC.false
 | some v=>simp only[hs.val hv];exact h v
theorem ZmQ(hs:Less S1 S2):∀{l:List Operand} {U1:List Value→(α→Prop)→Prop} {U2:List Value→(β→Prop)→Prop} (h:∀v,LC (U1 v) (U2 v) ρ),LC (fun K=>wvs S1 l fun v=>U1 v K) (fun K=>wvs S2 l fun v=>U2 v K) ρ
 | [],U1,U2,h=>h []
 | x::l,U1,U2,h=>Zcu hs (U1:=fun v K=>wvs S1 l fun vs=>U1 (v::vs) K) (U2:=fun v K=>wvs S2 l fun vs=>U2 (v::vs) K) fun v=>ZmQ hs (fun vs=>h (v::vs))
theorem Zpa(hs:Less S1 S2){x:Option Operand}{U1:Option Value→(α→Prop)→Prop}{U2:Option Value→(β→Prop)→Prop}(h:∀v,LC (U1 v) (U2 v) ρ):
  LC (fun K=>Zu1 S1 x fun v=>U1 v K) (fun K=>Zu1 S2 x fun v=>U2 v K) ρ:=by
 cases x with
 | none=>exact h none
 | some x=>exact Zcu hs (U1:=fun v K=>U1 (some v) K) (U2:=fun v K=>U2 (some v) K) fun v=>h (some v)
end ops
theorem Zsm{E:Env}{S1 S2:St}(w:World)(hs:Less S1 S2){o:Oper}:LE (Zcs E S1 o) (Zcs E S2 o):=by
 have hr:∀{a:SV},LE (fun K:SV→Prop=>K a) (fun K=>K a):=LC.ret rfl
 have gA:∀{c:Bool} {a:SV},LE (fun K:SV→Prop=>Eng.chk c (K a)) (fun K=>Eng.chk c (K a)):=LC.chk fun _=>LC.ret rfl
 obtain⟨dst,op,type,pos,after,guard⟩:=o
 cases op <;> unfold Zcs <;> simp only <;> try exact LC.false
 case unOp op T x=>
  refine Zcu hs fun v=>?_
  cases op <;> simp only <;> first
   | exact LC.false
   | exact gA
   | (cases Zby E T <;> simp only <;> first
     | exact LC.false
     | exact gA)
 case binOp op T x y yT=>
  exact Zcu hs fun v=>Zcu hs fun v'=>(ZtW w).map _ _ (fun a b e=>by rw[e]) (fun h=>ZmE h)
 case convert s d x=>exact Zcu hs fun v=>Zsl.map _ _ (fun a b e=>by rw[e]) (fun h hx=>by
  unfold Zp8 at *
  (repeat' split at hx) <;> first|exact hx.elim|exact Zag (h _) hx)
 case makeFunc=>exact ZmQ hs fun v=>ZmQ hs fun v'=>hr
 case fieldAddr T x f=>
  cases ZhG E T f with
  | none=>exact LC.false
  | some fo=>
   simp only
   cases he:S1.ev x with
   | none=>exact LC.false
   | some sv=>
    simp only[hs.ev he]
    cases sv <;> first
     | exact LC.false
     | exact hr
     | exact gA
 case indexAddr T x i=>
  refine Zcu hs fun vi=>LC.chk fun _=>?_
  cases Zvh E T with
  | none=>exact LC.false
  | some ix=>
   cases he:S1.ev x with
   | none=>
    cases ix <;> simp only
    ·exact fun h=>h.2.elim
    ·exact LC.false
   | some sv=>
    simp only[hs.ev he]
    cases ix <;> simp only
    ·cases sv <;> simp only
     ·exact LC.and id (fun _=>gA) (fun h=>Zag (h _))
     ·exact LC.and id (fun _=>hr) (fun h=>h _)
     ·exact fun h=>h.2.elim
    ·cases sv <;> simp only
     ·refine LC.chk fun _=>?_
      rintro⟨b,o,h1,h2,h3⟩
      refine⟨b,o,h1,h2,_,fun K ⟨b',o',g1,g2,g3⟩=>?_,rfl⟩
      rw[h1]at g1
      cases g1
      exact g3
     ·exact LC.false
     ·exact LC.and id (fun _=>hr) (fun h=>h _)
 case index T x i=>
  refine Zcu hs fun v=>Zcu hs fun vi=>LC.chk fun _=>?_
  cases ZeM E T <;> simp only[cond_true,cond_false]
  ·cases Zn5 E T with
   | none=>exact LC.false
   | some len=>exact LC.chk fun _=>LC.and id (fun _=>Zo8 (fun _=>rfl)) (fun h=>ZgR (fun u=>h _))
  ·exact LC.chk fun _=>LC.and id (fun _=>hr) (fun h=>h _)
 case build T parts=>
  cases ZhH E T with
  | none=>exact LC.false
  | some place=>exact ZmQ hs fun vs=>Zo9 (fun _=>rfl)
 case extract x n=>exact Zcu hs fun v=>LC.chk fun _=>Zo8 (fun _=>rfl)
 case makeInterface T x=>exact Zcu hs fun v=>gA
 case nilCheck x=>
  cases he:S1.ev x with
  | none=>exact LC.false
  | some sv=>
   simp only[hs.ev he]
   cases sv <;> first
    | exact LC.false
    | exact hr
    | exact gA
 case slice T x lo hi mx=>exact Zcu hs fun v=>Zpa hs fun l=>Zpa hs fun h=>Zpa hs fun m=>Zqr.map _ _ (fun a b e=>by rw[e]) (fun h=>ZiP h)
 case call c=>
  split
  ·split
   ·exact Zcu hs fun v=>ZtX.map _ _ (fun a b e=>by rw[e]) (fun h y=>by
     unfold Zvi at *
     (repeat' split at y) <;> first|exact y.elim|exact Zag (h _) y|exact h _ y)
   ·exact LC.false
  ·split
   ·rename_i T _ _ _
    refine Zcu hs fun v=>Zcu hs fun v'=>?_
    split
    ·exact gA
    ·exact LC.false
   ·exact LC.false
  ·split
   ·refine Zcu hs fun v=>Zcu hs fun v'=>?_
    split
    ·exact gA
    ·exact LC.false
   ·refine Zcu hs fun v=>Zcu hs fun v'=>Zcu hs fun v''=>?_
    split
    ·exact gA
    ·exact LC.false
   ·exact LC.false
  ·exact LC.false
end Go.Eng
namespace Go.Eng
open Go Go.RowKit
def Mem.or(a b:Mem):Mem:=fun i o=>match a i o with
 | some v=>some v
 | none=>b i o
theorem Mem.le_or(a b:Mem):a.le (a.or b):=fun i o v h=>by simp[Mem.or,h]
theorem Mem.or_some{a b:Mem}{i o:Nat}{v:Value}(h:a.or b i o=some v):a i o=some v∨(a i o=none∧b i o=some v):=by
 unfold Mem.or at h
 cases ha:a i o with
 | some u=>simp[ha]at h;exact .inl (by rw[h])
 | none=>simp[ha]at h;exact .inr ⟨rfl,h⟩
theorem CX.frame2{P:Program}{g:FuncId}{args:Array Value}{m M:Mem}{X:List Box}{R:Value→Mem→List (List Value)→Prop}(h:CX P g args m X R)(hm:m.le M):
  CX P g args M X (fun v M' css=>∃m',m.le m'∧m'.le M'∧(∀b o u,M b o=some u→∀o',m' b o'=m b o')∧R v m' css):=by
 refine⟨h.1,fun w hs hX dQ=>?_⟩
 have bR:∀{b o},M b o=none→m b o=none:=fun {b o} hb=>by
  cases he:m b o with
  | none=>rfl
  | some v=>rw[hm _ _ _ he]at hb;cases hb
 have hX':∀x∈X,Own m w x∧x.fz=false:=fun x hx=>by
  obtain⟨ho,hz⟩:=hX x hx
  exact⟨⟨ho.cells,fun _ o=>bR (ho.free hz o),fun hz'=>by simp[hz]at hz',ho.whole⟩,hz⟩
 refine(h.2 w (fun b o v hv=>hs b o v (hm _ _ _ hv)) hX' dQ).mono ?_
 rintro e w' ⟨v,m',css,rfl,a2,a3,a4,a5,a6,a7,a8⟩
 have cI:m'.le (M.or m'):=fun b o u hu=>by
  cases hM:M b o with
  | none=>simp[Mem.or,hM,hu]
  | some u'=>
   rcases a4 b o u hu with h1|h1
   ·rw[hm _ _ _ h1]at hM;cases hM;simp[Mem.or,hm _ _ _ h1]
   ·have:=hs.lt hM;omega
 have cR:∀b o u,M b o=some u→∀o',m' b o'=m b o':=fun b o u hu o'=>by
  cases hm':m' b o' with
  | none=>
   cases eE:m b o' with
   | none=>rfl
   | some x=>have:=a2 _ _ _ eE;rw[hm']at this;cases this
  | some x=>
   rcases a4 b o' x hm' with h1|h1
   ·exact h1.symm
   ·have:=hs.lt hu;omega
 refine⟨v,M.or m',css,rfl,Mem.le_or _ _,?_,?_,a5,a6,?_,m',a2,cI,cR,a8⟩
 ·intro b o u hu
  rcases Mem.or_some hu with h1|⟨h1,h2⟩
  ·have bA:=hs.lt h1
   rw[Zbc (a5.block b bA ?_)]
   ·exact hs b o u h1
   ·intro cH
    obtain⟨x,hx,rfl⟩:=List.mem_map.1 cH
    obtain⟨ho,hz⟩:=hX x hx
    have:=ho.free hz o
    rw[h1]at this;cases this
  ·exact a3 b o u h2
 ·intro b o u hu
  rcases Mem.or_some hu with h1|⟨h1,h2⟩
  ·exact .inl h1
  ·rcases a4 b o u h2 with h3|h3
   ·rw[hm _ _ _ h3]at h1;cases h1
   ·exact .inr h3
 ·intro i x cs hi cS
  have ho:=a7 i x cs hi cS
  obtain⟨j7,hz⟩:=hX x (List.mem_of_getElem? hi)
  refine⟨ho.cells,fun _ o=>?_,fun hz'=>by simp[hz]at hz',ho.whole⟩
  simp only[Mem.or,j7.free hz o]
  exact ho.free hz o
theorem CX.frame{P:Program}{g:FuncId}{args:Array Value}{m M:Mem}{X:List Box}{R:Value→Mem→List (List Value)→Prop}(h:CX P g args m X R)(hm:m.le M):
  CX P g args M X (fun v M' css=>∃m',m.le m'∧m'.le M'∧R v m' css):=(h.frame2 hm).mono fun _ _ _ _ ⟨m',a1,a2,_,a4⟩=>⟨m',a1,a2,a4⟩
theorem ZeQ{m:Mem}{b o:Nat}{xs ys:List Value}(h:m.reads b o xs)(k:m.reads b o ys)(hl:xs.length=ys.length):xs=ys:=by
 refine List.ext_getElem hl fun i h1 h2=>?_
 have a:=h i _ (List.getElem?_eq_getElem h1)
 have b:=k i _ (List.getElem?_eq_getElem h2)
 rw[a]at b;exact Option.some.inj b
theorem ZeR{m:Mem}{a:Option Addr}{xs ys:List Value}(h:rowRd m a xs)(k:rowRd m a ys)(hl:xs.length=ys.length):xs=ys:=by
 rcases h with h|⟨b,o,h1,h2⟩
 ·subst h;simp at hl;exact(List.eq_nil_of_length_eq_zero hl.symm).symm
 ·rcases k with k|⟨b',o',k1,k2⟩
  ·subst k;simpa using hl
  ·rw[h1]at k1;cases k1
   exact ZeQ h2 k2 hl
theorem Zof{i:TI}{m M:Mem}(hm:m.le M){b o:Nat}:LE (Zcx i m b o) (Zcx i M b o):=by
 intro h
 unfold Zcx at *
 cases ha:i.agg with
 | false=>
  simp only[ha,cond_false]at *
  obtain⟨v,hv,_⟩:=h
  exact⟨v,hm _ _ _ hv,v,fun K ⟨v',hv',hK⟩=>by rw[hv]at hv';cases hv';exact hK,rfl⟩
 | true=>
  simp only[ha,cond_true]at *
  cases hb:Nat.ble i.size 16 with
  | true=>
   simp only[hb,cond_true]at *
   obtain⟨vs,hl,hr,_⟩:=ZhK h
   refine Zjn vs hl ⟨hr.mono hm,_,fun K hK=>?_,rfl⟩
   obtain⟨vs',hl',hr',hK⟩:=ZhK hK
   rw[ZeQ hr hr' (by omega)];exact hK
  | false=>
   simp only[hb,cond_false]at *
   obtain⟨vs,hl,hr,_⟩:=h
   refine⟨vs,hl,hr.mono hm,_,fun K ⟨vs',hl',hr',hK⟩=>?_,rfl⟩
   rw[ZeQ hr hr' (by omega)];exact hK
theorem ZkK{i:TI}{x:Box}{off:Nat}:LE (Zce i x off) (Zce i x off):=by
 unfold Zce
 cases i.agg <;> simp only[cond_true,cond_false]
 ·exact Zo8 (fun _=>rfl)
 ·cases(x.full&&(Nat.beq x.cap i.size&&Nat.beq off 0)) <;> simp only[cond_true,cond_false]
  ·exact LC.chk fun _=>LC.ret rfl
  ·exact LC.ret rfl
theorem Zsn{E:Env}{S1 S2:St}(hs:Less S1 S2){m M:Mem}(hm:m.le M){T:TypeId}{x:Operand}:LE (Zfs E S1 m T x) (Zfs E S2 M T x):=by
 unfold Zfs
 cases E.tt T with
 | none=>exact LC.false
 | some i=>
  simp only
  cases he:S1.ev x with
  | none=>exact LC.false
  | some sv=>
   simp only[hs.ev he]
   cases sv with
   | v u=>
    simp only
    cases ZeN E x with
    | none=>exact LC.chk fun _=>Zof hm
    | some id=>
     simp only
     cases hx:S1.L id with
     | none=>exact LC.false
     | some bx=>
      simp only[hs.L id bx hx]
      exact LC.chk fun _=>LC.and (fun h=>h) (fun _=>ZkK) (fun h=>Zdf h)
   | loc id off=>
    simp only
    cases hx:S1.L id with
    | none=>exact LC.false
    | some bx=>simp only[hs.L id bx hx];exact ZkK
   | sl id n c=>exact LC.false
structure OutB (rs:List Nat)(tk:Option Nat)(g:Bool)(m M:Mem)(S1 S2:St)(y1 y2:St×Mem):Prop where
 env1:y1.1.env=S1.env
 env2:y2.1.env=S2.env
 L:∀id,(id∈rs∧y1.1.L id=y2.1.L id)∨(y1.1.L id=S1.L id∧y2.1.L id=S2.L id)
 tok:∀k,(tk=some k∧y1.1.tok k=y2.1.tok k)∨(y1.1.tok k=S1.tok k∧y2.1.tok k=S2.tok k)
 le:y1.2.le y2.2
 same:g=false→y1.2=m∧y2.2=M
 gh2:y2.1.gh=S2.gh
structure Out (rs:List Nat)(tk:Option Nat)(g:Bool)(m M:Mem)(dst:Option Tmp)(S1 S2:St)(y1 y2:St×Mem):Prop where
 env1:∀t sv,dst=some t→y1.1.env t=some sv→y2.1.env t=some sv
 env2:∀t,dst≠some t→y2.1.env t=S2.env t
 L:∀id,(id∈rs∧y1.1.L id=y2.1.L id)∨(y1.1.L id=S1.L id∧y2.1.L id=S2.L id)
 tok:∀k,(tk=some k∧y1.1.tok k=y2.1.tok k)∨(y1.1.tok k=S1.tok k∧y2.1.tok k=S2.tok k)
 le:y1.2.le y2.2
 same:g=false→y1.2=m∧y2.2=M
 gh2:y2.1.gh=S2.gh
section
variable {rs:List Nat} {tk:Option Nat} {g:Bool} {m M:Mem} {S1 S2:St}
theorem Zwp(S:St)(d:Option Tmp)(x:Option SV):(S.put d x).L=S.L:=by cases d <;> rfl
theorem ZtY(S:St)(d:Option Tmp)(x:Option SV):(S.put d x).tok=S.tok:=by cases d <;> rfl
theorem OutB.put{y1 y2:St×Mem}(h:OutB rs tk g m M S1 S2 y1 y2)(dst:Option Tmp){x1 x2:Option SV}(hx:∀sv,x1=some sv→x2=some sv):Out rs tk g m M dst S1 S2 (y1.1.put dst x1,y1.2) (y2.1.put dst x2,y2.2):=by
 refine⟨?_,?_,by simpa[Zwp]using h.L,by simpa[ZtY]using h.tok,h.le,h.same,by have:=h.gh2;cases dst <;> exact this⟩
 ·intro t sv ht re
  subst ht
  simp[St.put]at *
  exact hx _ re
 ·intro t ht
  cases dst with
  | none=>simp[St.put,h.env2]
  | some d=>simp[St.put,Zam (fun e=>ht (by rw[e]):t≠d),h.env2]
theorem OutB.refl(hm:m.le M):OutB rs tk g m M S1 S2 (S1,m) (S2,M):=⟨rfl,rfl,fun _=>.inr ⟨rfl,rfl⟩,fun _=>.inr ⟨rfl,rfl⟩,hm,fun _=>⟨rfl,rfl⟩,rfl⟩
theorem Out.put0(hm:m.le M)(dst:Option Tmp){x1 x2:Option SV}(hx:∀sv,x1=some sv→x2=some sv):Out rs tk g m M dst S1 S2 (S1.put dst x1,m) (S2.put dst x2,M):=
 (OutB.refl (rs:=rs) (tk:=tk) (g:=g) (S1:=S1) (S2:=S2) hm).put dst hx
theorem OutB.setL(hm:m.le M){id:Nat}(cK:id∈rs)(x:Option Box):OutB rs tk g m M S1 S2 (S1.setL id x,m) (S2.setL id x,M):=by
 refine⟨rfl,rfl,fun i=>?_,fun _=>.inr ⟨rfl,rfl⟩,hm,fun _=>⟨rfl,rfl⟩,rfl⟩
 by_cases hi:i=id
 ·subst hi;exact .inl ⟨cK,by simp[St.setL]⟩
 ·exact .inr (by simp[St.setL,Zam hi])
theorem OutB.newL{m' M':Mem}(hm:m'.le M')(hg:g=false→m'=m∧M'=M){id:Nat}(cK:id∈rs)(x:Box):OutB rs tk g m M S1 S2 (S1.newL id x,m') (S2.newL id x,M'):=by
 refine⟨rfl,rfl,fun i=>?_,fun _=>.inr ⟨rfl,rfl⟩,hm,hg,rfl⟩
 by_cases hi:i=id
 ·subst hi;exact .inl ⟨cK,by simp[St.newL]⟩
 ·exact .inr (by simp[St.newL,Zam hi])
end
mutual
theorem Shape.all_intro:∀(s:Shape){k:Value→Prop},(∀v,k v)→s.all k
 | .any,k,h=>by simpa only[Shape.all]using h
 | .int ki,k,h=>by simp only[Shape.all];exact fun n=>h _
 | .bool,k,h=>by simp only[Shape.all];exact fun n=>h _
 | .str,k,h=>by simp only[Shape.all];exact fun n=>h _
 | .slice,k,h=>by simp only[Shape.all];exact fun _ _ _=>h _
 | .agg l,k,h=>by simp only[Shape.all];exact Shape.allL_intro l (fun vs=>h _)
 | .tup l,k,h=>by simp only[Shape.all];exact Shape.allL_intro l (fun vs=>h _)
 | .fn,k,h=>by simp only[Shape.all];exact fun _ _ _=>h _
 | .cells,k,h=>by simp only[Shape.all];exact fun _=>h _
 | .ptr,k,h=>by simp only[Shape.all];exact fun _ _=>h _
theorem Shape.allL_intro:∀(l:List Shape){k:List Value→Prop},(∀v,k v)→Shape.allL l k
 | [],k,h=>by simp only[Shape.allL];exact h _
 | s::l,k,h=>by simp only[Shape.allL];exact Shape.all_intro s (fun v=>Shape.allL_intro l (fun vs=>h _))
end
theorem allL_intro:∀{n:Nat} {k:List (List Value)→Prop},(∀l,l.length=n→k l)→allL n k
 | 0,k,h=>h [] rfl
 | n+1,k,h=>fun cs=>allL_intro (fun l hl=>h (cs::l) (by simp[hl]))
def Env.fixed(E:Env)(f:List Value→Mem→Value→Mem→List (List Value)→Prop):Env:={ E with fix:=some f }
section
variable {rs:List Nat} {tk:Option Nat} {g:Bool} {S1 S2:St} {m M:Mem}
theorem Zqs{E:Env}{f:List Value→Mem→Value→Mem→List (List Value)→Prop}(hs:Less S1 S2)(io:∀id x,S1.L id=some x→id∈rs)(hm:m.le M){T:TypeId}{x:Operand}{v:Value}:
  LC (fun K:St×Mem→Prop=>Zgv (E.fixed f) S1 T x v fun S'=>K (S',m)) (fun K:St×Mem→Prop=>Zgv E S2 T x v fun S'=>K (S',M)) (OutB rs tk g m M S1 S2):=by
 unfold Zgv
 show LC (fun K=>match E.tt T with
  | none=>False
  | some i=>_) _ _
 cases E.tt T with
 | none=>exact LC.false
 | some i=>
  simp only
  cases he:S1.ev x with
  | none=>exact LC.false
  | some sv=>
   simp only[hs.ev he]
   cases sv with
   | loc id off=>
    simp only
    cases hx:S1.L id with
    | none=>exact LC.false
    | some bx=>
     simp only[hs.L id bx hx]
     refine LC.chk fun _=>?_
     cases(bx.full&&(Nat.beq bx.cap i.size&&Nat.beq off 0)) <;> simp only[cond_true,cond_false]
     ·exact LC.chk fun _=>LC.ret (OutB.setL hm (io id bx hx) _)
     ·exact LC.ret (OutB.setL hm (io id bx hx) _)
   | v u=>
    simp only
    show LC (fun K=>match ZeN E x with
     | none=>False
     | some id=>_) _ _
    cases ZeN E x with
    | none=>exact LC.false
    | some id=>
     simp only
     cases hx:S1.L id with
     | none=>exact LC.false
     | some bx=>
      simp only[hs.L id bx hx]
      refine LC.chk fun _=>?_
      rintro⟨h1,h2,_⟩
      exact⟨h1,h2,_,fun K hK=>hK.2.2,OutB.setL hm (io id bx hx) _⟩
   | sl id n c=>exact LC.false
theorem Zso{E:Env}{f:List Value→Mem→Value→Mem→List (List Value)→Prop}(hs:Less S1 S2)(io:∀id x,S1.L id=some x→id∈rs)(hm:m.le M){T:TypeId}{id:Nat}{vd vs:Value}:
  LC (fun K:Int×(St×Mem)→Prop=>ZnW (E.fixed f) S1 m T id vd vs fun n S'=>K (n,(S',m))) (fun K:Int×(St×Mem)→Prop=>ZnW E S2 M T id vd vs fun n S'=>K (n,(S',M))) (fun y1 y2=>y1.1=y2.1∧OutB rs tk g m M S1 S2 y1.2 y2.2∧y1.2.2=m∧y2.2.2=M):=by
 unfold ZnW
 show LC (fun K=>match Zay E T with
  | none=>False
  | some (e,j)=>_) _ _
 cases Zay E T with
 | none=>exact LC.false
 | some ej=>
  obtain⟨e,j⟩:=ej
  simp only
  cases hx:S1.L id with
  | none=>exact LC.false
  | some bx=>
   simp only[hs.L id bx hx]
   refine LC.chk fun _=>?_
   intro h rf
   have hf:m.free bx.b:=fun o=>by
    cases he:m bx.b o with
    | none=>rfl
    | some u=>have:=hm _ _ _ he;rw[rf o]at this;cases this
   obtain⟨o,xs,h1,h2,h3,h4,h5,_⟩:=h hf
   refine⟨o,xs,h1,h2,h3,h4,h5.imp_left (fun h=>h.mono hm),(_,(S1.setL id (some { bx with cs:=Zar bx.cs o xs }),m)),fun K hK=>?_,rfl,OutB.setL hm (io id bx hx) _,rfl,rfl⟩
   obtain⟨o',xs',g1,g2,g3,g4,g5,g6⟩:=hK hf
   rw[h1]at g1
   obtain rfl:o=o':=by simpa using g1
   have hl:xs.length=xs'.length:=by rw[h2,g2]
   have dN:∀{as:Option Addr} {ys:List Value} {p:Nat},rowRd m as ys→as=some ⟨bx.b,p,none⟩→ys=[]:=fun {as ys p} hy ha=>by
    rcases hy with hy|⟨b1,o1,kB,hy⟩
    ·exact hy
    ·rw[ha]at kB
     simp only[Option.some.injEq,Addr.mk.injEq,and_true]at kB
     obtain⟨rfl,rfl⟩:=kB
     cases nU:ys with
     | nil=>rfl
     | cons u l=>subst nU;have:=hy 0 u rfl;rw[hf]at this;cases this
   have oH:xs=xs':=by
    rcases h5 with h5|⟨p,hp,h5⟩
    ·rcases g5 with g5|⟨p',hp',g5⟩
     ·exact ZeR h5 g5 hl
     ·have:=dN h5 hp';subst this
      exact(List.eq_nil_of_length_eq_zero hl.symm).symm
    ·rcases g5 with g5|⟨p',hp',g5⟩
     ·have:=dN g5 hp;subst this
      exact List.eq_nil_of_length_eq_zero hl
     ·rw[hp]at hp'
      obtain rfl:p=p':=by simpa using hp'
      apply List.ext_getElem?
      intro i
      by_cases hi:i < xs.length
      ·have e1:=h5 i _ (List.getElem?_eq_getElem hi)
       have e2:=g5 i _ (List.getElem?_eq_getElem (by omega))
       rw[e1]at e2
       rw[List.getElem?_eq_getElem hi,List.getElem?_eq_getElem (by omega)]
       exact e2
      ·rw[List.getElem?_eq_none (by omega),List.getElem?_eq_none (by omega)]
   subst oH
   exact g6
theorem ZgX(hs:Less S1 S2):∀{ids:List Nat} {bxs:List Box},Za5 S1 ids=some bxs→Za5 S2 ids=some bxs
 | [],bxs,h=>h
 | id::l,bxs,h=>by
  simp only[Za5]at *
  cases hx:S1.L id with
  | none=>simp[hx]at h
  | some x=>
   simp only[hx]at h
   simp only[hs.L id x hx]
   cases hb:Za5 S1 l with
   | none=>simp[hb]at h
   | some xs=>simp only[hb]at h;simp only[ZgX hs hb];exact h
theorem Zsp{E:Env}(hE:E.fix=none){f:List Value→Mem→Value→Mem→List (List Value)→Prop}(hs:Less S1 S2)(io:∀id x,S1.L id=some x→id∈rs)(hm:m.le M){rt:TypeId}{gg:FuncId}{args:List Value}{ids:List Nat}{γ:Value→St→Option SV}:
  LC (fun K:Value×(St×Mem)→Prop=>ZlX (E.fixed f) S1 m rt gg args ids fun v S' m'=>K (v,(S',m'))) (fun K:Value×(St×Mem)→Prop=>ZlX E S2 M rt gg args ids fun v S' m'=>K (v,(S',m'))) (fun y1 y2=>y1.1=y2.1∧OutB rs tk true m M S1 S2 y1.2 y2.2):=by
 intro h
 unfold ZlX at *
 cases hb:Za5 S1 ids with
 | none=>simp[hb]at h
 | some bxs=>
  simp only[hb]at h
  simp only[ZgX hs hb]
  obtain⟨h1,R,h0,eK,eC,_⟩:=Zae h
  have h0':R=f args m:=h0
  obtain⟨bP,cH⟩:=ZbR hb
  simp only[Bool.and_eq_true]at h1
  have dQ:=ZaC h1.2
  refine Zaa (by simp[h1.1,h1.2]) ⟨fun v M' css=>∃m',m.le m'∧m'.le M'∧R v m' css,by rw[hE];trivial,eK.frame hm,fun v m' css ⟨_,_,_,hR⟩=>eC _ _ _ hR,?_⟩
  refine Shape.all_intro _ fun v M' hM'=>allL_intro fun css eY ⟨m',g1,g2,hR⟩=>⟨(v,(Zct S1 ids bxs css,m')),fun K hK=>?_,rfl,?_⟩
  ·obtain⟨_,R',h0'',_,_,bS⟩:=Zae hK
   have h0''':R'=f args m:=h0''
   have rh:R'=R:=by rw[h0''',h0']
   subst rh
   exact ZgG (Shape.all_fits _ _ bS v (eC _ _ _ hR) m' g1) css eY hR
  ·refine⟨by rw[Zcy],by rw[Zcy],fun id=>?_,fun k=>.inr ⟨by rw[Zcy],by rw[Zcy]⟩,g2,fun h=>(by cases h),by rw[Zcy]⟩
   rcases Zed (S:=S1) dQ bP eY id with⟨a1,a2⟩|⟨i,x,cs,a1,a2,a3,a4⟩
   ·rcases Zed (S:=S2) dQ bP eY id with⟨b1,b2⟩|⟨i',x',cs',b1,b2,b3,b4⟩
    ·exact .inr ⟨a2,b2⟩
    ·exact absurd (List.mem_of_getElem? b1) a1
   ·rcases Zed (S:=S2) dQ bP eY id with⟨b1,b2⟩|⟨i',x',cs',b1,b2,b3,b4⟩
    ·exact absurd (List.mem_of_getElem? a1) b1
    ·obtain⟨id',c1,c2⟩:=cH i x a2
     rw[a1]at c1;cases c1
     have hi:=(List.getElem?_eq_some_iff.1 a1).1
     have:i=i':=(List.getElem?_inj hi dQ).1 (by rw[a1,b1])
     subst this
     rw[a2]at b2;rw[a3]at b3;cases b2;cases b3
     exact .inl ⟨io _ _ c2,by rw[a4,b4]⟩
theorem Zog{E:Env}{f:List Value→Mem→Value→Mem→List (List Value)→Prop}(hm:m.le M){T xT:TypeId}{key:Nat}{vs vx:Value}(fQ:tk=some key)(bY:∀k,tk=some k→S1.tok k=S2.tok k):
  LC (fun K:Value×(St×Mem)→Prop=>ZeZ (E.fixed f) S1 m T xT key vs vx fun v t m'=>K (v,({ S1 with tok:=t,tkeys:=key::S1.tkeys },m'))) (fun K:Value×(St×Mem)→Prop=>ZeZ E S2 M T xT key vs vx fun v t m'=>K (v,({ S2 with tok:=t,tkeys:=key::S2.tkeys },m'))) (fun y1 y2=>y1.1=y2.1∧OutB rs tk true m M S1 S2 y1.2 y2.2):=by
 unfold ZeZ
 show LC (fun K=>match Zay E T with
  | none=>False
  | some (_,j)=>match Zay E xT with
   | none=>False
   | some (_,j')=>_) _ _
 cases Zay E T with
 | none=>exact LC.false
 | some ej=>
  cases Zay E xT with
  | none=>exact LC.false
  | some ej'=>
   simp only
   refine LC.chk fun _=>?_
   have jR:LC (fun K:Value×(St×Mem)→Prop=>ZuV (E.fixed f) S1 m ej.2 key vs vx fun v t m'=>K (v,({ S1 with tok:=t,tkeys:=key::S1.tkeys },m'))) (fun K:Value×(St×Mem)→Prop=>ZuV E S2 M ej.2 key vs vx fun v t m'=>K (v,({ S2 with tok:=t,tkeys:=key::S2.tkeys },m'))) (fun y1 y2=>y1.1=y2.1∧OutB rs tk true m M S1 S2 y1.2 y2.2):=?body
   case body=>
    unfold ZuV
    rintro⟨ht,xs,ys,a1,a2,a3,a4,a5,a6,a7,_⟩
    rw[bY key fQ]at ht
    refine⟨ht,xs,ys,a1,a2,a3.mono hm,a4.mono hm,a5,a6,a7,fun a' c' M' hM' hr=>?_⟩
    refine Zqb fun lR eX=>⟨(.slice a' (slN vs+slN vx) c',({ S1 with tok:=(fun k=>bif Nat.beq k key then some ⟨.slice a' (slN vs+slN vx) c',ej.2.size⟩ else S1.tok k),tkeys:=key::S1.tkeys },M')),fun K hK=>?_,rfl,⟨rfl,rfl,fun _=>.inr ⟨rfl,rfl⟩,fun k=>?_,Mem.le_refl _,fun h=>(by cases h),rfl⟩⟩
    ·obtain⟨_,xs',ys',b1,b2,b3,b4,_,_,_,b8⟩:=hK
     rw[ZeR a3 b3 (by omega),ZeR a4 b4 (by omega)]at hr
     exact Zlk (b8 a' c' M' (Mem.le_trans hm hM') hr) (fun ht=>(lR ht).mono hm) eX
    ·by_cases hk:k=key
     ·subst hk;exact .inl ⟨fQ,by simp⟩
     ·exact .inr (by simp[Zam hk])
   show LC (fun K=>bif E.tails then br (Nat.beq (slN vx) 0) (chk (Nat.ble (slN vs) (slC vs)) _) _ else _) (fun K=>bif E.tails then br (Nat.beq (slN vx) 0) (chk (Nat.ble (slN vs) (slC vs)) _) _ else _) _
   cases E.tails with
   | false=>exact jR
   | true=>
    refine LC.br (LC.chk fun _=>LC.ret ⟨rfl,⟨rfl,rfl,fun _=>.inr ⟨rfl,rfl⟩,fun k=>?_,hm,fun h=>(by cases h),rfl⟩⟩) jR
    by_cases hk:k=key
    ·subst hk;exact .inl ⟨fQ,bY k fQ⟩
    ·exact .inr ⟨rfl,rfl⟩
end
end Go.Eng
namespace Go.Eng
open Go Go.RowKit
theorem Mem.add_le{m M:Mem}(h:m.le M)(b:Nat)(cs:List Value):(m.add b cs).le (M.add b cs):=fun b' o v hv=>by
 by_cases hb:b'=b
 ·subst hb;rw[Mem.add_same]at hv ⊢;exact hv
 ·rw[Mem.add_other _ hb]at hv ⊢;exact h _ _ _ hv
theorem ZiW{S1 S2:St}(hs:Less S1 S2):∀{l:List Operand} {k:List Value→Prop},wvs S1 l k→Zcz S1 l=Zcz S2 l
 | [],k,h=>rfl
 | x::l,k,h=>by
  obtain⟨v,hv,h⟩:=Zaz h
  have ih:=ZiW hs h
  unfold St.val at hv
  cases he:S1.ev x with
  | none=>simp[he]at hv
  | some sv=>
   simp only[Zcz,he,hs.ev he,ih]
   cases sv with
   | loc id off=>
    simp only[he,St.den]at hv
    cases hx:S1.L id with
    | none=>simp[hx]at hv
    | some x=>simp only[hx,hs.L id x hx]
   | _=>rfl
def Zsq(E:Env)(rs:List Nat)(tk:Option Nat)(o:Oper):Bool:=match o.op with
 | .alloc _=>(match o.dst with
  | some d=>rs.any (Nat.beq d ·)
  | none=>false)
 | .box _ _=>(match o.dst with
  | some d=>rs.any (Nat.beq d ·)
  | none=>false)
 | .buildSlice _ _ _=>(match o.dst with
  | some d=>rs.any (Nat.beq d ·)
  | none=>false)
 | .makeSlice _ _ _=>(match o.dst with
  | some d=>rs.any (Nat.beq d ·)
  | none=>false)
 | .call c=>(match c.callee with
  | .builtin .append=>(match o.dst,tk with
   | some d,some k=>Nat.beq (E.tokOf d) k
   | _,_=>false)
  | _=>(Zee E o.dst).isNone)
 | .store _ x _=>(match Zmx E x with
  | none=>true
  | some _=>false)
 | _=>true
theorem ZkL{E:Env}{rs:List Nat}{tk:Option Nat}{o:Oper}(h:Zsq E rs tk o=true):ZmH E o:=by
 refine⟨fun T x y e=>?_,fun f as ats e=>?_⟩
 ·unfold Zsq at h
  rw[e]at h
  cases hs:Zmx E x with
  | none=>rfl
  | some k=>simp[hs]at h
 ·unfold Zsq at h
  rw[e]at h
  simpa using h
def ZmR(rs:List Nat)(o:Oper):List Nat:=match o.op with
 | .alloc _=>dl o.dst
 | .box _ _=>dl o.dst
 | .buildSlice _ _ _=>dl o.dst
 | .makeSlice _ _ _=>dl o.dst
 | .store _ _ _=>rs
 | .call c=>(match c.callee with
  | .value _=>rs
  | .builtin .copy=>rs
  | _=>[])
 | _=>[]
def ZdE(o:Oper):Bool:=match o.op with
 | .buildSlice _ _ _=>true
 | .call c=>(match c.callee with
  | .value _=>true
  | .builtin .append=>true
  | _=>false)
 | _=>false
section
variable {rs:List Nat} {tk:Option Nat} {S1 S2:St} {m M:Mem}
theorem Zvn{E:Env}(w:World)(hE:E.fix=none){f:List Value→Mem→Value→Mem→List (List Value)→Prop}(hs:Less S1 S2)(io:∀id x,S1.L id=some x→id∈rs)(hL:∀id∈rs,S1.L id=S2.L id)
  (bY:∀k,tk=some k→S1.tok k=S2.tok k) (hm:m.le M) {o:Oper} (ig:Zsq E rs tk o=true):
  LC (fun K:St×Mem→Prop=>opW (E.fixed f) S1 m o fun S' m'=>K (S',m')) (fun K:St×Mem→Prop=>opW E S2 M o fun S' m'=>K (S',m')) (Out (ZmR rs o) tk (ZdE o) m M o.dst S1 S2):=by
 have eF:∀(rs:List Nat)(g:Bool)(o:Oper),LC (fun K:St×Mem→Prop=>Zcs (E.fixed f) S1 o fun sv=>K (S1.put o.dst (some sv),m)) (fun K:St×Mem→Prop=>Zcs E S2 o fun sv=>K (S2.put o.dst (some sv),M)) (Out rs tk g m M o.dst S1 S2):=fun rs g o=>by
  refine LC.map (f:=fun sv=>(S1.put o.dst (some sv),m)) (g:=fun sv=>(S2.put o.dst (some sv),M)) (ρ:=Eq) (T1:=fun K=>Zcs (E.fixed f) S1 o K) (T2:=fun K=>Zcs E S2 o K) ?_ ?_ ?_
  ·exact(Zsm w hs:LE (Zcs E S1 o) (Zcs E S2 o))
  ·rintro a b rfl
   exact Out.put0 hm _ (fun sv h=>h)
  ·exact fun h=>ZkE h
 obtain⟨dst,op,type,pos,after,guard⟩:=o
 have hC:∀(rs:List Nat)(g:Bool)(x:Operand),LC (fun K:St×Mem→Prop=>K (S1.put dst (S1.ev x),m)) (fun K:St×Mem→Prop=>K (S2.put dst (S2.ev x),M)) (Out rs tk g m M dst S1 S2):=fun rs g x=>LC.ret (Out.put0 hm _ (fun sv h=>hs.ev h))
 have cR:∀{g:Bool} {d:Nat} {x:Box} {sv:SV},Out [d] tk g m M (some d) S1 S2 ((S1.newL d x).put (some d) (some sv),m) ((S2.newL d x).put (some d) (some sv),M):=fun {g d x sv}=>(OutB.newL hm (fun _=>⟨rfl,rfl⟩) (by simp) x).put (some d) (fun sv h=>h)
 cases op with
 | move x=>exact hC _ _ x
 | assign x=>exact hC _ _ x
 | pick c x y=>exact Zcu hs fun v=>LC.chk fun _=>LC.br (hC _ _ x) (hC _ _ y)
 | load T x=>
  have hq:Zo2 (E.fixed f) dst=Zo2 E dst:=rfl
  simp only[opW,hq]
  cases k9:Zo2 E dst with
  | some y=>exact LC.false
  | none=>
  refine LC.map (f:=fun v=>(S1.put dst (some (.v v)),m)) (g:=fun v=>(S2.put dst (some (.v v)),M)) (ρ:=Eq) (T1:=fun K=>Zfs (E.fixed f) S1 m T x K) (T2:=fun K=>Zfs E S2 M T x K) ?_ ?_ ?_
  ·exact(Zsn hs hm:LE (Zfs E S1 m T x) (Zfs E S2 M T x))
  ·rintro a b rfl
   exact Out.put0 hm _ (fun sv h=>h)
  ·exact fun h=>Zfv h
 | store T x y=>
  refine Zcu hs fun v=>?_
  show LC (fun K=>match Zmx E x with
   | none=>_
   | some key=>bif (E.fixed f).fix.isSome then False else _) (fun K=>match Zmx E x with
   | none=>_
   | some key=>_) _
  cases Zmx E x with
  | some key=>exact LC.false
  | none=>
  refine LC.map (f:=fun y:St×Mem=>(y.1.put dst none,m)) (g:=fun y:St×Mem=>(y.1.put dst none,M)) (ρ:=fun y1 y2=>OutB rs tk false m M S1 S2 y1 y2∧y1.2=m∧y2.2=M) ?_ ?_ ?_ (T1:=fun K=>Zgv (E.fixed f) S1 T x v fun S'=>K (S',m)) (T2:=fun K=>Zgv E S2 T x v fun S'=>K (S',M))
  ·exact fun h=>Zf1 (fun S' _ ⟨y1,g1,g2⟩=>⟨(y1.1,m),fun K hK=>g1 (fun y=>K (y.1,m)) hK,⟨g2.env1,g2.env2,g2.L,g2.tok,hm,fun _=>⟨rfl,rfl⟩,g2.gh2⟩,rfl,rfl⟩) (Zqs (tk:=tk) (rs:=rs) (g:=false) hs io hm h)
  ·rintro a b ⟨h1,h2,h3⟩
   have:=h1.put dst (x1:=none) (x2:=none) (fun sv h=>h)
   rw[h2,h3]at this;exact this
  ·exact fun h=>Zf1 (fun S' _=>h _)
 | alloc T=>
  simp only[opW,Zqa,Zsq]at *
  cases dst with
  | none=>exact LC.false
  | some d=>
   simp only
   show LC (fun K=>match E.tt T with
    | none=>False
    | some i=>_) _ _
   cases E.tt T with
   | none=>exact LC.false
   | some i=>
    simp only at ig ⊢
    rw[hL d (Ze1.1 ig)]
    cases hx:S2.L d with
    | some x=>exact LC.false
    | none=>exact fun _ b=>⟨_,fun K hK=>hK b,cR⟩
 | box T x=>
  refine Zcu hs fun v=>?_
  show LC (fun K=>bif ZfT E dst then(bif (E.fixed f).fix.isSome then False else _)else _) (fun K=>bif ZfT E dst then _ else _) _
  cases kw:ZfT E dst with
  | true=>exact LC.false
  | false=>
  simp only[cond_false]
  simp only[Zwl,Zsq]at *
  cases dst with
  | none=>exact LC.false
  | some d=>
   simp only
   show LC (fun K=>match E.tt T with
    | none=>False
    | some i=>_) _ _
   cases E.tt T with
   | none=>exact LC.false
   | some i=>
    simp only at ig ⊢
    rw[hL d (Ze1.1 ig)]
    cases hx:S2.L d with
    | some x=>exact LC.false
    | none=>exact LC.chk fun _ _ b=>⟨_,fun K hK=>hK b,cR⟩
 | buildSlice T len parts=>
  simp only[opW]
  have hq:ZcK (E.fixed f) dst=ZcK E dst:=rfl
  simp only[hq]
  cases gK:ZcK E dst with
  | some ke=>exact LC.false
  | none=>
  simp only[Zef,Zsq]at *
  cases dst with
  | none=>exact LC.false
  | some d=>
   simp only
   show LC (fun K=>match E.tt T with
    | none=>False
    | some t=>match t.d with
     | .slice e=>match E.tt e with
      | none=>False
      | some i=>_
     | _=>False) _ _
   cases E.tt T with
   | none=>exact LC.false
   | some t=>
    simp only
    cases t.d <;> simp only <;> try exact LC.false
    rename_i e
    cases E.tt e with
    | none=>exact LC.false
    | some i=>
     simp only at ig ⊢
     rw[hL d (Ze1.1 ig)]
     cases hx:S2.L d with
     | some x=>exact LC.false
     | none=>
      refine LC.chk fun _=>ZmQ hs fun vs=>LC.chk fun _ _ b hb=>⟨_,fun K hK=>hK b ?_,?_⟩
      ·intro o
       cases he:m b o with
       | none=>rfl
       | some v=>have:=hm _ _ _ he;rw[hb o]at this;cases this
      ·exact(OutB.newL (Mem.add_le hm b (Zbo vs)) (fun h=>by cases h) (by simp[ZmR,dl]) _).put (some d) (fun sv h=>h)
 | makeSlice T l c=>
  have hq:ZcK (E.fixed f) dst=ZcK E dst:=rfl
  simp only[opW,hq]
  have k7:ZrB (E.fixed f) dst=ZrB E dst:=rfl
  cases gK:ZcK E dst with
  | some ke=>exact LC.false
  | none=>
  simp only[k7]
  cases la:ZrB E dst with
  | true=>exact LC.false
  | false=>
  simp only[cond_false]
  simp only[Ztv,Zsq]at *
  cases dst with
  | none=>exact LC.false
  | some d=>
   simp only
   show LC (fun K=>match Zay E T with
    | none=>False
    | some (e,j)=>_) _ _
   cases Zay E T with
   | none=>exact LC.false
   | some ej=>
    simp only at ig ⊢
    rw[hL d (Ze1.1 ig)]
    cases hx:S2.L d with
    | some x=>exact LC.false
    | none=>exact Zcu hs fun v=>Zcu hs fun v'=>LC.chk fun _ ⟨h1,_⟩=>⟨h1,fun b=>⟨_,fun K hK=>hK.2 b,cR⟩⟩
 | convert s d x=>
  simp only[opW]
  show LC (fun K=>bif ZfZ E s d then _ else _) _ _
  cases ZfZ E s d with
  | false=>
   simp only[cond_false]
   show LC (fun K=>bif Zcn E s d then _ else _) _ _
   cases Zcn E s d with
   | false=>
    simp only[cond_false]
    show LC (fun K=>bif Zco E s d then _ else _) _ _
    cases Zco E s d with
    | false=>exact eF _ _ ⟨dst,.convert s d x,type,pos,after,guard⟩
    | true=>exact LC.false
   | true=>exact LC.false
  | true=>
   simp only[cond_true]
   cases he:S1.ev x with
   | none=>exact LC.false
   | some sv=>
    simp only[hs.ev he]
    cases sv <;> first
     | exact LC.false
     | exact LC.ret (Out.put0 hm _ (fun sv h=>h))
 | call c=>
  obtain⟨callee,args,argTypes⟩:=c
  cases callee with
  | value g=>
   simp only[opW,ZtG]
   show LC (fun K=>match ZdC E dst with
    | []=>_
    | ids=>bif (E.fixed f).fix.isSome then False else _) (fun K=>match ZdC E dst with
    | []=>_
    | ids=>_) _
   cases ri:ZdC E dst with
   | cons i l=>exact LC.false
   | nil=>
   simp only[Ztu]
   have gU:Zee E dst=none:=(ZkL ig).2 _ _ _ rfl
   have oI:Zee (E.fixed f) dst=none:=gU
   cases he:S1.ev g with
   | none=>exact LC.false
   | some sv=>
    simp only[hs.ev he]
    cases sv with
    | loc id off=>exact LC.false
    | sl id n c=>exact LC.false
    | v u=>
     cases u <;> try exact LC.false
     rename_i fv first captured
     cases fv <;> try exact LC.false
     rename_i gg
     have iM:Zrx (E.fixed f) dst=Zrx E dst:=rfl
     simp only[iM,gU,oI]
     cases lb:Zrx E dst with
     | true=>exact LC.false
     | false=>
     simp only[cond_false]
     have hq:ZcK (E.fixed f) dst=ZcK E dst:=rfl
     simp only[hq]
     cases gK:ZcK E dst with
     | some ke=>exact LC.false
     | none=>
     intro h
     have oJ:=ZiW hs h
     revert h
     rw[←oJ]
     show LC (fun K:St×Mem→Prop=>wvs S1 args.toList fun vs=>ZlX (E.fixed f) S1 m type gg (first.toList++vs++captured.toList) (Zcz S1 args.toList++Zc4 E dst) fun v S' m'=>K (S'.put dst (some (SV.v v)),m'))
      (fun K:St×Mem→Prop=>wvs S2 args.toList fun vs=>ZlX E S2 M type gg (first.toList++vs++captured.toList) (Zcz S1 args.toList++Zc4 E dst) fun v S' m'=>K (S'.put dst (some (SV.v v)),m')) _
     refine ZmQ hs fun vs=>?_
     refine LC.map (f:=fun y:Value×(St×Mem)=>(y.2.1.put dst (some (.v y.1)),y.2.2)) (g:=fun y:Value×(St×Mem)=>(y.2.1.put dst (some (.v y.1)),y.2.2)) (Zsp (rs:=rs) (tk:=tk) (γ:=fun _ _=>none) hE (f:=f) hs io hm) ?_ ?_
     ·rintro⟨v1,y1⟩ ⟨v2,y2⟩ ⟨rfl,h2⟩
      exact h2.put dst (fun sv h=>h)
     ·exact fun h=>ZkG (fun v S' m' _ _=>h _)
  | invoke r mm=>
   simp only[opW]
   exact eF _ _ ⟨dst,_,type,pos,after,guard⟩
  | builtin b=>
   cases b with
   | append=>
    simp only[opW,Zsq]at *
    split
    ·rename_i s x T xT d _ _
     cases fQ:tk with
     | none=>simp[fQ]at ig
     | some key=>
      simp only[fQ]at ig
      obtain rfl:=Nat.eq_of_beq_eq_true ig
      simp only[ZtG]
      show LC (fun K=>match ZdC E (some d)with
       | []=>_
       | ids=>bif (E.fixed f).fix.isSome then False else _) (fun K=>match ZdC E (some d)with
       | []=>_
       | ids=>_) _
      cases ri:ZdC E (some d)with
      | cons i l=>exact LC.false
      | nil=>
      refine Zcu hs fun v=>Zcu hs fun v'=>?_
      have z:=Zog (E:=E) (rs:=[]) (tk:=some (E.tokOf d)) (key:=E.tokOf d) (S1:=S1) (S2:=S2) (f:=f) (T:=T) (xT:=xT) (vs:=v) (vx:=v') hm rfl (fun k hk=>bY k (fQ.trans hk))
      refine LC.map z (f:=fun y:Value×(St×Mem)=>(y.2.1.put (some d) (some (.v y.1)),y.2.2)) (g:=fun y:Value×(St×Mem)=>(y.2.1.put (some d) (some (.v y.1)),y.2.2)) ?_ ?_
      ·rintro⟨v1,y1⟩ ⟨v2,y2⟩ ⟨rfl,h2⟩
       exact h2.put (some d) (fun sv h=>h)
      ·exact fun h=>ZgT (fun v t m' _=>h _)
    ·exact LC.false
   | copy=>
    simp only[opW,Zsq]at *
    split
    ·rename_i d s T xT _ _
     have hq:ZeN (E.fixed f) d=ZeN E d:=rfl
     simp only[hq]
     cases ZeN E d with
     | none=>exact LC.false
     | some id=>
      refine Zcu hs fun v=>Zcu hs fun v'=>?_
      have z:=Zso (E:=E) (rs:=rs) (tk:=tk) (g:=false) (S1:=S1) (S2:=S2) (f:=f) (T:=T) (id:=id) (vd:=v) (vs:=v') hs io hm
      refine LC.map z (f:=fun y:Int×(St×Mem)=>(y.2.1.put dst (some (.v (.int .i64 y.1))),m)) (g:=fun y:Int×(St×Mem)=>(y.2.1.put dst (some (.v (.int .i64 y.1))),M)) ?_ ?_
      ·rintro⟨n1,y1⟩ ⟨n2,y2⟩ ⟨rfl,h2,h3,h4⟩
       have:=h2.put dst (x1:=some (.v (.int .i64 n1))) (x2:=some (.v (.int .i64 n1))) (fun sv h=>h)
       rw[h3,h4]at this;exact this
      ·exact fun h=>ZkF (fun n S' _=>h _)
    ·exact LC.false
   | _=>
    simp only[opW]
    exact eF _ _ ⟨dst,_,type,pos,after,guard⟩
 | _=>
  simp only[opW]
  exact eF _ _ ⟨dst,_,type,pos,after,guard⟩
theorem Zvo{E:Env}(w:World)(hE:E.fix=none){f:List Value→Mem→Value→Mem→List (List Value)→Prop}(hs:Less S1 S2)(io:∀id x,S1.L id=some x→id∈rs)(hL:∀id∈rs,S1.L id=S2.L id)
  (bY:∀k,tk=some k→S1.tok k=S2.tok k) (hm:m.le M) {ops:Array Oper} {o:Oper} (ig:Zsq E rs tk o=true):
  LC (fun K:St×Mem→Prop=>opG (E.fixed f) ops o S1 m fun S' m'=>K (S',m')) (fun K:St×Mem→Prop=>opG E ops o S2 M fun S' m'=>K (S',m')) (Out (ZmR rs o) tk (ZdE o) m M o.dst S1 S2):=by
 have h1:=Zvn w hE (f:=f) hs io hL bY hm ig
 have h0:LC (fun K:St×Mem→Prop=>K (S1.put o.dst (some (.v undef)),m)) (fun K:St×Mem→Prop=>K (S2.put o.dst (some (.v undef)),M)) (Out (ZmR rs o) tk (ZdE o) m M o.dst S1 S2):=LC.ret (Out.put0 hm _ (fun sv h=>h))
 unfold opG
 cases hg:o.guard with
 | none=>exact h1
 | some jw=>
  obtain⟨j,want⟩:=jw
  simp only
  cases ops.toList[j]? with
  | none=>exact LC.false
  | some oj=>
   simp only
   cases oj.dst with
   | none=>exact LC.false
   | some t=>
    simp only
    cases he:S1.env t with
    | none=>exact LC.false
    | some sv=>
     simp only[hs.env t sv he]
     cases sv with
     | loc id off=>exact LC.false
     | sl id n c=>exact LC.false
     | v u=>
      simp only
      cases ZdD u with
      | true=>exact h0
      | false=>
       refine LC.chk fun _=>?_
       cases want
       ·exact LC.br h0 h1
       ·exact LC.br h1 h0
end
end Go.Eng
namespace Go.Eng
open Go Go.RowKit
def mem(l:List Nat)(i:Nat):Bool:=l.any (Nat.beq i ·)
theorem ZaS{l:List Nat}{i:Nat}:mem l i=true↔i∈l:=Ze1
def Zqt(t:Option Nat)(k:Nat):Bool:=match t with
 | some q=>Nat.beq k q
 | none=>false
theorem Zbp{t:Option Nat}{k:Nat}:Zqt t k=true↔t=some k:=by
 cases t with
 | none=>simp[Zqt]
 | some q=>
  simp only[Zqt,Option.some.injEq]
  exact⟨fun h=>(Nat.eq_of_beq_eq_true h).symm,fun h=>by subst h;exact Nat.beq_refl _⟩
def ZfA(o:Oper)(t:Nat):Bool:=Zqt o.dst t
def Zoh(ops:Array Oper)(d:DOp)(o:Oper)(S:St):St:=
 {env:=fun t=>bif mem (o.looksAt ops) t then S.env t else none
  L:=fun id=>bif mem d.rs id then S.L id else none
  ids:=S.ids
  tok:=fun k=>bif Zqt d.tk k then S.tok k else none
  tkeys:=S.tkeys
  gh:=S.gh }
def ZmS(d:DOp)(o:Oper)(S S':St):St:=
 {env:=fun t=>bif ZfA o t then S'.env t else S.env t
  L:=fun id=>bif mem d.ws id then S'.L id else S.L id
  ids:=S.ids
  tok:=fun k=>bif Zqt d.tk k then S'.tok k else S.tok k
  tkeys:=S.tkeys
  gh:=S.gh }
def upd(μ:Nat→Mem)(i:Nat)(m:Mem):Nat→Mem:=fun j=>bif Nat.beq j i then m else μ j
def ZnX(μ:Nat→Mem)(M:Mem):List Nat→Prop→Prop
 | [],p=>p
 | j::l,p=>(μ j).le M→ZnX μ M l p
def Zpb(μ:Nat→Mem)(m0:Mem):List Nat→(Mem→Prop)→Prop
 | [],k=>k m0
 | [j],k=>k (μ j)
 | l,k=>∀V:Mem,m0.le V→ZnX μ V l (k V)
abbrev Fx:=Nat→List Value→Mem→Value→Mem→List (List Value)→Prop
def Zrw(E:Env)(ops:Array Oper)(m0:Mem)(f:Fx)(d:DOp)(S:St)(μ:Nat→Mem)(K:St→Mem→Prop):Prop:=match ops.toList[d.i]? with
 | none=>False
 | some o=>Zpb μ m0 d.vw fun V=>opG (E.fixed (f d.i)) ops o (Zoh ops d o S) V K
def Zoi(ops:Array Oper)(d:DOp)(S S':St):St:=match ops.toList[d.i]? with
 | none=>S
 | some o=>ZmS d o S S'
def ZjB(E:Env)(ops:Array Oper)(m0:Mem)(f:Fx)(d:DOp)(S:St)(μ:Nat→Mem)(K:St→(Nat→Mem)→Prop):Prop:=
 Zrw E ops m0 f d S μ fun S' m'=>K (Zoi ops d S S') (upd μ d.i m')
def Zh4(E:Env)(ops:Array Oper)(m0:Mem)(f:Fx):List DOp→(St→(Nat→Mem)→Prop)→St→(Nat→Mem)→Prop
 | [],K,S,μ=>K S μ
 | d::r,K,S,μ=>ZjB E ops m0 f d S μ (Zh4 E ops m0 f r K)
def Zu7(ops:Array Oper)(d:DOp):Option Nat:=match ops.toList[d.i]? with
 | none=>none
 | some o=>Zft ops o
def Zh5(E:Env)(ops:Array Oper)(m0:Mem)(f:Fx):List DOp→(St→(Nat→Mem)→Prop)→St→(Nat→Mem)→Prop
 | [],K,S,μ=>K S μ
 | d::r,K,S,μ=>match Zu7 ops d with
  | none=>ZjB E ops m0 f d S μ (Zh5 E ops m0 f r K)
  | some t=>match S.env t with
   | some (.v v)=>bif ZdD v then ZjB E ops m0 f d S μ (Zh5 E ops m0 f r K)else chk (Zgt v) (br (Zck v) (ZjB E ops m0 f d (S.put (some t) (some (.v (.bool true)))) μ (Zh5 E ops m0 f r K)) (ZjB E ops m0 f d (S.put (some t) (some (.v (.bool false)))) μ (Zh5 E ops m0 f r K)))
   | _=>False
def Zu8(m0:Mem)(μ:Nat→Mem):List Nat→(Mem→Prop)→Prop
 | [],k=>k m0
 | l,k=>∀M:Mem,m0.le M→ZnX μ M l (k M)
def Zh6(ops:Array Oper):List DOp→List Nat
 | []=>[]
 | d::r=>match ops.toList[d.i]? with
  | none=>Zh6 ops r
  | some o=>bif ZdE o then d.i::Zh6 ops r else Zh6 ops r
def ZtZ:List DOp→List Nat
 | []=>[]
 | d::r=>d.ws++ZtZ r
def Ztz:List DOp→List Nat
 | []=>[]
 | d::r=>match d.tk with
  | none=>Ztz r
  | some k=>k::Ztz r
def ZjC(ds:List DOp)(S:St):St:={ S with ids:=ZtZ ds++S.ids,tkeys:=Ztz ds++S.tkeys }
def Zwq(a b:List Nat):Bool:=a.all fun i=>!mem b i
def Zwh(a b:List Nat):Bool:=a.all fun i=>mem b i
def ZmT(o:Oper)(l:List Nat):Bool:=match o.dst with
 | none=>true
 | some t=>!mem l t
def Zu9(a b:Oper):Bool:=match a.dst with
 | none=>true
 | some t=>!ZfA b t
def ZwR(a b:Option Nat):Bool:=match a with
 | none=>true
 | some k=>!Zqt b k
def Zpc(ops:Array Oper)(c d:DOp):Bool:=match ops.toList[c.i]?,ops.toList[d.i]? with
 | some oc,some od=>(ZmT oc (od.looksAt ops)&&ZmT od (oc.looksAt ops)&&Zu9 oc od)&&(Zwq c.ws d.rs&&Zwq d.ws c.rs&&ZwR c.tk d.tk)&&(!mem d.vw c.i&&!mem c.vw d.i&&!Nat.beq c.i d.i)
 | _,_=>false
def Za6(o:Oper):List Nat:=(o.after.toList.filter (Region.binds .any ·)).map (·.on)
def ZvV:List DOp→Nat→List Nat
 | [],_=>[]
 | d::r,i=>bif Nat.beq d.i i then d.an else ZvV r i
def Zva(E:Env)(ops:Array Oper)(d:DOp)(before:List DOp):Bool:=match ops.toList[d.i]? with
 | none=>false
 | some o=>(Zsq E d.rs d.tk o&&Zwh (ZmR d.rs o) d.ws&&Zwh d.ws d.rs)&&(Zwh d.vw d.an&&Zwh (Za6 o) (before.map (·.i))) &&
   (d.an.all fun j=>mem (Za6 o) j||(Za6 o).any fun p=>mem (ZvV before p) j)&&(before.all fun c=>mem d.an c.i||Zpc ops c d)&&(before.all fun c=>!Nat.beq c.i d.i)
def Zib(E:Env)(ops:Array Oper):List DOp→List DOp→Bool
 | [],_=>true
 | d::r,before=>Zva E ops d before&&Zib E ops r (d::before)
def Zt0(E:Env)(ops:Array Oper)(ds:List DOp)(n:Nat):Bool:=(List.range n).all (fun i=>ds.any fun d=>Nat.beq d.i i)&&Nat.ble ds.length ops.size&&Zib E ops ds []&&E.fix.isNone
def ZrG:List Oper→Bool
 | []=>false
 | o::l=>(match o.op with
  | .call c=>(match c.callee with
   | .value _=>true
   | _=>false)
  | _=>false)||ZrG l
def Zxc:Fx:=fun _ _ _ _ _ _=>True
def exF(b:Bool)(p:Fx→Prop):Prop:=match b with
 | true=>∃f,p f
 | false=>p Zxc
theorem Zsr{b:Bool}{p:Fx→Prop}(h:exF b p):∃f,p f:=by
 cases b
 ·exact⟨_,h⟩
 ·exact h
theorem Zss{b:Bool}{p q:Fx→Prop}(h:∀f,p f→q f)(x:exF b p):exF b q:=by
 cases b
 ·exact h _ x
 ·obtain⟨f,x⟩:=x;exact⟨f,h f x⟩
def Zt1(ops:Array Oper)(ds:List DOp)(k:Nat):Bool:=(Nat.ble k ops.size&&(List.range k).all fun j=>match ops.toList[ops.size - k+j]? with
 | none=>false
 | some o=>(List.range j).all (fun i=>mem (Za6 o) (ops.size - k+i))&&((Za6 o).all (fun i=>Nat.ble (i+1) (ops.size - k+j))&&(bif Nat.beq j 0 then(List.range (ops.size - k)).all (fun i=>mem (Za6 o) i||(Za6 o).any fun p=>mem (ZvV ds p) i)else true)))&&ds.all fun d=>Nat.ble (d.i+1) (ops.size - k)
def ZiX(E:Env)(ops:Array Oper)(K:St→Mem→Prop):List Oper→St→Mem→Prop
 | [],S,m=>K S m
 | o::r,S,m=>Zvk E ops o S m (ZiX E ops K r)
def Zqu(E:Env)(ops:Array Oper)(k:Nat)(K:St→Mem→Prop)(S:St)(m:Mem):Prop:=ZiX E ops K (ops.toList.drop (ops.size - k)) S m
def ZrH(E:Env)(S:St)(ids:List Nat)(T:TypeId)(x:Operand)(k:Value→Prop):Prop:=match E.tt T with
 | none=>False
 | some i=>match S.ev x with
  | some (.loc id off)=>match S.L id with
   | none=>False
   | some bx=>chk (!mem ids id) (Zce i bx off k)
  | some (.v v)=>match E.m0 with
   | none=>False
   | some m0=>chk (Zjk v&&(ZeN E x).isNone) (Zcx i m0 (Zp2 v) (Zp3 v) k)
  | _=>False
def Zlw(E:Env)(S:St)(ids:List Nat):List Oper→St→(St→Prop)→Prop
 | [],S1,k=>k S1
 | o::r,S1,k=>match o.op with
  | .load T x=>ZrH E S ids T x fun v=>Zlw E S ids r (S1.put o.dst (some (.v v))) k
  | _=>False
def Zqv{α:Type}:List α→Bool
 | []=>true
 | _=>false
def ZmU(l:List Nat):Operand→Bool
 | .tmp t=>!mem l t
 | _=>true
def ZvW:Operand→Bool
 | .func _=>true
 | _=>false
def ZrI(E:Env)(ops:Array Oper)(o:Oper):Bool:=o.guard.isNone&&(Zqv (Za6 o)&&(match o.op with
 | .load _ x=>(Zo2 E o.dst).isNone&&(o.dst.isSome&&ZmU (Zao ops.toList) x)
 | _=>false))
def ZmV(E:Env)(ops:Array Oper)(c:Nat)(lds:List Oper)(o:Oper):Bool:=o.guard.isNone&&(match o.op with
 | .call q=>(match q.callee with
  | .value f=>(Zee E o.dst).isSome&&(Zqv (ZdC E o.dst)&&(o.dst.isSome&&(ZmT o (Zao lds)&&(ZvW f &&
    ((List.range c).all fun j=>mem (Za6 o) j||match ops.toList[j]? with
     | none=>false
     | some oj=>match oj.dst with
      | none=>false
      | some t=>q.args.toList.all (ZmU [t]))))))&&(Za6 o).all fun j=>Nat.ble (j+1) c
  | _=>false)
 | _=>false)
def Zvb(E:Env)(ops:Array Oper)(k:Nat):Bool:=
 (Nat.ble k ops.size&&(Nat.ble 1 k&&E.thaw))&&((ops.toList.take (ops.size - k)).all (ZrI E ops)&&(Za0 (Zao (ops.toList.take (ops.size - k))) &&
  ((match ops.toList[ops.size - k]? with
   | none=>false
   | some o=>ZmV E ops (ops.size - k) (ops.toList.take (ops.size - k)) o) &&
  (List.range k).all fun j=>bif Nat.beq j 0 then true else match ops.toList[ops.size - k+j]?,ops.toList[ops.size - k]? with
   | some o,some oc=>(List.range j).all (fun i=>mem (Za6 o) (ops.size - k+i))&&((Za6 o).all (fun i=>Nat.ble (i+1) (ops.size - k+j)) &&
     (bif Nat.beq j 1 then(List.range (ops.size - k)).all (fun i=>mem (Za6 o) i||mem (Za6 oc) i)else true))
   | _,_=>false)))
def ZvX(E:Env)(id:Nat)(ops:Array Oper)(K:St→Mem→Prop)(S:St)(m:Mem):Prop:=
 chk (E.last id&&Zvb E ops (E.lastK id)) (match ops.toList.drop (ops.size - E.lastK id)with
  | []=>False
  | o::r=>match o.op with
   | .call q=>Zlw E S (Zc4 E o.dst) (ops.toList.take (ops.size - E.lastK id)) S fun S1=>chk (Zqv (Zcz S1 q.args.toList)) (opG E ops o S1 m (ZiX E ops K r))
   | _=>False)
def ZjD(E:Env)(id:Nat)(ops:Array Oper)(K:St→Mem→Prop)(S:St)(m:Mem):Prop:=
 bif E.hot id then ZvX E id ops K S m else
 chk (Zt0 E ops (E.dr id) (bif E.last id then ops.size - E.lastK id else ops.size)&&(bif E.last id then Zt1 ops (E.dr id) (E.lastK id)else true)) (exF (ZrG ops.toList) fun f=>bif E.gb then Zh5 E ops m f (E.dr id) (fun S' μ=>Zu8 m μ (Zh6 ops (E.dr id)) fun M=>bif E.last id then Zqu E ops (E.lastK id) K S' M else K S' M) (ZjC (E.dr id) S) (fun _=>m)else Zh4 E ops m f (E.dr id) (fun S' μ=>Zu8 m μ (Zh6 ops (E.dr id)) fun M=>bif E.last id then Zqu E ops (E.lastK id) K S' M else K S' M) (ZjC (E.dr id) S) (fun _=>m))
def Zwi(S:St)(y:Option SV):Option SV:=match y with
 | some (.loc i off)=>(match S.L i with
  | some x=>some (.v (.pointer (some ⟨x.b,off,none⟩)))
  | none=>none)
 | y=>y
def ptrS(S:St)(ts:List Nat):St:={ S with env:=fun t=>bif mem ts t then Zwi S (S.env t)else S.env t }
def Zic(S S':St):List Nat→Prop→Prop
 | [],p=>p
 | t::l,p=>match S.env t with
  | some (.loc i _)=>S'.L i=S.L i∧Zic S S' l p
  | some (.v _)=>Zic S S' l p
  | _=>False
def Zt2(S S':St)(ts:List Nat):St:={ S' with env:=fun t=>bif mem ts t then S.env t else S'.env t }
def ZvY(ts ds:List Nat)(f:(St→Mem→Prop)→St→Mem→Prop)(K:St→Mem→Prop)(S:St)(m:Mem):Prop:=match ts with
 | []=>f K S m
 | _::_=>chk (Zwq ts ds) (f (fun S' m'=>Zic S S' ts (K (Zt2 S S' ts) m')) (ptrS S ts) m)
def ZaV(E:Env)(id:Nat)(ops:Array Oper)(K:St→Mem→Prop)(S:St)(m:Mem):Prop:=ZtG E (some (1000000+id)) S m fun S m=>ZtO E (bif E.last id then E.acq id else none) (ZvY (E.ptrAt id) (Zao ops.toList) (ZjD E id ops)) K S m
theorem ZhR{μ:Nat→Mem}{M:Mem}{p q:Prop}(h:p→q):∀{l:List Nat},ZnX μ M l p→ZnX μ M l q
 | [],x=>h x
 | j::l,x=>fun y=>ZhR h (x y)
theorem ZhS{μ:Nat→Mem}{M:Mem}{p:Prop}:∀{l:List Nat},ZnX μ M l p→(∀j∈l,(μ j).le M)→p
 | [],x,_=>x
 | j::l,x,h=>ZhS (x (h j (by simp))) (fun i hi=>h i (by simp[hi]))
theorem Zoj{μ:Nat→Mem}{m0:Mem}{k k':Mem→Prop}(h:∀V,k V→k' V):∀{l:List Nat},Zpb μ m0 l k→Zpb μ m0 l k'
 | [],x=>h _ x
 | [j],x=>h _ x
 | i::j::l,x=>fun V hV=>ZhR (h V) (x V hV)
theorem Zok{μ:Nat→Mem}{m0 A:Mem}{l:List Nat}(h0:m0.le A)(hl:∀j∈l,(μ j).le A):∃V:Mem,V.le A∧∀k:Mem→Prop,Zpb μ m0 l k→k V:=by
 match l with
 | []=>exact⟨m0,h0,fun k x=>x⟩
 | [j]=>exact⟨μ j,hl j (by simp),fun k x=>x⟩
 | i::j::l=>exact⟨A,Mem.le_refl A,fun k x=>ZhS (x A h0) hl⟩
theorem Zqw{μ:Nat→Mem}{m0:Mem}{i:Nat}{m:Mem}{l:List Nat}(h:i ∉ l)(k:Mem→Prop):Zpb (upd μ i m) m0 l k=Zpb μ m0 l k:=by
 have one:∀{j},j∈l→upd μ i m j=μ j:=fun {j} hj=>by
  have:j≠i:=fun e=>h (e ▸ hj)
  simp[upd,Zam this]
 have all:∀{l':List Nat},(∀j∈l',j∈l)→∀(M:Mem)(p:Prop),ZnX (upd μ i m) M l' p=ZnX μ M l' p:=by
  intro l'
  induction l' with
  | nil=>intro _ M p;rfl
  | cons j l' ih=>
   intro hs M p
   simp only[ZnX]
   rw[one (hs j (by simp)),ih (fun x hx=>hs x (by simp[hx]))]
 match l with
 | []=>rfl
 | [j]=>simp only[Zpb];rw[one (by simp)]
 | a::b::l=>
  simp only[Zpb]
  exact propext ⟨fun x V hV=>by have:=x V hV;rwa [all (fun j hj=>hj)]at this,fun x V hV=>by rw[all (fun j hj=>hj)];exact x V hV⟩
theorem Zqx{m0:Mem}{μ:Nat→Mem}{l:List Nat}{k:Mem→Prop}{A:Mem}(h:Zu8 m0 μ l k)(h0:m0.le A)(he:l=[]→A=m0)(hl:∀j∈l,(μ j).le A):k A:=by
 match l with
 | []=>rw[he rfl];exact h
 | i::l=>exact ZhS (h A h0) hl
theorem ZmW{m0:Mem}{μ:Nat→Mem}{l:List Nat}{k k':Mem→Prop}(h:∀M:Mem,m0.le M→k M→k' M)(x:Zu8 m0 μ l k):Zu8 m0 μ l k':=by
 match l with
 | []=>exact h _ (Mem.le_refl _) x
 | i::l=>exact fun M hM=>ZhR (h M hM) (x M hM)
theorem Zei{E:Env}{ops:Array Oper}{m0:Mem}{f:Fx}{d:DOp}{S:St}{μ:Nat→Mem}{K K':St→Mem→Prop}(h:∀S' m',K S' m'→K' S' m')(hx:Zrw E ops m0 f d S μ K):Zrw E ops m0 f d S μ K':=by
 unfold Zrw at *
 split at hx
 ·exact hx.elim
 ·exact Zoj (fun V y=>Zf2 (th:=true) (.inl rfl) (fun S' m' _ _=>h S' m') y) hx
theorem ZkM{E:Env}{ops:Array Oper}{m0:Mem}{f:Fx}:∀{r:List DOp} {K K':St→(Nat→Mem)→Prop} {S:St} {μ:Nat→Mem},(∀S' μ',SameOut (Zao ops.toList) S S'→K S' μ'→K' S' μ')→Zh4 E ops m0 f r K S μ→Zh4 E ops m0 f r K' S μ
 | [],K,K',S,μ,h,hx=>h _ _ (SameOut.refl _ S) hx
 | d::r,K,K',S,μ,h,hx=>by
  refine Zei (fun S' m' y=>ZkM (fun S'' μ'' hs y=>h _ _ (SameOut.trans ?_ hs) y) y) hx
  intro t ht
  unfold Zoi
  cases ho:ops.toList[d.i]? with
  | none=>rfl
  | some o=>
   have:ZfA o t=false:=by
    cases hd:ZfA o t with
    | false=>rfl
    | true=>exact absurd (ZaU ho (Zbp.1 hd)) ht
   simp[ZmS,this]
theorem Zqy{ops:Array Oper}{d:DOp}{S S':St}:SameOut (Zao ops.toList) S (Zoi ops d S S'):=by
 intro t ht
 unfold Zoi
 cases ho:ops.toList[d.i]? with
 | none=>rfl
 | some o=>
  have:ZfA o t=false:=by
   cases hd:ZfA o t with
   | false=>rfl
   | true=>exact absurd (ZaU ho (Zbp.1 hd)) ht
  simp[ZmS,this]
theorem Zqz{ops:Array Oper}{d:DOp}{t:Nat}(h:Zu7 ops d=some t):t∈Zao ops.toList:=by
 unfold Zu7 Zft at h
 split at h
 ·cases h
 ·split at h
  ·cases h
  ·split at h
   ·cases h
   ·rename_i oj hj
    exact ZaU hj h
theorem ZkN{E:Env}{ops:Array Oper}{m0:Mem}{f:Fx}:∀{r:List DOp} {K K':St→(Nat→Mem)→Prop} {S:St} {μ:Nat→Mem},(∀S' μ',SameOut (Zao ops.toList) S S'→K S' μ'→K' S' μ')→Zh5 E ops m0 f r K S μ→Zh5 E ops m0 f r K' S μ
 | [],K,K',S,μ,h,hx=>h _ _ (SameOut.refl _ S) hx
 | d::r,K,K',S,μ,h,hx=>by
  have step:∀{S1:St},SameOut (Zao ops.toList) S S1→ZjB E ops m0 f d S1 μ (Zh5 E ops m0 f r K)→ZjB E ops m0 f d S1 μ (Zh5 E ops m0 f r K'):=fun hs y=>
   Zei (fun S' m' y=>ZkN (fun S'' μ'' jq y=>h _ _ (SameOut.trans (SameOut.trans hs Zqy) jq) y) y) y
  unfold Zh5 at hx ⊢
  split at hx
  ·exact step (SameOut.refl _ S) hx
  ·rename_i t ht
   have hC:∀x,SameOut (Zao ops.toList) S (S.put (some t) x):=fun x=>(SameOut.refl _ S).put (fun t' e=>by cases e;exact Zqz ht) x
   split at hx
   ·rename_i v hv
    cases hu:ZdD v with
    | true=>simp only[hu,cond_true]at hx ⊢;exact step (SameOut.refl _ S) hx
    | false=>
     simp only[hu,cond_false]at hx ⊢
     refine Zag (fun y=>?_) hx
     cases hb:Zck v with
     | true=>rw[hb]at y;exact step (hC _) y
     | false=>rw[hb]at y;exact step (hC _) y
   ·exact hx.elim
theorem Zpd{S:St}{t:Nat}{x:SV}(h:S.env t=some x):S.put (some t) (some x)=S:=by
 cases S with
 | mk env L ids tok tkeys gh=>
  simp only[St.put]
  congr 1
  funext i
  by_cases e:i=t
  ·subst e;simp at h ⊢;exact h.symm
  ·simp[Zam e]
theorem ZiY{E:Env}{ops:Array Oper}{m0:Mem}{f:Fx}:∀{r:List DOp} {K:St→(Nat→Mem)→Prop} {S:St} {μ:Nat→Mem},Zh5 E ops m0 f r K S μ→Zh4 E ops m0 f r K S μ
 | [],K,S,μ,hx=>hx
 | d::r,K,S,μ,hx=>by
  have step:∀{S1:St},ZjB E ops m0 f d S1 μ (Zh5 E ops m0 f r K)→ZjB E ops m0 f d S1 μ (Zh4 E ops m0 f r K):=fun y=>Zei (fun S' m' y=>ZiY y) y
  unfold Zh5 at hx
  show ZjB E ops m0 f d S μ (Zh4 E ops m0 f r K)
  split at hx
  ·exact step hx
  ·split at hx
   ·rename_i v hv
    cases hu:ZdD v with
    | true=>simp only[hu,cond_true]at hx;exact step hx
    | false=>
     simp only[hu,cond_false]at hx
     obtain⟨h1,h2⟩:=Zae hx
     have he:=Zbt h1
     cases hb:Zck v with
     | true=>
      rw[hb]at he h2
      subst he
      have h3:ZjB E ops m0 f d (S.put (some _) (some (.v (.bool true)))) μ (Zh5 E ops m0 f r K):=h2
      rw[Zpd hv]at h3;exact step h3
     | false=>
      rw[hb]at he h2
      subst he
      have h3:ZjB E ops m0 f d (S.put (some _) (some (.v (.bool false)))) μ (Zh5 E ops m0 f r K):=h2
      rw[Zpd hv]at h3;exact step h3
   ·exact hx.elim
theorem ZkO{E:Env}{id:Nat}{ops:Array Oper}{K K':St→Mem→Prop}{S:St}{m:Mem}(h:∀S' m',SameOut (Zao ops.toList) S S'→leD E id m m'→K S' m'→K' S' m'){S':St}{M:Mem}(hs:SameOut (Zao ops.toList) S S')(hM:m.le M)(y:bif E.last id then Zqu E ops (E.lastK id) K S' M else K S' M):bif E.last id then Zqu E ops (E.lastK id) K' S' M else K' S' M:=by
 cases hl:E.last id with
 | false=>
  rw[hl]at y
  exact h _ _ hs (by unfold leD;rw[hl];exact hM) y
 | true=>
  rw[hl]at y
  simp only[cond_true]at y ⊢
  unfold Zqu at y ⊢
  have key:∀(r:List Oper),(∀o∈r,o∈ops.toList)→∀(S':St)(M:Mem),SameOut (Zao ops.toList) S S'→leT E.thaw m M→ZiX E ops K r S' M→ZiX E ops K' r S' M:=by
   intro r
   induction r with
   | nil=>exact fun _ S' M hs hM y=>h _ _ hs (by unfold leD;rw[hl];exact hM) y
   | cons o r ih=>
    intro hr S' M hs hM y
    simp only[ZiX]at y ⊢
    obtain⟨i,ho⟩:=List.getElem?_of_mem (hr o (by simp))
    exact Zjx (fun t ht=>ZaU ho ht) (fun S2 m2 jq aY y=>ih (fun o ho=>hr o (by simp[ho])) _ _ (hs.trans jq) (leT.trans hM aY) y) y
  exact key _ (fun o ho=>List.mem_of_mem_drop ho) _ _ hs (.of hM) y
theorem ZkP{E:Env}{ops:Array Oper}{K K':St→Mem→Prop}{S:St}{m:Mem}(h:∀S' m',SameOut (Zao ops.toList) S S'→leT E.thaw m m'→K S' m'→K' S' m'):∀(r:List Oper),(∀o∈r,o∈ops.toList)→∀(S':St)(M:Mem),SameOut (Zao ops.toList) S S'→leT E.thaw m M→ZiX E ops K r S' M→ZiX E ops K' r S' M
 | [],_,S',M,hs,hM,y=>h _ _ hs hM y
 | o::r,hr,S',M,hs,hM,y=>by
  simp only[ZiX]at y ⊢
  obtain⟨i,ho⟩:=List.getElem?_of_mem (hr o (by simp))
  exact Zjx (fun t ht=>ZaU ho ht) (fun S2 m2 jq aY y=>ZkP h r (fun o ho=>hr o (by simp[ho])) _ _ (hs.trans jq) (leT.trans hM aY) y) y
theorem Zol{E:Env}{S:St}{ids:List Nat}{T:TypeId}{x:Operand}{k k':Value→Prop}(h:∀v,k v→k' v)(hx:ZrH E S ids T x k):ZrH E S ids T x k':=by
 unfold ZrH at *
 split at hx
 ·exact hx
 ·split at hx
  ·split at hx
   ·exact hx
   ·exact Zag (Zdf h) hx
  ·split at hx
   ·exact hx
   ·exact Zag (ZgS h) hx
  ·exact hx
theorem ZiZ{E:Env}{S:St}{ids:List Nat}{D:List Nat}:∀{r:List Oper} {S1:St} {k k':St→Prop},(∀o∈r,∀t,o.dst=some t→t∈D)→(∀S',SameOut D S1 S'→k S'→k' S')→Zlw E S ids r S1 k→Zlw E S ids r S1 k'
 | [],S1,k,k',_,h,hx=>h _ (SameOut.refl _ S1) hx
 | o::r,S1,k,k',hd,h,hx=>by
  unfold Zlw at *
  split at hx
  ·refine Zol (fun v y=>ZiZ (fun o ho=>hd o (by simp[ho])) (fun S' hs y=>h _ (SameOut.trans ?_ hs) y) y) hx
   exact(SameOut.refl _ S1).put (fun t e=>hd o (by simp) t e) _
  ·exact hx
theorem Zt3{E:Env}{id:Nat}{ops:Array Oper}{K K':St→Mem→Prop}{S:St}{m:Mem}(h:∀S' m',SameOut (Zao ops.toList) S S'→leD E id m m'→K S' m'→K' S' m')(hx:ZvX E id ops K S m):ZvX E id ops K' S m:=by
 unfold ZvX at *
 obtain⟨h1,h2⟩:=Zae hx
 refine Zaa h1 ?_
 simp only[Bool.and_eq_true]at h1
 have gY:E.thaw=true:=by
  have:=h1.2
  simp only[Zvb,Bool.and_eq_true]at this
  exact this.1.2.2
 split at h2
 ·exact h2
 ·rename_i o r lg
  split at h2
  ·rename_i q hq
   have cH:∀o'∈ops.toList.drop (ops.size - E.lastK id),o'∈ops.toList:=fun o' ho'=>List.mem_of_mem_drop ho'
   rw[lg]at cH
   have inD:∀o'∈ops.toList,∀t,o'.dst=some t→t∈Zao ops.toList:=fun o' ho' t ht=>by
    obtain⟨i,hi⟩:=List.getElem?_of_mem ho'
    exact ZaU hi ht
   refine ZiZ (D:=Zao ops.toList) (fun o' ho' t ht=>inD o' (List.mem_of_mem_take ho') t ht) (fun S1 hs y=>Zag (fun y=>?_) y) h2
   refine Zf2 (th:=true) (.inl rfl) (fun S2 m2 jq _ y=>?_) y
   refine ZkP (S:=S) (m:=m) (fun S3 m3 rj _ y=>h _ _ rj (by unfold leD;rw[h1.1,gY];trivial) y) r (fun o' ho'=>cH o' (by simp[ho'])) _ _ (hs.trans ?_) (by rw[gY];trivial) y
   exact jq.mono fun t ht=>by
    cases hd:o.dst with
    | none=>simp[hd,dl]at ht
    | some d=>simp[hd,dl]at ht;subst ht;exact inD o (cH o (by simp)) _ hd
  ·exact h2
theorem ZjE(E:Env):ZdY E (ZjD E):=by
 intro id ops K K' S m h hx
 unfold ZjD at *
 cases hh:E.hot id with
 | true=>simp only[hh,cond_true]at hx ⊢;exact Zt3 h hx
 | false=>
 simp only[hh,cond_false]at hx ⊢
 refine Zag (fun y=>?_) hx
 refine Zss (fun f y=>?_) y
 cases lS:E.gb with
 | false=>
  simp only[lS,cond_false]at y ⊢
  exact ZkM (fun S' μ hs y=>ZmW (fun M hM y=>ZkO h hs hM y) y) y
 | true=>
  simp only[lS,cond_true]at y ⊢
  exact ZkN (fun S' μ hs y=>ZmW (fun M hM y=>ZkO h hs hM y) y) y
theorem Zf5{S S':St}{p q:Prop}(h:p→q):∀{l:List Nat},Zic S S' l p→Zic S S' l q
 | [],x=>h x
 | t::l,x=>by
  unfold Zic at *
  split at x
  ·exact⟨x.1,Zf5 h x.2⟩
  ·exact Zf5 h x
  ·exact x
theorem Zf6{S S':St}{p:Prop}:∀{l:List Nat},Zic S S' l p→p∧∀t∈l,(∃i off,S.env t=some (.loc i off)∧S'.L i=S.L i)∨∃v,S.env t=some (.v v)
 | [],x=>⟨x,by simp⟩
 | t::l,x=>by
  unfold Zic at x
  split at x
  ·rename_i i off he
   obtain⟨h1,h2⟩:=Zf6 x.2
   refine⟨h1,fun t' ht=>?_⟩
   rcases List.mem_cons.1 ht with rfl|ht
   ·exact .inl ⟨i,off,he,x.1⟩
   ·exact h2 t' ht
  ·rename_i v he
   obtain⟨h1,h2⟩:=Zf6 x
   refine⟨h1,fun t' ht=>?_⟩
   rcases List.mem_cons.1 ht with rfl|ht
   ·exact .inr ⟨v,he⟩
   ·exact h2 t' ht
  ·exact x.elim
theorem ZqA{S S':St}{ts ds:List Nat}(h:SameOut ds (ptrS S ts) S'):SameOut ds S (Zt2 S S' ts):=by
 intro t ht
 show(bif mem ts t then S.env t else S'.env t)=_
 cases hm:mem ts t with
 | true=>rfl
 | false=>
  rw[cond_false,h t ht]
  show(bif mem ts t then _ else S.env t)=_
  rw[hm];rfl
theorem Zpe{E:Env}{id:Nat}{ops:Array Oper}{ts:List Nat}{K K':St→Mem→Prop}{S:St}{m:Mem}(h:∀S' m',SameOut (Zao ops.toList) S S'→leD E id m m'→K S' m'→K' S' m')
  (y:ZvY ts (Zao ops.toList) (ZjD E id ops) K S m):ZvY ts (Zao ops.toList) (ZjD E id ops) K' S m:=by
 unfold ZvY at *
 split at y
 ·exact ZjE E id ops K K' S m h y
 ·exact Zag (fun y=>ZjE E id ops _ _ _ m (fun S' m' hs hl y=>Zf5 (fun y=>h _ m' (ZqA hs) hl y) y) y) y
theorem ZjF(E:Env):ZdY E (ZaV E):=by
 intro id ops K K' S m h hx
 refine Zjq (fun S1 m1 he hm y=>?_) hx
 have up:∀{m'},leD E id m1 m'→leD E id m m':=fun hl=>by
  unfold leD at hl ⊢
  cases hl':E.last id with
  | true=>rw[hl']at hl;exact leT.trans (.of hm) hl
  | false=>rw[hl']at hl;exact Mem.le_trans hm hl
 cases hl:E.last id with
 | false=>
  simp only[hl,cond_false,ZtO]at y ⊢
  exact Zpe (fun S' m' hs hl y=>h S' m' ((ZcX he).trans hs) (up hl) y) y
 | true=>
  simp only[hl,cond_true]at y ⊢
  unfold ZtO at *
  split at y
  ·exact Zpe (fun S' m' hs hl y=>h S' m' ((ZcX he).trans hs) (up hl) y) y
  ·obtain⟨y1,y2⟩:=Zae y
   refine Zaa y1 ?_
   simp only[Bool.and_eq_true]at y1
   split at y2
   ·exact y2
   ·obtain⟨a,n,c,z1,z2,z3⟩:=y2
    refine⟨a,n,c,z1,z2,Zpe (fun S' m' hs _ z=>?_) z3⟩
    split at z
    ·exact z
    ·exact Zag (fun z zs hz=>h _ _ ((ZcX he).trans (fun t ht=>hs t ht)) (by unfold leD;rw[hl,y1.1];trivial) (z zs hz)) z
end Go.Eng
namespace Go.Eng
open Go Go.RowKit
theorem St.ext'{a b:St}(h1:a.env=b.env)(h2:a.L=b.L)(h3:a.ids=b.ids)(h4:a.tok=b.tok)(h5:a.tkeys=b.tkeys)(h6:a.gh=b.gh):a=b:=by
 cases a;cases b;simp at *;exact⟨h1,h2,h3,h4,h5,h6⟩
structure Ind (ops:Array Oper)(c d:DOp)(oc od:Oper):Prop where
 hc:ops.toList[c.i]?=some oc
 hd:ops.toList[d.i]?=some od
 cd:∀t,ZfA oc t=true→mem (od.looksAt ops) t=false
 dc:∀t,ZfA od t=true→mem (oc.looksAt ops) t=false
 ne:∀t,ZfA oc t=true→ZfA od t=false
 lcd:∀id,mem c.ws id=true→mem d.rs id=false
 ldc:∀id,mem d.ws id=true→mem c.rs id=false
 tk:∀k,Zqt c.tk k=true→Zqt d.tk k=false
 vcd:c.i ∉ d.vw
 vdc:d.i ∉ c.vw
 i:c.i≠d.i
theorem ZmX{a b:List Nat}(h:Zwq a b=true):∀i,mem a i=true→mem b i=false:=fun i hi=>by
 have:=List.all_eq_true.1 h i (ZaS.1 hi)
 simpa using this
theorem ZgY{a b:List Nat}(h:Zwh a b=true):∀i,i∈a→i∈b:=fun i hi=>ZaS.1 (List.all_eq_true.1 h i hi)
theorem Zi0{o:Oper}{l:List Nat}(h:ZmT o l=true):∀t,ZfA o t=true→mem l t=false:=fun t ht=>by
 have:=Zbp.1 ht
 simpa[ZmT,this]using h
theorem Zom{a b:Oper}(h:Zu9 a b=true):∀t,ZfA a t=true→ZfA b t=false:=fun t ht=>by
 have:=Zbp.1 ht
 simpa[Zu9,this]using h
theorem ZqB{a b:Option Nat}(h:ZwR a b=true):∀t,Zqt a t=true→Zqt b t=false:=fun t ht=>by
 have:=Zbp.1 ht
 simpa[ZwR,this]using h
theorem ZkQ{ops:Array Oper}{c d:DOp}(h:Zpc ops c d=true):∃oc od,Ind ops c d oc od:=by
 unfold Zpc at h
 split at h
 ·rename_i oc od hc hd
  simp only[Bool.and_eq_true,Bool.not_eq_true']at h
  obtain⟨⟨⟨⟨h1,h2⟩,h3⟩,⟨h4,h5⟩,h6⟩,⟨h7,h8⟩,h9⟩:=h
  refine⟨oc,od,hc,hd,Zi0 h1,Zi0 h2,Zom h3,ZmX h4,ZmX h5,ZqB h6,?_,?_,?_⟩
  ·intro hm;rw[ZaS.2 hm]at h7;cases h7
  ·intro hm;rw[ZaS.2 hm]at h8;cases h8
  ·intro e;rw[e,ZbW]at h9;cases h9
 ·cases h
theorem Ind.symm'{ops:Array Oper}{c d:DOp}{oc od:Oper}(h:Ind ops c d oc od):Ind ops d c od oc:=by
 refine⟨h.hd,h.hc,h.dc,h.cd,?_,h.ldc,h.lcd,?_,h.vdc,h.vcd,h.i.symm⟩
 ·intro t ht
  cases hh:ZfA oc t with
  | false=>rfl
  | true=>rw[h.ne t hh]at ht;cases ht
 ·intro k hk
  cases hh:Zqt c.tk k with
  | false=>rfl
  | true=>rw[h.tk k hh]at hk;cases hk
section
variable {E:Env} {ops:Array Oper} {m0:Mem} {f:Fx} {c d:DOp} {oc od:Oper}
theorem Zst(h:Ind ops c d oc od)(S S':St):Zoh ops d od (ZmS c oc S S')=Zoh ops d od S:=by
 refine St.ext' (funext fun t=>?_) (funext fun id=>?_) rfl (funext fun k=>?_) rfl rfl
 ·simp only[Zoh,ZmS]
  cases ht:ZfA oc t with
  | true=>simp[h.cd t ht]
  | false=>simp
 ·simp only[Zoh,ZmS]
  cases ht:mem c.ws id with
  | true=>simp[h.lcd id ht]
  | false=>simp
 ·simp only[Zoh,ZmS]
  cases ht:Zqt c.tk k with
  | true=>simp[h.tk k ht]
  | false=>simp
theorem Zsu(h:Ind ops c d oc od)(hw:∀id,id∈d.ws→id∈d.rs)(S Sc Sd:St):ZmS c oc (ZmS d od S Sd) Sc=ZmS d od (ZmS c oc S Sc) Sd:=by
 refine St.ext' (funext fun t=>?_) (funext fun id=>?_) rfl (funext fun k=>?_) rfl rfl
 ·simp only[ZmS]
  cases ht:ZfA oc t with
  | true=>simp[h.ne t ht]
  | false=>simp
 ·simp only[ZmS]
  cases ht:mem c.ws id with
  | true=>
   have:mem d.ws id=false:=by
    cases hh:mem d.ws id with
    | false=>rfl
    | true=>
     have h1:=h.lcd id ht
     rw[ZaS.2 (hw id (ZaS.1 hh))]at h1;cases h1
   simp[this]
  | false=>simp
 ·simp only[ZmS]
  cases ht:Zqt c.tk k with
  | true=>simp[h.tk k ht]
  | false=>simp
theorem Zsv{μ:Nat→Mem}{i j:Nat}(h:i≠j)(a b:Mem):upd (upd μ i a) j b=upd (upd μ j b) i a:=by
 funext k
 simp only[upd]
 by_cases hk:k=j
 ·subst hk;simp[Zam (Ne.symm h)]
 ·simp[Zam hk]
theorem ZhT(h:Ind ops c d oc od)(S S':St)(μ:Nat→Mem)(m':Mem)(K:St→Mem→Prop):Zrw E ops m0 f d (Zoi ops c S S') (upd μ c.i m') K=Zrw E ops m0 f d S μ K:=by
 unfold Zrw Zoi
 simp only[h.hd,h.hc,Zst h,Zqw h.vcd]
theorem ZmY(S:St)(μ:Nat→Mem)(K:St→(Nat→Mem)→Prop):ZjB E ops m0 f d S μ K=Zrw E ops m0 f d S μ fun S' m'=>K (Zoi ops d S S') (upd μ d.i m'):=rfl
def ZwY(E:Env)(ops:Array Oper)(m0:Mem)(f:Fx)(d:DOp)(S:St)(μ:Nat→Mem)(S':St)(m':Mem):Prop:=∀K:St→Mem→Prop,Zrw E ops m0 f d S μ K→K S' m'
theorem Zpf{K:St→(Nat→Mem)→Prop}{S':St}{m':Mem}(hw:∀id,id∈d.ws→id∈d.rs):∀{r1 r2:List DOp} {S:St} {μ:Nat→Mem},(∀c∈r1,Zpc ops c d=true)→Zh4 E ops m0 f (r1++d::r2) K S μ→ZwY E ops m0 f d S μ S' m'→
  Zh4 E ops m0 f (r1++r2) K (Zoi ops d S S') (upd μ d.i m')
 | [],r2,S,μ,_,h,ho=>ho _ h
 | c::r1,r2,S,μ,hi,h,ho=>by
  obtain⟨oc,od,fD⟩:=ZkQ (hi c (by simp))
  simp only[List.cons_append,Zh4,ZmY]at h ⊢
  rw[ZhT fD.symm']
  refine Zei (fun Sc mc y=>?_) h
  have ih:=Zpf (S':=S') (m':=m') hw (r1:=r1) (r2:=r2) (fun c hc=>hi c (by simp[hc])) y (fun K hK=>by rw[ZhT fD]at hK;exact ho K hK)
  rw[Zsv fD.i]at ih
  have e:Zoi ops c (Zoi ops d S S') Sc=Zoi ops d (Zoi ops c S Sc) S':=by
   simp only[Zoi,fD.hc,fD.hd]
   exact Zsu fD hw S Sc S'
  rw[e];exact ih
end
theorem Zon{F:Fence}(hF:FOk F){n:Nat}{P:Program}{o:Oper}{a:Act}{w:World}{p:Prop}(h:o.wpIn F n P a w (fun _ _=>p) (fun _ _ _=>p)):p:=by
 have cL:∀k,F.room k:=fun k d hd=>by rw[hF.depth]at hd;cases hd
 have h:=h.2
 generalize (o.semAt F.round a.eval).run P w=r at h
 cases r with
 | ok x w'=>
  cases x <;> simp only[Oper.uponIn]at h
  all_goals first
   | exact h
   | exact h.elim
   | (obtain⟨e,w'',fr,h,_⟩:=h.2.2 [] (cL _)
      cases e <;> first
       | exact h
       | (obtain⟨_,_,h⟩:=h;exact h))
   | (obtain⟨v,w'',h,_⟩:=h.2 default [] (cL _)
      exact h)
   | (obtain⟨e,w'',h,_⟩:=h.2.2 default [] (cL _)
      cases e <;> first
       | exact h
       | (obtain⟨_,_,h⟩:=h;exact h))
 | halt x w'=>
  cases x <;> simp only[Oper.uponIn]at h
  all_goals first
   | exact h
   | exact h.elim
end Go.Eng
namespace Go.Eng
open Go Go.RowKit
theorem ZqC{a b:St}(h:∀id,a.L id=b.L id)(sv:SV):a.den sv=b.den sv:=by
 cases sv <;> simp only[St.den,h]
section
variable {C:Ctx} {E:Env} {ops:Array Oper} {m0:Mem} {f:Fx} {d:DOp} {o:Oper} {S:St} {μ:Nat→Mem} {A:Mem} {a:Act} {w:World}
theorem Zt4(oK:∀i,i∈ZmR d.rs o→i∈d.ws)(lE:∀i,i∈d.ws→i∈d.rs)(dL:∀i,i∈d.ws→i∈S.ids)(fQ:∀k,d.tk=some k→k∈S.tkeys)(hr:Rel C S A a w)
  {S2:St} {A2:Mem} {a':Act} {w':World} {y:St×Mem} {g:Bool} {m M:Mem} (h:Rel C S2 A2 a' w') (ho:Out (ZmR d.rs o) d.tk g m M o.dst (Zoh ops d o S) S y (S2,A2)):Rel C (ZmS d o S y.1) A2 a' w':=by
 have hL:∀id,(ZmS d o S y.1).L id=S2.L id:=by
  intro id
  simp only[ZmS]
  cases hm:mem d.ws id with
  | true=>
   simp only[cond_true]
   rcases ho.L id with⟨_,e⟩|⟨e1,e2⟩
   ·exact e
   ·rw[e1,e2]
    simp[Zoh,ZaS.2 (lE id (ZaS.1 hm))]
  | false=>
   simp only[cond_false]
   rcases ho.L id with⟨hc,_⟩|⟨e1,e2⟩
   ·rw[ZaS.2 (oK id hc)]at hm;cases hm
   ·exact e2.symm
 have hT:∀k,(ZmS d o S y.1).tok k=S2.tok k:=by
  intro k
  simp only[ZmS]
  cases hm:Zqt d.tk k with
  | true=>
   simp only[cond_true]
   rcases ho.tok k with⟨_,e⟩|⟨e1,e2⟩
   ·exact e
   ·rw[e1,e2]
    simp[Zoh,hm]
  | false=>
   simp only[cond_false]
   rcases ho.tok k with⟨hc,_⟩|⟨e1,e2⟩
   ·rw[Zbp.2 hc]at hm;cases hm
   ·exact e2.symm
 refine h.restrict ho.gh2.symm (fun id x hx=>by rw[←hL];exact hx) (fun k t ht=>.inl (by rw[←hT];exact ht)) ?_ ?_ ?_
 ·intro i sv he
  have he':S2.env i=some sv:=by
   simp only[ZmS]at he
   cases hd:ZfA o i with
   | true=>
    simp only[hd,cond_true]at he
    exact ho.env1 i sv (Zbp.1 hd) he
   | false=>
    simp only[hd,cond_false]at he
    have:o.dst≠some i:=fun e=>by rw[show ZfA o i=true from Zbp.2 e]at hd;cases hd
    exact(ho.env2 i this).trans he
  obtain⟨v,h1,h2⟩:=h.env i sv he'
  exact⟨v,by rw[ZqC hL];exact h1,h2⟩
 ·intro id x hx
  show id∈S.ids
  cases hm:mem d.ws id with
  | true=>exact dL id (ZaS.1 hm)
  | false=>simp only[ZmS,hm,cond_false]at hx;exact hr.ids id x hx
 ·intro k t ht
  show k∈S.tkeys
  cases hm:Zqt d.tk k with
  | true=>exact fQ k (Zbp.1 hm)
  | false=>simp only[ZmS,hm,cond_false]at ht;exact hr.tkeys k t ht
structure DOk (E:Env)(ops:Array Oper)(d:DOp)(o:Oper):Prop where
 at_:ops.toList[d.i]?=some o
 fp:Zsq E d.rs d.tk o=true
 chg:∀i,i∈ZmR d.rs o→i∈d.ws
 ws:∀i,i∈d.ws→i∈d.rs
theorem Zpg(hE:E.ok){F:Fence}(hF:FOk F)(hY:YOk E C)(bA:ZkB C.n ops.toList=true)(fZ:E.fix=none)(hd:DOk E ops d o)(dL:∀i,i∈d.ws→i∈S.ids)(fQ:∀k,d.tk=some k→k∈S.tkeys)
  (hr:Rel C S A a w) (h0:m0.le A) (hv:∀j,j∈d.vw→(μ j).le A) (h:Zrw E ops m0 f d S μ (fun _ _=>True)) {n:Nat} {Q:Exit→Act→World→Prop} {next:Act→World→Prop}
  (hK:∀S' m' A' a' w',ZwY E ops m0 f d S μ S' m'→Rel C (Zoi ops d S S') A' a' w'→A.le A'→m'.le A'→(ZdE o=false→A'=A)→next a' w'):wpOpIn F n E.P ops Q d.i next a w:=by
 unfold Zrw at h
 simp only[hd.at_]at h
 obtain⟨V,rk,hV⟩:=Zok (l:=d.vw) h0 hv
 have lT:Less (Zoh ops d o S) S:=⟨fun t sv ht=>by
  simp only[Zoh]at ht
  cases hm:mem (o.looksAt ops) t <;> simp[hm]at ht;exact ht,fun id x hx=>by
  simp only[Zoh]at hx
  cases hm:mem d.rs id <;> simp[hm]at hx;exact hx⟩
 have h2:opG E ops o S A (fun S2 A2=>∃y1:St×Mem,(∀K:St×Mem→Prop,opG (E.fixed (f d.i)) ops o (Zoh ops d o S) V (fun S' m'=>K (S',m'))→K y1)∧Out (ZmR d.rs o) d.tk (ZdE o) V A o.dst (Zoh ops d o S) S y1 (S2,A2)):=
  Zvo (rs:=d.rs) (tk:=d.tk) w fZ lT (fun id x hx=>by
   simp only[Zoh]at hx
   cases hm:mem d.rs id with
   | true=>exact ZaS.1 hm
   | false=>simp[hm]at hx) (fun id cK=>by simp[Zoh,ZaS.2 cK]) (fun k hk=>by simp[Zoh,Zbp.2 hk]) rk hd.fp (hV _ h)
 have h3:=Zf2 (th:=false) (.inr (ZkL hd.fp)) (K':=fun S2 A2=>A.le A2∧∃y1:St×Mem,(∀K:St×Mem→Prop,opG (E.fixed (f d.i)) ops o (Zoh ops d o S) V (fun S' m'=>K (S',m'))→K y1)∧Out (ZmR d.rs o) d.tk (ZdE o) V A o.dst (Zoh ops d o S) S y1 (S2,A2)) (fun S' m' _ hm y=>⟨hm,y⟩) h2
 have ho':ops[d.i]?=some o:=by simpa using hd.at_
 have:=Zde hE hF hY (Zcp bA d.i o hd.at_) hr h3 (n:=n) (Q:=Q) (next:=next) (fun S2 A2 a' w' ⟨hA,y1,g1,g2⟩ bB=>by
  refine hK y1.1 y1.2 A2 a' w' ?_ ?_ hA g2.le (fun hg=>(g2.same hg).2)
  ·intro K oL
   unfold Zrw at oL
   simp only[hd.at_]at oL
   exact g1 (fun y=>K y.1 y.2) (hV _ oL)
  ·simp only[Zoi,hd.at_]
   exact Zt4 hd.chg hd.ws dL fQ hr bB g2)
 unfold wpOpIn
 simp only[ho']
 exact this
end
theorem ZjG(ops:Array Oper)(d:DOp)(S S':St):(Zoi ops d S S').ids=S.ids∧(Zoi ops d S S').tkeys=S.tkeys:=by
 unfold Zoi
 cases ops.toList[d.i]? <;> exact⟨rfl,rfl⟩
theorem Zph(μ:Nat→Mem)(i:Nat)(m:Mem):upd μ i m i=m:=by simp[upd]
theorem Zt5{μ:Nat→Mem}{i j:Nat}(h:j≠i)(m:Mem):upd μ i m j=μ j:=by simp[upd,Zam h]
def Zvc:(Nat→Prop)→List DOp→Prop
 | _,[]=>True
 | D,c::r=>(∀j,j∈c.vw→D j)∧Zvc (fun j=>D j∨j=c.i) r
theorem extract{C:Ctx}{E:Env}(hE:E.ok){F:Fence}(hF:FOk F)(hY:YOk E C){ops:Array Oper}(bA:ZkB C.n ops.toList=true)(fZ:E.fix=none){m0:Mem}{f:Fx}{d:DOp}{r2:List DOp}{K:St→(Nat→Mem)→Prop}:
  ∀{r1:List DOp} {D:Nat→Prop} {S:St} {μ:Nat→Mem} {A:Mem} {a:Act} {w:World},Rel C S A a w→m0.le A→(∀j,D j→(μ j).le A)→Zvc D r1→(∀c∈r1,(∃o,DOk E ops c o)∧(∀i,i∈c.ws→i∈S.ids)∧(∀k,c.tk=some k→k∈S.tkeys))→(∀c∈r1,Zpc ops c d=true)→
   Zh4 E ops m0 f (r1++d::r2) K S μ→Zrw E ops m0 f d S μ (fun _ _=>True)
 | [],D,S,μ,A,a,w,hr,h0,hD,ht,hc,hi,h=>Zei (fun _ _ _=>trivial) h
 | c::r1,D,S,μ,A,a,w,hr,h0,hD,ht,hc,hi,h=>by
  obtain⟨oc,od,fD⟩:=ZkQ (hi c (by simp))
  obtain⟨⟨o,cA⟩,dL,fQ⟩:=hc c (by simp)
  simp only[List.cons_append,Zh4,ZmY]at h
  have key:=Zpg (n:=0) (next:=fun _ _=>Zrw E ops m0 f d S μ (fun _ _=>True)) (Q:=fun _ _ _=>Zrw E ops m0 f d S μ (fun _ _=>True)) hE hF hY bA fZ cA dL fQ hr h0 (fun j hj=>hD j (ht.1 j hj)) (Zei (fun _ _ _=>trivial) h) (fun S' m' A' a' w' cV bB hA hm _=>by
   have:=extract hE hF hY bA fZ (r1:=r1) (D:=fun j=>D j∨j=c.i) bB (Mem.le_trans h0 hA) (fun j hj=>by
    by_cases e:j=c.i
    ·subst e;rw[Zph];exact hm
    ·rw[Zt5 e];exact Mem.le_trans (hD j (hj.resolve_right e)) hA) ht.2 (fun c' hc'=>by
     obtain⟨h1,h2,h3⟩:=hc c' (by simp[hc'])
     exact⟨h1,fun i hi=>by rw[(ZjG ops c S S').1];exact h2 i hi,fun k hk=>by rw[(ZjG ops c S S').2];exact h3 k hk⟩) (fun c' hc'=>hi c' (by simp[hc'])) (cV _ h)
   rwa [ZhT fD]at this)
  unfold wpOpIn at key
  have ho':ops[c.i]?=some o:=by simpa using cA.at_
  simp only[ho']at key
  split at key
  ·exact Zon hF key
  ·exact key.2
end Go.Eng
namespace Go.Eng
open Go Go.RowKit
theorem Zci{l:Array Bool}{i:Nat}(h:i < l.size):(l.setIfInBounds i true).getD i false=true:=by simp[Array.getD,h]
theorem Zpi{E:Env}(hE:E.ok){F:Fence}(hF:FOk F){C:Ctx}(hY:YOk E C){ops:Array Oper}(bA:ZkB C.n ops.toList=true){n:Nat}{Q:Exit→Act→World→Prop}{K:St→Mem→Prop}{i0:Nat}
  (over:∀(fuel:Nat)(listed:Array Bool)(S':St)(m':Mem)(a':Act)(w':World),listed.size=ops.size→(∀j,j < ops.size→listed.getD j false=true)→K S' m'→Rel C S' m' a' w'→wpAnyIn F n E.P .any ops Q fuel listed a' w')
  (fV:∀i,i0≤i→i < ops.size→∃o,ops[i]?=some o∧(∀j,i0≤j→j < i→j∈Za6 o)∧(∀j∈Za6 o,j < i)):
  ∀(r:List Oper)(i:Nat),ops.toList.drop i=r→i0≤i→i≤ops.size→∀(fuel:Nat)(listed:Array Bool)(S':St)(m':Mem)(a':Act)(w':World),r.length≤fuel→listed.size=ops.size→(∀j,j < i→listed.getD j false=true)→(∀j,i≤j→listed.getD j false=false)→ZiX E ops K r S' m'→Rel C S' m' a' w'→wpAnyIn F n E.P .any ops Q fuel listed a' w':=by
 intro r
 induction r with
 | nil=>
  intro i hi h1 h2 fuel listed S' m' a' w' _ bW bS _ hk bB
  have:ops.size≤i:=by
   have:=congrArg List.length hi
   simp at this
   omega
  exact over fuel listed S' m' a' w' bW (fun j hj=>bS j (by omega)) hk bB
 | cons o r ih=>
  intro i hi h1 h2 fuel listed S' m' a' w' iz bW bS dD hk bB
  have eM:i < ops.size:=by
   have:=congrArg List.length hi
   simp at this
   omega
  obtain⟨o',ho',rl,fR⟩:=fV i h1 eM
  have jS:ops.toList[i]?=some o:=by
   have:=congrArg (fun l=>l[0]?) hi
   simpa using this
  have oM:o'=o:=by
   have:ops.toList[i]?=some o':=by simpa using ho'
   rw[jS]at this;cases this;rfl
  subst oM
  have oN:ops.toList.drop (i+1)=r:=by
   have:=congrArg (List.drop 1) hi
   simpa[List.drop_drop,Nat.add_comm]using this
  obtain⟨fuel,rfl⟩:∃k,fuel=k+1:=⟨fuel - 1,by simp at iz;omega⟩
  have gV:listed.getD i false=false:=dD i (Nat.le_refl _)
  have fP:i < listed.size:=by omega
  refine⟨fun cN=>?_,fun q hq=>?_⟩
  ·exfalso
   have:i∈Region.ready .any ops listed:=mem_ready.2 ⟨by simpa[Array.getD,fP]using gV,o',ho',fun e he hb=>?_⟩
   ·rw[cN]at this;simp at this
   ·have hm:e.on∈Za6 o':=by
     simp only[Za6,List.mem_map,List.mem_filter]
     exact⟨e,⟨by simpa using he,hb⟩,rfl⟩
    exact bS _ (fR _ hm)
  ·obtain⟨lU,o2,eR,fE⟩:=mem_ready.1 hq
   have hq':q < ops.size:=(Array.getElem?_eq_some_iff.1 eR).1
   have:q=i:=by
    by_cases h3:q < i
    ·have h4:=bS q h3
     have hl:q < listed.size:=by omega
     simp[Array.getD,hl]at lU h4
     rw[lU]at h4;cases h4
    ·by_cases h4:q=i
     ·exact h4
     ·exfalso
      obtain⟨o3,kD,js,_⟩:=fV q (by omega) hq'
      rw[kD]at eR;cases eR
      have:=js i h1 (by omega)
      simp only[Za6,List.mem_map,List.mem_filter]at this
      obtain⟨e,⟨he,hb⟩,h5⟩:=this
      have:=fE e (by simpa using he) hb
      rw[h5,gV]at this;cases this
   subst this
   simp only[ZiX]at hk
   have:=ZhO hE hF hY (Zcp bA _ o' jS) bB hk (n:=n) (Q:=Q) (next:=wpAnyIn F n E.P .any ops Q fuel (listed.setIfInBounds q true)) (fun S2 m2 a2 w2 eG fF=>ih (q+1) oN (by omega) (by omega) fuel _ S2 m2 a2 w2 (by simp at iz;omega) (by simpa using bW) (fun j hj=>by
    by_cases e:j=q
    ·subst e;simp[Array.getD,fP]
    ·rw[getD_set_ne false (Ne.symm e)]
     exact bS j (by omega)) (fun j hj=>by
    rw[getD_set_ne false (by omega)]
    exact dD j (by omega)) eG fF)
   unfold wpOpIn
   simp only[ho']
   exact this
def St.wenv(S:St)(e:Nat→Option SV):St:={ S with env:=e }
theorem ZgZ(S:St)(e:Nat→Option SV):∀ids,Za5 (S.wenv e) ids=Za5 S ids
 | []=>rfl
 | id::l=>by simp only[Za5,ZgZ S e l];rfl
theorem Zi1(S:St)(e:Nat→Option SV):∀ks,ZdI (S.wenv e) ks=ZdI S ks
 | []=>rfl
 | q::l=>by simp only[ZdI,Zi1 S e l];rfl
theorem Zpj(S:St)(e:Nat→Option SV)(b:Nat)(k:Prop):∀l,nfz (S.wenv e) b l k=nfz S b l k
 | []=>rfl
 | id::l=>by simp only[nfz,Zpj S e b k l];rfl
theorem Zpk(S:St)(e:Nat→Option SV)(b:Nat)(ks:List Nat):∀l,ntk (S.wenv e) b ks l=ntk S b ks l
 | []=>rfl
 | k::l=>by simp only[ntk,Zpk S e b ks l];rfl
theorem ZkR(S:St)(e:Nat→Option SV):∀(ids:List Nat)(bxs:List Box) (css:List (List Value)),Zct (S.wenv e) ids bxs css=(Zct S ids bxs css).wenv e
 | [],_,_=>by simp[Zct]
 | id::ids,[],_=>by simp[Zct]
 | id::ids,x::xs,[]=>by simp[Zct]
 | id::ids,x::xs,cs::css=>by simp only[Zct,ZkR S e ids xs css];rfl
theorem Zsw{S:St}{e:Nat→Option SV}{x:Operand}(h:∀t,x=.tmp t→e t=S.env t):(S.wenv e).val x=S.val x:=by
 unfold St.val
 have:(S.wenv e).ev x=S.ev x:=by
  cases x with
  | tmp t=>exact h t rfl
  | _=>rfl
 rw[this]
 cases S.ev x with
 | none=>rfl
 | some sv=>cases sv <;> rfl
theorem Zt6{S:St}{e:Nat→Option SV}{x:Operand}(h:∀t,x=.tmp t→e t=S.env t):(S.wenv e).ev x=S.ev x:=by
 cases x with
 | tmp t=>exact h t rfl
 | _=>rfl
theorem Zpl{S:St}{e:Nat→Option SV}{k:List Value→Prop}:∀{l:List Operand},(∀x∈l,∀t,x=.tmp t→e t=S.env t)→wvs (S.wenv e) l k=wvs S l k
 | [],_=>rfl
 | x::l,h=>by
  simp only[wvs,wv]
  rw[Zsw (h x (by simp))]
  cases S.val x with
  | none=>rfl
  | some v=>exact Zpl fun y hy=>h y (by simp[hy])
theorem Zi2{S:St}{e:Nat→Option SV}:∀{l:List Operand},(∀x∈l,∀t,x=.tmp t→e t=S.env t)→Zcz (S.wenv e) l=Zcz S l
 | [],_=>rfl
 | x::l,h=>by
  simp only[Zcz]
  rw[Zt6 (h x (by simp)),Zi2 fun y hy=>h y (by simp[hy])]
  rfl
theorem ZkS:∀{n:Nat} {k k':List (List Value)→Prop},(∀v,v.length=n→k v→k' v)→allL n k→allL n k'
 | 0,k,k',h,hx=>h _ rfl hx
 | n+1,k,k',h,hx=>fun cs=>ZkS (fun l hl hx=>h _ (by simp[hl]) hx) (hx cs)
theorem ZmZ{E:Env}{S:St}{e:Nat→Option SV}{m:Mem}{rt:TypeId}{g:FuncId}{args:List Value}{ids:List Nat}{ks:List (Nat×Nat)}{K:Value→St→Mem→Prop}
  (h:Zh9 E (S.wenv e) m rt g args ids ks K):Zh9 E S m rt g args ids ks fun v S' m'=>K v (S'.wenv e) m'∧S'.env=S.env∧∀id,id ∉ ids→S'.L id=S.L id:=by
 unfold Zh9 at *
 rw[ZgZ]at h
 cases hb:Za5 S ids with
 | none=>simp[hb]at h
 | some bxs=>
  simp only[hb]at h ⊢
  cases hm:E.m0 with
  | none=>simp[hm]at h
  | some m0=>
   simp only[hm]at h ⊢
   obtain⟨h1,Y,R,h2,h3,h4,h5,h6⟩:=Zae h
   rw[Zi1]at h2 h3 h4 h6
   refine Zaa h1 ⟨Y,R,h2,h3,fun b hb=>?_,h5,?_⟩
   ·rcases h4 b hb with q|⟨q1,q2,q3⟩
    ·exact .inl q
    ·have e1:∀k,nfz (S.wenv e) b S.ids k=nfz S b S.ids k:=fun k=>Zpj S e b k S.ids
     have e2:ntk (S.wenv e) b (ks.map (·.1)) S.tkeys=ntk S b (ks.map (·.1)) S.tkeys:=Zpk S e b _ S.tkeys
     refine .inr ⟨q1,q2,?_⟩
     have q3:nfz (S.wenv e) b S.ids (ntk (S.wenv e) b (ks.map (·.1)) S.tkeys):=q3
     rw[e1,e2]at q3;exact q3
   ·simp only[Bool.and_eq_true]at h1
    have dQ:=ZaC h1.2.1
    have bP:=(ZbR hb).1
    refine Shape.all_mono _ (fun v z m' hm' hn=>?_) h6
    refine ZkS (fun css hc z=>ZhN (fun tvs z hR=>⟨?_,?_,fun id cK=>?_⟩) z) (z m' hm' hn)
    ·have:=z hR
     rw[ZkR]at this;exact this
    ·rw[Zcy]
    ·rcases Zed (S:=S) dQ bP hc id with⟨_,q⟩|⟨i,x,cs,q,_⟩
     ·exact q
     ·exact absurd (List.mem_of_getElem? q) cK
theorem Zsx{l:List Value}{n:Nat}{k:Value→Prop}(h:Zrt l n k):∃v,k v∧Zrt l n (·=v):=by
 obtain⟨v,h1,h2⟩:=ZgD h
 exact⟨v,h2,Zal h1 rfl⟩
theorem Zm0{i:TI}{x:Box}{off:Nat}{k:Value→Prop}(h:Zce i x off k):∃v,k v∧Zce i x off (·=v):=by
 unfold Zce at *
 cases ha:i.agg with
 | true=>
  simp only[ha,cond_true]at *
  cases hf:(x.full&&(Nat.beq x.cap i.size&&Nat.beq off 0))with
  | true=>
   simp only[hf,cond_true]at *
   exact⟨_,h,rfl⟩
  | false=>
   simp only[hf,cond_false]at *
   obtain⟨h1,h2⟩:=Zae h
   exact⟨_,h2,Zaa h1 rfl⟩
 | false=>
  simp only[ha,cond_false]at *
  exact Zsx h
theorem Zm1{i:TI}{m:Mem}{b o:Nat}{k:Value→Prop}(h:Zcx i m b o k):∃v,k v∧∀m':Mem,m.le m'→Zcx i m' b o (·=v):=by
 unfold Zcx at *
 cases ha:i.agg with
 | false=>
  simp only[ha,cond_false]at *
  obtain⟨v,h1,h2⟩:=h
  exact⟨v,h2,fun m' hm=>⟨v,hm _ _ _ h1,rfl⟩⟩
 | true=>
  simp only[ha,cond_true]at *
  cases hb:Nat.ble i.size 16 with
  | true=>
   simp only[hb,cond_true]at *
   obtain⟨vs,h1,h2,h3⟩:=ZhK h
   exact⟨_,h3,fun m' hm=>Zjn vs h1 ⟨fun j v hv=>hm _ _ _ (h2 j v hv),rfl⟩⟩
  | false=>
   simp only[hb,cond_false]at *
   obtain⟨vs,h1,h2,h3⟩:=h
   exact⟨_,h3,fun m' hm=>⟨vs,h1,fun j v hv=>hm _ _ _ (h2 j v hv),rfl⟩⟩
def ZwZ(E:Env)(S:St)(ids:List Nat)(o:Oper)(X:St):Prop:=
 ∃T x d v,o.op=.load T x∧o.dst=some d∧X.env d=some (.v v)∧∀(S':St)(m':Mem),(∀t,x=.tmp t→S'.env t=S.env t)→(∀id,id ∉ ids→S'.L id=S.L id)→(∀mm:Mem,E.m0=some mm→mm.le m')→Zfs E S' m' T x (·=v)
theorem ZqD{E:Env}{S:St}{ids:List Nat}{T:TypeId}{x:Operand}{k:Value→Prop}(h:ZrH E S ids T x k):
  ∃v,k v∧∀(S':St)(m':Mem),(∀t,x=.tmp t→S'.env t=S.env t)→(∀id,id ∉ ids→S'.L id=S.L id)→(∀mm:Mem,E.m0=some mm→mm.le m')→Zfs E S' m' T x (·=v):=by
 have iD:∀S':St,(∀t,x=.tmp t→S'.env t=S.env t)→S'.ev x=S.ev x:=fun S' h=>by
  cases x with
  | tmp t=>exact h t rfl
  | _=>rfl
 unfold ZrH at h
 cases ht:E.tt T with
 | none=>simp[ht]at h
 | some i=>
  simp only[ht]at h
  split at h
  ·rename_i id off he
   cases hL:S.L id with
   | none=>simp[hL]at h
   | some bx=>
    simp only[hL]at h
    obtain⟨h1,h2⟩:=Zae h
    obtain⟨v,h3,h4⟩:=Zm0 h2
    refine⟨v,h3,fun S' m' q1 q2 q3=>?_⟩
    have cK:id ∉ ids:=fun hm=>by rw[ZaS.2 hm]at h1;cases h1
    unfold Zfs
    simp only[ht,iD S' q1,he,q2 id cK,hL]
    exact h4
  ·rename_i v0 he
   cases hm:E.m0 with
   | none=>simp[hm]at h
   | some m0=>
    simp only[hm]at h
    obtain⟨h1,h2⟩:=Zae h
    simp only[Bool.and_eq_true,Option.isNone_iff_eq_none]at h1
    obtain⟨v,h3,h4⟩:=Zm1 h2
    refine⟨v,h3,fun S' m' q1 q2 q3=>?_⟩
    unfold Zfs
    simp only[ht,iD S' q1,he,h1.2]
    exact Zaa h1.1 (h4 m' (q3 m0 rfl))
  ·exact h.elim
theorem Zi3{E:Env}{S:St}{ids:List Nat}:∀{r:List Oper} {S1:St} {k:St→Prop},Za0 (Zao r)=true→(∀o∈r,o.dst.isSome=true)→Zlw E S ids r S1 k→
  ∃e:Nat→Option SV,k (S1.wenv e)∧(∀o∈r,ZwZ E S ids o (S1.wenv e))∧∀t,t ∉ Zao r→e t=S1.env t
 | [],S1,k,_,_,h=>⟨S1.env,h,by simp,fun _ _=>rfl⟩
 | o::r,S1,k,hn,hd,h=>by
  have lV:=hd o (by simp)
  obtain⟨d,lW⟩:=Option.isSome_iff_exists.1 lV
  unfold Zlw at h
  split at h
  ·rename_i T x ho
   obtain⟨v,h1,h2⟩:=ZqD h
   have hn':=ZaC hn
   simp only[Zao,lW,List.nodup_cons]at hn'
   have j8:Za0 (Zao r)=true:=by
    simp only[Zao,lW,Za0,Bool.and_eq_true]at hn
    exact hn.2
   obtain⟨e,g1,g2,g3⟩:=Zi3 j8 (fun o ho=>hd o (by simp[ho])) h1
   rw[lW]at g1 g2 g3
   refine⟨e,g1,fun o' ho'=>?_,fun t ht=>?_⟩
   ·rcases List.mem_cons.1 ho' with rfl|ho'
    ·refine⟨T,x,d,v,ho,lW,?_,h2⟩
     show e d=_
     rw[g3 d hn'.1]
     simp[St.put,ZbW]
    ·exact g2 o' ho'
   ·simp only[Zao,lW,List.mem_cons,not_or]at ht
    rw[g3 t ht.2]
    simp[St.put,Zam ht.1]
  ·exact h.elim
theorem ZhU{α:Type}{l:List α}(h:Zqv l=true):l=[]:=by
 cases l with
 | nil=>rfl
 | cons=>cases h
theorem Zm2{E:Env}{ops:Array Oper}{o:Oper}{q:Go.Call}{f:Operand}{S:St}{e:Nat→Option SV}{m:Mem}{K:St→Mem→Prop}(hg:o.guard=none)(hq:o.op=.call q)(hf:q.callee=.value f)(gU:(Zee E o.dst).isSome=true)(iC:ZdC E o.dst=[])
  (lV:o.dst.isSome=true) {g0:FuncId} (rm:f=.func g0) (ha:∀x∈q.args.toList,∀t,x=.tmp t→e t=S.env t) (hl:Zcz (S.wenv e) q.args.toList=[]) (h:opG E ops o (S.wenv e) m K):
  opG E ops o S m fun S' m'=>∃S2,K S2 m'∧S'.wenv S2.env=S2∧(∀t,o.dst≠some t→S2.env t=e t∧S'.env t=S.env t)∧(∀t,o.dst=some t→S'.env t=S2.env t)∧∀id,id ∉ Zc4 E o.dst→S2.L id=S.L id:=by
 unfold opG at *
 simp only[hg]at h ⊢
 unfold opW at *
 simp only[hq,hf]at h ⊢
 unfold ZtG at *
 simp only[iC]at h ⊢
 obtain⟨ks,jn⟩:=Option.isSome_iff_exists.1 gU
 obtain⟨d,hd⟩:=Option.isSome_iff_exists.1 lV
 unfold Ztu at *
 subst rm
 simp only[St.ev]at h ⊢
 have hl':Zcz S q.args.toList=[]:=by rw[←Zi2 (e:=e) ha];exact hl
 simp only[jn]at h ⊢
 cases cF:E.fix with
 | some f=>simp[cF]at h
 | none=>
  simp only[cF,Option.isSome_none,cond_false]at h ⊢
  rw[Zpl ha]at h
  refine Zcc (fun vs y=>?_) h
  rw[hl]at y
  rw[hl']
  refine ZiQ (fun v S' m' _ z=>?_) (ZmZ y)
  obtain⟨z1,z2,z3⟩:=z
  rw[hd]at z1 ⊢
  refine⟨_,z1,rfl,fun t ht=>?_,fun t ht=>?_,fun id cK=>?_⟩
  ·have:t≠d:=fun e=>ht (by rw[e])
   simp[St.put,Zam this,St.wenv,z2]
  ·cases ht
   simp[St.put,ZbW,St.wenv]
  ·exact z3 id (by simpa[hd]using cK)
theorem Zi4{p q:Nat→Bool}{i:Nat}(hp:p i=true)(hq:∀j,q j=(p j&&!Nat.beq j i)):∀{l:List Nat},l.Nodup→i∈l→l.countP q+1=l.countP p
 | [],_,h=>by cases h
 | x::l,hn,hi=>by
  rw[List.nodup_cons]at hn
  rw[List.countP_cons,List.countP_cons]
  by_cases e:x=i
  ·subst e
   have:l.countP q=l.countP p:=List.countP_congr fun j hj=>by
    have:j≠x:=fun e=>hn.1 (e ▸ hj)
    rw[hq,Zam this];simp
   rw[this,hq,ZbW,hp];simp
  ·have ih:=Zi4 hp hq hn.2 ((List.mem_cons.1 hi).resolve_left fun h=>e h.symm)
   rw[hq x,Zam e]
   simp only[Bool.not_false,Bool.and_true]
   omega
def unl(ops:Array Oper)(c:Nat)(listed:Array Bool)(t:Nat):Bool:=(List.range c).any fun j=>!listed.getD j false&&match ops.toList[j]? with
 | none=>false
 | some o=>ZfA o t
def Zp4(ops:Array Oper)(c:Nat)(listed:Array Bool)(S X:St):St:=X.wenv fun t=>bif unl ops c listed t then S.env t else X.env t
theorem ZkT:∀{l:List Oper},(Zao l).Nodup→∀{i j:Nat} {o o':Oper} {t:Nat},l[i]?=some o→l[j]?=some o'→o.dst=some t→o'.dst=some t→i=j
 | [],_,i,j,o,o',t,h,_,_,_=>by simp at h
 | x::l,hn,0,0,_,_,_,_,_,_,_=>rfl
 | x::l,hn,0,j+1,o,o',t,h1,h2,h3,h4=>by
  simp at h1 h2;subst h1
  simp only[Zao,h3,List.nodup_cons]at hn
  exact absurd (ZaU h2 h4) hn.1
 | x::l,hn,i+1,0,o,o',t,h1,h2,h3,h4=>by
  simp at h1 h2;subst h2
  simp only[Zao,h4,List.nodup_cons]at hn
  exact absurd (ZaU h1 h3) hn.1
 | x::l,hn,i+1,j+1,o,o',t,h1,h2,h3,h4=>by
  simp at h1 h2
  have:(Zao l).Nodup:=by
   unfold Zao at hn
   split at hn
   ·exact hn
   ·exact(List.nodup_cons.1 hn).2
  rw[ZkT this h1 h2 h3 h4]
theorem Zt7{E:Env}(hE:E.ok){F:Fence}(hF:FOk F){C:Ctx}(hY:YOk E C){ops:Array Oper}(bA:ZkB C.n ops.toList=true){id n:Nat}{Q:Exit→Act→World→Prop}{K:St→Mem→Prop}
  (over:∀(fuel:Nat)(listed:Array Bool)(S':St)(m':Mem)(a':Act)(w':World),listed.size=ops.size→(∀j,j < ops.size→listed.getD j false=true)→K S' m'→Rel C S' m' a' w'→wpAnyIn F n E.P .any ops Q fuel listed a' w')
  {S:St} {m:Mem} {a:Act} {w:World} (hr:Rel C S m a w) (h:ZvX E id ops K S m):wpAnyIn F n E.P .any ops Q ops.size (Array.replicate ops.size false) a w:=by
 unfold ZvX at h
 obtain⟨h1,h2⟩:=Zae h
 generalize E.lastK id=k at *
 simp only[Bool.and_eq_true]at h1
 have cA:=h1.2
 unfold Zvb at cA
 simp only[Bool.and_eq_true,List.all_eq_true]at cA
 obtain⟨⟨hZ,eG,gY⟩,oO,dQ,bX,lX⟩:=cA
 have hZ:=Nat.le_of_ble_eq_true hZ
 have eG:=Nat.le_of_ble_eq_true eG
 have oP:=ZaC dQ
 generalize hc:ops.size - k=c at *
 have pV:c < ops.size:=by omega
 split at h2
 ·exact h2.elim
 rename_i oc r lg
 have kt:ops.toList[c]?=some oc:=by
  have:=congrArg (fun l=>l[0]?) lg
  simpa using this
 have lY:ops[c]?=some oc:=by simpa using kt
 rw[kt]at bX
 simp only at bX
 split at h2
 rotate_left
 ·exact h2.elim
 rename_i q hq
 unfold ZmV at bX
 simp only[hq,Bool.and_eq_true]at bX
 obtain⟨oQ,bX⟩:=bX
 cases jt:q.callee with
 | builtin b=>simp[jt]at bX
 | invoke _ _=>simp[jt]at bX
 | value f=>
 simp only[jt,Bool.and_eq_true,List.all_eq_true]at bX
 obtain⟨⟨gU,oR,lZ,kE,rn,ro⟩,l4⟩:=bX
 have oQ:=Option.isNone_iff_eq_none.1 oQ
 obtain⟨g0,rp⟩:∃g0,f=.func g0:=by
  cases f <;> simp[ZvW]at rn
  exact⟨_,rfl⟩
 obtain⟨dc,l5⟩:=Option.isSome_iff_exists.1 lZ
 have ldAt:∀j,j < c→∃o,ops[j]?=some o∧(ops.toList.take c)[j]?=some o:=fun j hj=>by
  have:j < ops.toList.length:=by simp;omega
  refine⟨ops[j]'(by omega),by simp[show j < ops.size by omega],?_⟩
  rw[List.getElem?_take_of_lt hj];simp[show j < ops.size by omega]
 have ldOk:∀o∈ops.toList.take c,o.guard=none∧Za6 o=[]∧∃T x d,o.op=.load T x∧o.dst=some d∧Zo2 E o.dst=none∧∀t,x=.tmp t→t ∉ Zao ops.toList:=fun o ho=>by
  have:=oO o ho
  unfold ZrI at this
  simp only[Bool.and_eq_true]at this
  obtain⟨q1,q2,q3⟩:=this
  split at q3
  ·rename_i T x j3
   simp only[Bool.and_eq_true]at q3
   obtain⟨q4,q5,q6⟩:=q3
   obtain⟨d,hd⟩:=Option.isSome_iff_exists.1 q5
   refine⟨Option.isNone_iff_eq_none.1 q1,ZhU q2,T,x,d,j3,hd,Option.isNone_iff_eq_none.1 q4,fun t e hm=>?_⟩
   subst e
   simp only[ZmU,Bool.not_eq_true']at q6
   rw[ZaS.2 hm]at q6;cases q6
  ·cases q3
 have l6:dc ∉ Zao (ops.toList.take c):=fun hm=>by
  simp only[ZmT,l5,Bool.not_eq_true']at kE
  rw[ZaS.2 hm]at kE;cases kE
 obtain⟨e,h3,hV,he⟩:=Zi3 dQ (fun o ho=>by
  obtain⟨_,_,_,_,d,_,hd,_⟩:=ldOk o ho
  simp[hd]) h2
 obtain⟨h4,h5⟩:=Zae h3
 have h4:=ZhU h4
 have unl_mem:∀{listed:Array Bool} {t:Nat},unl ops c listed t=true→t∈Zao (ops.toList.take c):=fun {listed t} hu=>by
  unfold unl at hu
  simp only[List.any_eq_true,Bool.and_eq_true,List.mem_range]at hu
  obtain⟨j,hj,_,hu⟩:=hu
  obtain⟨o,ho,ho'⟩:=ldAt j hj
  have:ops.toList[j]?=some o:=by simpa using ho
  rw[this]at hu
  exact ZaU ho' (Zbp.1 hu)
 have takeSub:∀t,t∈Zao (ops.toList.take c)→t∈Zao ops.toList:=by
  have:∀(l:List Oper)(k t:Nat),t∈Zao (l.take k)→t∈Zao l:=by
   intro l
   induction l with
   | nil=>intro k t h;simp[Zao]at h
   | cons x l ih=>
    intro k t h
    cases k with
    | zero=>simp[Zao]at h
    | succ k=>
     simp only[List.take_succ_cons,Zao]at h ⊢
     cases hx:x.dst with
     | none=>simp only[hx]at h ⊢;exact ih k t h
     | some d=>
      simp only[hx,List.mem_cons]at h ⊢
      exact h.imp (fun h=>h) (ih k t)
  exact this _ c
 have fV:∀i,c+1≤i→i < ops.size→∃o,ops[i]?=some o∧(∀j,c≤j→j < i→j∈Za6 o)∧(∀j∈Za6 o,j < i)∧(i=c+1→∀j,j < c→j∈Za6 o∨j∈Za6 oc):=by
  intro i eW gI
  have:=lX (i - c) (List.mem_range.2 (by omega))
  have cU:Nat.beq (i - c) 0=false:=Zam (by omega)
  rw[cU,cond_false,show c+(i - c)=i by omega,kt]at this
  split at this
  ·rename_i o oc' ho oS
   cases oS
   simp only[Bool.and_eq_true,List.all_eq_true]at this
   refine⟨o,by simpa using ho,fun j rq hj=>?_,fun j hj=>Nat.le_of_ble_eq_true (this.2.1 j hj),fun hi j hj=>?_⟩
   ·have h3:=ZaS.1 (this.1 (j - c) (List.mem_range.2 (by omega)))
    rw[show c+(j - c)=j by omega]at h3
    exact h3
   ·have h3:=this.2.2
    rw[hi,show c+1 - c=1 by omega]at h3
    simp only[show Nat.beq 1 1=true from rfl,cond_true,List.all_eq_true,Bool.or_eq_true,List.mem_range]at h3
    exact(h3 j hj).imp ZaS.1 ZaS.1
  ·cases this
 have kF:ops.toList.drop (c+1)=r:=by
  have:=congrArg (List.drop 1) lg
  simpa[List.drop_drop,Nat.add_comm]using this
 have sM:r.length=ops.size - (c+1):=by rw[←kF];simp
 have memo:∀mm:Mem,E.m0=some mm→C.m0=mm:=fun mm hm=>(hY.m0 mm hm).1
 have prd:∀{o:Oper} {listed:Array Bool},(∀e∈o.after,Region.binds .any e=true→listed.getD e.on false=true)→∀j∈Za6 o,listed.getD j false=true:=fun {o listed} fE j hj=>by
  simp only[Za6,List.mem_map,List.mem_filter]at hj
  obtain⟨e,⟨he,hb⟩,rfl⟩:=hj
  exact fE e (by simpa using he) hb
 have prd':∀{o:Oper} {listed:Array Bool},(∀j∈Za6 o,listed.getD j false=true)→∀e∈o.after,Region.binds .any e=true→listed.getD e.on false=true:=fun {o listed} fE e he hb=>fE e.on (by
  simp only[Za6,List.mem_map,List.mem_filter]
  exact⟨e,⟨by simpa using he,hb⟩,rfl⟩)
 have main:∀(fuel:Nat)(listed:Array Bool)(X:St)(m':Mem)(a':Act)(w':World),listed.size=ops.size→(∀j,c+1≤j→listed.getD j false=false)→
   ((List.range (c+1)).countP fun j=>!listed.getD j false)+r.length≤fuel→(∀o∈ops.toList.take c,ZwZ E S (Zc4 E oc.dst) o X)→(∀id,id ∉ Zc4 E oc.dst→X.L id=S.L id)→SameOut (Zao ops.toList) S X→
   (listed.getD c false=false→m'=m∧X=S.wenv e)→(listed.getD c false=true→ZiX E ops K r X m'∧∀p∈Za6 oc,listed.getD p false=true)→
   Rel C (Zp4 ops c listed S X) m' a' w'→wpAnyIn F n E.P .any ops Q fuel listed a' w':=by
  intro fuel
  induction fuel with
  | zero=>
   intro listed X m' a' w' bW gB iz hX mZ na hA hB bB
   have hz:((List.range (c+1)).countP fun j=>!listed.getD j false)=0:=by omega
   have bS:∀j,j < c+1→listed.getD j false=true:=fun j hj=>by
    have:=List.countP_eq_zero.1 hz j (List.mem_range.2 hj)
    simpa using this
   have gJ:Zp4 ops c listed S X=X:=by
    have:∀t,unl ops c listed t=false:=fun t=>by
     cases hu:unl ops c listed t with
     | false=>rfl
     | true=>
      exfalso
      unfold unl at hu
      simp only[List.any_eq_true,Bool.and_eq_true,List.mem_range]at hu
      obtain⟨j,hj,hu,_⟩:=hu
      rw[bS j (by omega)]at hu;cases hu
    unfold Zp4
    simp only[this,cond_false];rfl
   rw[gJ]at bB
   exact Zpi hE hF hY bA over (i0:=c+1) (fun i h1 h2=>by
    obtain⟨o,q1,q2,q3,_⟩:=fV i h1 h2
    exact⟨o,q1,fun j hj=>q2 j (by omega),q3⟩) r (c+1) kF (Nat.le_refl _) (by omega) 0 listed X m' a' w' (by omega) bW bS gB (hB (bS c (by omega))).1 bB
  | succ fuel ih=>
   intro listed X m' a' w' bW gB iz hX mZ na hA hB bB
   by_cases bS:∀j,j < c+1→listed.getD j false=true
   ·have gJ:Zp4 ops c listed S X=X:=by
     have:∀t,unl ops c listed t=false:=fun t=>by
      cases hu:unl ops c listed t with
      | false=>rfl
      | true=>
       exfalso
       unfold unl at hu
       simp only[List.any_eq_true,Bool.and_eq_true,List.mem_range]at hu
       obtain⟨j,hj,hu,_⟩:=hu
       rw[bS j (by omega)]at hu;cases hu
     unfold Zp4
     simp only[this,cond_false];rfl
    rw[gJ]at bB
    exact Zpi hE hF hY bA over (i0:=c+1) (fun i h1 h2=>by
     obtain⟨o,q1,q2,q3,_⟩:=fV i h1 h2
     exact⟨o,q1,fun j hj=>q2 j (by omega),q3⟩) r (c+1) kF (Nat.le_refl _) (by omega) _ listed X m' a' w' (by omega) bW bS gB (hB (bS c (by omega))).1 bB
   have dec:∀{i:Nat},i < c+1→listed.getD i false=false→((List.range (c+1)).countP fun j=>!(listed.setIfInBounds i true).getD j false)+1=((List.range (c+1)).countP fun j=>!listed.getD j false):=fun {i} hi gV=>
    Zi4 (p:=fun j=>!listed.getD j false) (q:=fun j=>!(listed.setIfInBounds i true).getD j false) (i:=i) (by simp[gV]) (fun j=>by
     by_cases e:j=i
     ·subst e;rw[Zci (by omega),ZbW];simp
     ·rw[getD_set_ne false (Ne.symm e),Zam e];simp) List.nodup_range (List.mem_range.2 hi)
   refine⟨fun cN=>?_,fun i hi=>?_⟩
   ·exfalso
    apply bS
    have hl:∀j,j < c→listed.getD j false=true:=fun j hj=>by
     cases hb:listed.getD j false with
     | true=>rfl
     | false=>
      exfalso
      obtain⟨o,ho,ho'⟩:=ldAt j hj
      obtain⟨_,hp,_⟩:=ldOk o (List.mem_of_getElem? ho')
      have fP:j < listed.size:=by omega
      have:j∈Region.ready .any ops listed:=mem_ready.2 ⟨by simpa[Array.getD,fP]using hb,o,ho,prd' (by rw[hp];intro j hj;cases hj)⟩
      rw[cN]at this;simp at this
    intro j hj
    by_cases e:j=c
    ·subst e
     cases hb:listed.getD j false with
     | true=>rfl
     | false=>
      exfalso
      have fP:j < listed.size:=by omega
      have:j∈Region.ready .any ops listed:=mem_ready.2 ⟨by simpa[Array.getD,fP]using hb,oc,lY,prd' fun p hp=>hl p (Nat.le_of_ble_eq_true (l4 p hp))⟩
      rw[cN]at this;simp at this
    ·exact hl j (by omega)
   obtain⟨gV,o,ho,fE⟩:=mem_ready.1 hi
   have hi':i < ops.size:=(Array.getElem?_eq_some_iff.1 ho).1
   have hl:i < listed.size:=by omega
   have iQ:listed.getD i false=false:=by simp[Array.getD,hl]at gV ⊢;exact gV
   have fE:=prd fE
   have jS:ops.toList[i]?=some o:=by simpa using ho
   have fX:∀j,c+1≤j→(i < c+1)→(listed.setIfInBounds i true).getD j false=false:=fun j hj hi=>by
    rw[getD_set_ne false (by omega)];exact gB j hj
   have eE:∀mm:Mem,E.m0=some mm→mm.le m':=fun mm hm=>by rw[←memo mm hm];exact bB.le
   unfold wpOpIn
   simp only[ho]
   rcases Nat.lt_trichotomy i c with nb|nb|nb
   ·
    obtain⟨o',iE,eR⟩:=ldAt i nb
    rw[ho]at iE;cases iE
    have fT:=List.mem_of_getElem? eR
    obtain⟨hg,_,T,x,d,j3,hd,rr,ru⟩:=ldOk o fT
    obtain⟨T',x',d',v,q1,q2,q3,q4⟩:=hX o fT
    rw[j3]at q1;cases q1
    rw[hd]at q2;cases q2
    have l7:opG E ops o (Zp4 ops c listed S X) m' fun S' m''=>S'=(Zp4 ops c listed S X).put (some d) (some (.v v))∧m''=m':=by
     unfold opG
     simp only[hg]
     unfold opW
     simp only[j3,rr]
     refine Zfv (fun u hu=>?_) (q4 (Zp4 ops c listed S X) m' (fun t ht=>?_) (fun id cK=>mZ id cK) eE)
     ·subst hu;rw[hd];first|exact⟨rfl,rfl⟩|exact⟨rfl,trivial⟩
     ·have rv:=ru t ht
      show(bif unl ops c listed t then S.env t else X.env t)=S.env t
      cases unl ops c listed t with
      | true=>rfl
      | false=>exact(na t rv)
    refine Zde hE hF hY (Zcp bA _ o jS) bB l7 (n:=n) (Q:=Q) (next:=wpAnyIn F n E.P .any ops Q fuel (listed.setIfInBounds i true)) (fun S2 m2 a2 w2 eG fF=>?_)
    obtain⟨rfl,rfl⟩:=eG
    have qa:(listed.setIfInBounds i true).getD c false=listed.getD c false:=getD_set_ne false (by omega)
    refine ih _ X m2 a2 w2 (by simpa using bW) (fun j hj=>fX j hj (by omega)) (by have:=dec (i:=i) (by omega) iQ;omega) hX mZ na (fun hb=>hA (qa ▸ hb)) (fun hb=>?_) ?_
    ·obtain⟨q5,q6⟩:=hB (qa ▸ hb)
     refine⟨q5,fun p hp=>?_⟩
     by_cases e:p=i
     ·subst e;exact Zci hl
     ·rw[getD_set_ne false (Ne.symm e)];exact q6 p hp
    ·have:(Zp4 ops c listed S X).put (some d) (some (.v v))=Zp4 ops c (listed.setIfInBounds i true) S X:=by
      have kG:∀t,unl ops c (listed.setIfInBounds i true) t=(unl ops c listed t&&!Nat.beq t d):=fun t=>by
       by_cases ht:t=d
       ·subst ht
        rw[ZbW]
        simp only[Bool.not_true,Bool.and_false]
        cases hu:unl ops c (listed.setIfInBounds i true) t with
        | false=>rfl
        | true=>
         exfalso
         unfold unl at hu
         simp only[List.any_eq_true,Bool.and_eq_true,List.mem_range]at hu
         obtain⟨j,hj,eU,hH⟩:=hu
         obtain⟨oj,oT,oU⟩:=ldAt j hj
         have:ops.toList[j]?=some oj:=by simpa using oT
         rw[this]at hH
         have:j=i:=ZkT oP oU eR (Zbp.1 hH) hd
         subst this
         rw[Zci hl]at eU;cases eU
       ·rw[Zam ht]
        simp only[Bool.not_false,Bool.and_true]
        unfold unl
        rw[Bool.eq_iff_iff]
        simp only[List.any_eq_true,Bool.and_eq_true,List.mem_range]
        constructor
        ·rintro⟨j,hj,eU,hH⟩
         refine⟨j,hj,?_,hH⟩
         by_cases e:j=i
         ·subst e;rw[Zci hl]at eU;cases eU
         ·rw[getD_set_ne false (Ne.symm e)]at eU;exact eU
        ·rintro⟨j,hj,eU,hH⟩
         refine⟨j,hj,?_,hH⟩
         by_cases e:j=i
         ·subst e
          rw[jS]at hH
          have:=Zbp.1 hH
          rw[hd]at this;cases this
          exact absurd rfl ht
         ·rw[getD_set_ne false (Ne.symm e)];exact eU
      unfold Zp4 St.wenv St.put
      simp only[kG]
      congr 1
      funext t
      by_cases ht:t=d
      ·subst ht;simp[ZbW,q3]
      ·simp[Zam ht]
     rw[←this];exact fF
   ·
    subst nb
    rw[lY]at ho;cases ho
    obtain⟨rfl,rfl⟩:=hA iQ
    have rx:S.wenv e=(Zp4 ops i listed S (S.wenv e)).wenv e:=rfl
    have nv:∀x∈q.args.toList,∀t,x=.tmp t→e t=(Zp4 ops i listed S (S.wenv e)).env t:=fun x hx t ht=>by
     show e t=(bif unl ops i listed t then S.env t else e t)
     cases hu:unl ops i listed t with
     | false=>rfl
     | true=>
      exfalso
      unfold unl at hu
      simp only[List.any_eq_true,Bool.and_eq_true,List.mem_range]at hu
      obtain⟨j,hj,eU,hH⟩:=hu
      have:=ro j (List.mem_range.2 hj)
      simp only[Bool.or_eq_true]at this
      rcases this with h6|h6
      ·rw[fE j (ZaS.1 h6)]at eU;cases eU
      ·split at h6
       ·cases h6
       ·rename_i oj oT
        rw[oT]at hH
        have ry:=Zbp.1 hH
        simp only[ry,List.all_eq_true]at h6
        have:=h6 x hx
        subst ht
        simp[ZmU,mem,ZbW]at this
    rw[rx]at h5 h4
    have h6:=Zm2 oQ hq jt gU (ZhU oR) lZ rp nv h4 h5
    refine Zde hE hF hY (Zcp bA _ _ kt) bB h6 (n:=n) (Q:=Q) (next:=wpAnyIn F n E.P .any ops Q fuel (listed.setIfInBounds i true)) (fun S2 m2 a2 w2 eG fF=>?_)
    obtain⟨X2,z1,z2,z3,z4,z5⟩:=eG
    have oV:∀t,t≠dc→X2.env t=e t:=fun t ht=>(z3 t (by rw[l5];exact fun h=>ht (Option.some.inj h).symm)).1
    refine ih _ X2 m2 a2 w2 (by simpa using bW) (fun j hj=>fX j hj (by omega)) (by have:=dec (i:=i) (by omega) iQ;omega) (fun o' ho'=>?_) (fun id cK=>(z5 id cK).trans (mZ id cK)) (fun t ht=>?_) (fun hb=>?_) (fun _=>⟨z1,fun p hp=>?_⟩) ?_
    ·obtain⟨T',x',d',v,q1,q2,q3,q4⟩:=hX o' ho'
     refine⟨T',x',d',v,q1,q2,?_,q4⟩
     obtain⟨j,hj⟩:=List.getElem?_of_mem ho'
     rw[oV d' (fun e=>l6 (e ▸ ZaU hj q2))];exact q3
    ·have:t≠dc:=fun e=>ht (e ▸ ZaU kt l5)
     rw[oV t this];exact na t ht
    ·rw[Zci hl]at hb;cases hb
    ·have:=fE p hp
     by_cases e:p=i
     ·subst e;exact Zci hl
     ·rw[getD_set_ne false (Ne.symm e)];exact this
    ·have:S2=Zp4 ops i (listed.setIfInBounds i true) S X2:=by
      have kG:∀t,unl ops i (listed.setIfInBounds i true) t=unl ops i listed t:=fun t=>by
       unfold unl
       rw[Bool.eq_iff_iff]
       simp only[List.any_eq_true,Bool.and_eq_true,List.mem_range]
       constructor
       ·rintro⟨j,hj,eU,hH⟩
        rw[getD_set_ne false (by omega)]at eU
        exact⟨j,hj,eU,hH⟩
       ·rintro⟨j,hj,eU,hH⟩
        exact⟨j,hj,by rw[getD_set_ne false (by omega)];exact eU,hH⟩
      have hs:S2=X2.wenv S2.env:=by rw[←z2];rfl
      rw[hs]
      unfold Zp4
      congr 1
      funext t
      rw[kG]
      by_cases ht:t=dc
      ·subst ht
       have:unl ops i listed t=false:=by
        cases hu:unl ops i listed t with
        | false=>rfl
        | true=>exact absurd (unl_mem hu) l6
       rw[this,cond_false]
       exact z4 t l5
      ·rw[(z3 t (by rw[l5];exact fun h=>ht (Option.some.inj h).symm)).2,oV t ht]
       rfl
     rw[←this];exact fF
   ·exfalso
    obtain⟨o3,kD,js,_,oW⟩:=fV i (by omega) hi'
    rw[kD]at ho;cases ho
    by_cases oX:i=c+1
    ·apply bS
     intro j hj
     by_cases e:j=c
     ·subst e;exact fE _ (js _ (Nat.le_refl _) (by omega))
     ·rcases oW oX j (by omega)with h6|h6
      ·exact fE j h6
      ·exact(hB (fE c (js c (Nat.le_refl _) (by omega)))).2 j h6
    ·have:=fE (c+1) (js (c+1) (by omega) (by omega))
     rw[gB (c+1) (Nat.le_refl _)]at this;cases this
 have none0:∀j,(Array.replicate ops.size false).getD j false=false:=fun j=>by simp[Array.getD]
 refine main ops.size _ (S.wenv e) m a w (by simp) (fun j _=>none0 j) ?_ hV (fun _ _=>rfl) (fun t ht=>he t (fun hm=>ht (takeSub t hm))) (fun _=>⟨rfl,rfl⟩) (fun hb=>?_) ?_
 ·have:=List.countP_le_length (p:=fun j=>!(Array.replicate ops.size false).getD j false) (l:=List.range (c+1))
  simp only[List.length_range]at this
  omega
 ·rw[none0]at hb;cases hb
 ·have:Zp4 ops c (Array.replicate ops.size false) S (S.wenv e)=S:=by
   have:∀t,(bif unl ops c (Array.replicate ops.size false) t then S.env t else e t)=S.env t:=fun t=>by
    cases hu:unl ops c (Array.replicate ops.size false) t with
    | true=>rfl
    | false=>
     refine he t fun hm=>?_
     have:unl ops c (Array.replicate ops.size false) t=true:=by
      have rz:∀{l:List Oper} {t:Nat},t∈Zao l→∃(j:Nat)(o:Oper),l[j]?=some o∧o.dst=some t:=by
       intro l
       induction l with
       | nil=>intro t h;simp[Zao]at h
       | cons x l ih=>
        intro t h
        unfold Zao at h
        split at h
        ·obtain⟨j,o,h1,h2⟩:=ih h
         exact⟨j+1,o,by simpa using h1,h2⟩
        ·rename_i d hd
         rcases List.mem_cons.1 h with rfl|h
         ·exact⟨0,x,by simp,hd⟩
         ·obtain⟨j,o,h1,h2⟩:=ih h
          exact⟨j+1,o,by simpa using h1,h2⟩
      obtain⟨j,o,hj,hd⟩:=rz hm
      have qb:j < c:=by
       have:=(List.getElem?_eq_some_iff.1 hj).1
       simp at this;omega
      have hj':ops.toList[j]?=some o:=by rw[List.getElem?_take_of_lt qb]at hj;exact hj
      unfold unl
      simp only[List.any_eq_true,Bool.and_eq_true,List.mem_range]
      refine⟨j,qb,by rw[none0];rfl,?_⟩
      rw[hj'];exact Zbp.2 hd
     rw[hu]at this;cases this
   unfold Zp4 St.wenv
   cases S
   simp only at this ⊢
   congr 1
   funext t;exact this t
  rw[this];exact hr
end Go.Eng
namespace Go.Eng
open Go Go.RowKit
theorem ZjH:∀{l:List DOp} {p j:Nat},j∈ZvV l p→∃c∈l,c.i=p∧j∈c.an
 | [],p,j,h=>by simp[ZvV]at h
 | d::l,p,j,h=>by
  simp only[ZvV]at h
  cases hb:Nat.beq d.i p with
  | true=>simp only[hb,cond_true]at h;exact⟨d,by simp,Nat.eq_of_beq_eq_true hb,h⟩
  | false=>
   simp only[hb,cond_false]at h
   obtain⟨c,hc,h1⟩:=ZjH h
   exact⟨c,by simp[hc],h1⟩
theorem Zm3{E:Env}{ops:Array Oper}:∀{r before l1:List DOp} {d:DOp} {l2:List DOp},Zib E ops r before=true→r=l1++d::l2→Zva E ops d (l1.reverse++before)=true
 | [],before,l1,d,l2,h,e=>by simp at e
 | x::r,before,[],d,l2,h,e=>by
  simp only[Zib,Bool.and_eq_true]at h
  simp at e
  rw[←e.1];exact h.1
 | x::r,before,y::l1,d,l2,h,e=>by
  simp only[Zib,Bool.and_eq_true]at h
  simp at e
  obtain⟨rfl,e⟩:=e
  have:=Zm3 h.2 e
  simpa using this
structure Fact (E:Env)(ops:Array Oper)(ds:List DOp)(d:DOp)(o:Oper):Prop where
 ok:DOk E ops d o
 vw:∀j,j∈d.vw→j∈d.an
 an:∀j,j∈d.an→j∈Za6 o∨∃p∈Za6 o,∃c∈ds,c.i=p∧j∈c.an
theorem ZjI{E:Env}{ops:Array Oper}{ds:List DOp}(h:Zib E ops ds []=true){l1 l2:List DOp}{d:DOp}(e:ds=l1++d::l2):
  ∃o,Fact E ops ds d o∧(∀p∈Za6 o,∃c∈l1,c.i=p)∧(∀c∈l1,(c.i∈d.an∨Zpc ops c d=true)∧c.i≠d.i):=by
 have h1:=Zm3 h e
 simp only[List.append_nil]at h1
 unfold Zva at h1
 split at h1
 ·cases h1
 ·rename_i o ho
  simp only[Bool.and_eq_true,List.all_eq_true,Bool.or_eq_true,List.any_eq_true]at h1
  obtain⟨⟨⟨⟨⟨⟨g1,g2⟩,g3⟩,g4,g5⟩,g6⟩,g7⟩,g8⟩:=h1
  have fT:∀c∈l1.reverse,c∈ds:=fun c hc=>by rw[e];simp at hc ⊢;exact .inl hc
  refine⟨o,⟨⟨ho,g1,ZgY g2,ZgY g3⟩,ZgY g4,fun j hj=>?_⟩,fun p hp=>?_,fun c hc=>⟨?_,?_⟩⟩
  ·rcases g6 j hj with h2|⟨p,hp,h2⟩
   ·exact .inl (ZaS.1 h2)
   ·obtain⟨c,hc,h3,h4⟩:=ZjH (ZaS.1 h2)
    exact .inr ⟨p,hp,c,fT c hc,h3,h4⟩
  ·have:=ZgY g5 p hp
   obtain⟨c,hc,h2⟩:=List.mem_map.1 this
   exact⟨c,by simpa using hc,h2⟩
  ·exact(g7 c (by simpa using hc)).imp ZaS.1 id
  ·have:=g8 c (by simpa using hc)
   intro e;rw[e,ZbW]at this;simp at this
theorem Zf7{α:Type}{R:α→α→Prop}:∀{l:List α},(∀l1 d l2,l=l1++d::l2→∀c∈l1,R c d)→l.Pairwise R
 | [],_=>List.Pairwise.nil
 | x::l,h=>by
  refine List.Pairwise.cons (fun y hy=>?_) (Zf7 fun l1 d l2 e c hc=>h (x::l1) d l2 (by simp[e]) c (by simp[hc]))
  obtain⟨s,t,rfl⟩:=List.append_of_mem hy
  exact h (x::s) y t (by simp) x (by simp)
structure Inv (ds:List DOp)(dn:Nat→Bool)(rem:List DOp):Prop where
 rem:rem=ds.filter fun c=>!dn c.i
 closed:∀d∈ds,dn d.i=true→∀j,j∈d.an→dn j=true
section
variable {E:Env} {ops:Array Oper} {ds:List DOp} {dn:Nat→Bool}
theorem Inv.an_of{rem:List DOp}(h:Inv ds dn rem){d:DOp}{o:Oper}(hd:Fact E ops ds d o)(hp:∀p,p∈Za6 o→dn p=true):∀j,j∈d.an→dn j=true:=fun j hj=>by
 rcases hd.an j hj with h1|⟨p,h1,c,h2,h3,h4⟩
 ·exact hp j h1
 ·exact h.closed c h2 (h3 ▸ hp p h1) j h4
theorem Inv.step{r1 r2:List DOp}{d:DOp}(hp:ds.Pairwise fun c d=>c.i≠d.i)(h:Inv ds dn (r1++d::r2))(hd:∀j,j∈d.an→dn j=true):Inv ds (fun j=>dn j||Nat.beq j d.i) (r1++r2):=by
 have fE:(r1++d::r2).Pairwise fun c d=>c.i≠d.i:=by rw[h.rem];exact hp.sublist List.filter_sublist
 refine⟨?_,fun c hc lZ j hj=>?_⟩
 ·have e:(ds.filter fun c=>!(dn c.i||Nat.beq c.i d.i))=(r1++d::r2).filter fun c=>!Nat.beq c.i d.i:=by
   rw[h.rem,List.filter_filter]
   congr 1;funext c
   cases dn c.i <;> simp
  rw[e,List.filter_append,List.filter_cons]
  simp only[ZbW,Bool.not_true,Bool.false_eq_true,if_false]
  rw[List.pairwise_append]at fE
  obtain⟨_,h2,h3⟩:=fE
  rw[List.pairwise_cons]at h2
  rw[List.filter_eq_self.2,List.filter_eq_self.2]
  ·intro c hc
   have:=h2.1 c hc
   simp[Zam (Ne.symm this)]
  ·intro c hc
   have:=h3 c hc d (by simp)
   simp[Zam this]
 ·simp only[Bool.or_eq_true]at lZ ⊢
  rcases lZ with h1|h1
  ·exact .inl (h.closed c hc h1 j hj)
  ·have:c=d:=by
    have jT:d∈ds:=by
     have:d∈ds.filter fun c=>!dn c.i:=by rw[←h.rem];simp
     exact(List.mem_filter.1 this).1
    have hi:=Nat.eq_of_beq_eq_true h1
    by_cases e:c=d
    ·exact e
    ·exfalso
     obtain⟨s,t,rfl⟩:=List.append_of_mem hc
     rw[List.pairwise_append,List.pairwise_cons]at hp
     simp only[List.mem_append,List.mem_cons]at jT
     rcases jT with jT|jT|jT
     ·exact hp.2.2 d jT c (by simp) hi.symm
     ·exact e jT.symm
     ·exact hp.2.1.1 d jT hi
   subst this
   exact .inl (hd j hj)
theorem Inv.head{d:DOp}{r:List DOp}(cA:Zib E ops ds []=true)(h:Inv ds dn (d::r)):∃o,Fact E ops ds d o∧∀p,p∈Za6 o→dn p=true:=by
 obtain⟨l1,l2,h1,h2,h3,_⟩:=List.filter_eq_cons_iff.1 h.rem.symm
 obtain⟨o,hf,hp,_⟩:=ZjI cA h1
 refine⟨o,hf,fun p lH=>?_⟩
 obtain⟨c,hc,rfl⟩:=hp p lH
 have:=h2 c hc
 simpa using this
theorem Inv.topo(cA:Zib E ops ds []=true)(hp:ds.Pairwise fun c d=>c.i≠d.i):∀{r1 r2:List DOp} {dn:Nat→Bool},Inv ds dn (r1++r2)→Zvc (fun j=>dn j=true) r1
 | [],r2,dn,h=>trivial
 | c::r1,r2,dn,h=>by
  obtain⟨o,hf,fE⟩:=h.head cA
  have lh:=h.an_of hf fE
  refine⟨fun j hj=>lh j (hf.vw j hj),?_⟩
  have:=Inv.topo cA hp (r1:=r1) (r2:=r2) (Inv.step (r1:=[]) hp h lh)
  have e:(fun j=>(dn j||Nat.beq j c.i)=true)=(fun j=>dn j=true∨j=c.i):=by
   funext j
   rw[Bool.or_eq_true]
   exact propext ⟨fun h=>h.imp id Nat.eq_of_beq_eq_true,fun h=>h.imp id fun e=>by rw[e];exact ZbW _⟩
  rw[e]at this
  exact this
end
theorem Zg0{ops:Array Oper}:∀{ds:List DOp} {j:Nat},j∈Zh6 ops ds→∃d∈ds,d.i=j
 | [],j,h=>by simp[Zh6]at h
 | d::r,j,h=>by
  simp only[Zh6]at h
  split at h
  ·obtain⟨c,hc,e⟩:=Zg0 h;exact⟨c,by simp[hc],e⟩
  ·rename_i o _
   cases hg:ZdE o with
   | true=>
    simp only[hg,cond_true,List.mem_cons]at h
    rcases h with h|h
    ·exact⟨d,by simp,h.symm⟩
    ·obtain⟨c,hc,e⟩:=Zg0 h;exact⟨c,by simp[hc],e⟩
   | false=>
    simp only[hg,cond_false]at h
    obtain⟨c,hc,e⟩:=Zg0 h;exact⟨c,by simp[hc],e⟩
theorem ZjJ{ops:Array Oper}:∀{ds:List DOp},Zh6 ops ds=[]→∀d∈ds,∀o,ops.toList[d.i]?=some o→ZdE o=false
 | [],_,d,hd=>by simp at hd
 | c::r,h,d,hd=>fun o ho=>by
  simp only[Zh6]at h
  rcases List.mem_cons.1 hd with rfl|hd
  ·simp only[ho]at h
   cases hg:ZdE o with
   | false=>rfl
   | true=>simp[hg]at h
  ·split at h
   ·exact ZjJ h d hd o ho
   ·rename_i oc _
    cases hg:ZdE oc with
    | true=>simp[hg]at h
    | false=>simp only[hg,cond_false]at h;exact ZjJ h d hd o ho
theorem Zm4{C:Ctx}{E:Env}(hE:E.ok){F:Fence}(hF:FOk F)(hY:YOk E C){ops:Array Oper}(bA:ZkB C.n ops.toList=true)(fZ:E.fix=none){m0:Mem}{f:Fx}{ds:List DOp}(cA:Zib E ops ds []=true)
  {n e:Nat} {Q:Exit→Act→World→Prop} {K:St→Mem→Prop}
  (kH:∀(listed:Array Bool)(rem:List DOp) i,Inv ds (fun j=>listed.getD j false) rem→(∀j,listed.getD j false=true→∃d∈ds,d.i=j)→listed.size=ops.size→i∈Region.ready .any ops listed→(∃d∈ds,d.i=i)∨∀d∈ds,listed.getD d.i false=true)
  (iO:∀(fuel:Nat)(listed:Array Bool)(S':St)(m':Mem)(a':Act)(w':World),e≤fuel→listed.size=ops.size→(∀d∈ds,listed.getD d.i false=true)→(∀j,listed.getD j false=true→∃d∈ds,d.i=j)→K S' m'→Rel C S' m' a' w'→wpAnyIn F n E.P .any ops Q fuel listed a' w'):
  ∀(fuel:Nat){listed:Array Bool}{rem:List DOp}{S:St}{μ:Nat→Mem}{A:Mem}{a:Act}{w:World},listed.size=ops.size→Inv ds (fun j=>listed.getD j false) rem→rem.length+e≤fuel→Rel C S A a w→m0.le A→
   (∀j,listed.getD j false=true→(μ j).le A)→(∀j,listed.getD j false=true→∃d∈ds,d.i=j)→(Zh6 ops ds=[]→A=m0)→(∀d∈ds,(∀i,i∈d.ws→i∈S.ids)∧∀k,d.tk=some k→k∈S.tkeys)→
   Zh4 E ops m0 f rem (fun S' μ=>Zu8 m0 μ (Zh6 ops ds) fun M=>K S' M) S μ→wpAnyIn F n E.P .any ops Q fuel listed a w:=by
 have jL:ds.Pairwise fun c d=>(c.i∈d.an∨Zpc ops c d=true)∧c.i≠d.i:=Zf7 fun l1 d l2 e c hc=>by
  obtain⟨o,_,_,h⟩:=ZjI cA e
  exact h c hc
 have lf:ds.Pairwise fun c d=>c.i≠d.i:=jL.imp fun h=>h.2
 have factOf:∀d∈ds,∃o,Fact E ops ds d o:=fun d hd=>by
  obtain⟨s,t,e⟩:=List.append_of_mem hd
  obtain⟨o,h,_⟩:=ZjI cA e
  exact⟨o,h⟩
 have allOf:∀{listed:Array Bool} {rem:List DOp},Inv ds (fun j=>listed.getD j false) rem→rem=[]→∀d∈ds,listed.getD d.i false=true:=fun dI he d hd=>by
  subst he
  have:=List.filter_eq_nil_iff.1 dI.rem.symm d hd
  simpa using this
 have fin:∀{fuel:Nat} {listed:Array Bool} {rem:List DOp} {S:St} {μ:Nat→Mem} {A:Mem} {a:Act} {w:World},listed.size=ops.size→Inv ds (fun j=>listed.getD j false) rem→Rel C S A a w→m0.le A→(∀j,listed.getD j false=true→(μ j).le A)→(∀j,listed.getD j false=true→∃d∈ds,d.i=j)→(Zh6 ops ds=[]→A=m0)→
   Zh4 E ops m0 f rem (fun S' μ=>Zu8 m0 μ (Zh6 ops ds) fun M=>K S' M) S μ→rem=[]→e≤fuel→wpAnyIn F n E.P .any ops Q fuel listed a w:=by
  intro fuel listed rem S μ A a w bW dI hr h0 hμ hl hg hn he iz
  have bS:=allOf dI he
  subst he
  refine iO fuel listed S A a w iz bW bS hl (Zqx hn h0 hg fun j hj=>?_) hr
  obtain⟨d,hd,rfl⟩:=Zg0 hj
  exact hμ _ (bS d hd)
 have stuck:∀{listed:Array Bool} {rem:List DOp},listed.size=ops.size→Inv ds (fun j=>listed.getD j false) rem→Region.ready .any ops listed=[]→rem=[]:=by
  intro listed rem bW dI cN
  cases rem with
  | nil=>rfl
  | cons d r=>
   exfalso
   obtain⟨o,hf,hp⟩:=dI.head cA
   have cH:d∈ds.filter fun c=>!listed.getD c.i false:=by rw[←dI.rem];simp
   have h1:=(List.mem_filter.1 cH).2
   have ho':ops[d.i]?=some o:=by simpa using hf.ok.at_
   have aX:d.i < ops.size:=(Array.getElem?_eq_some_iff.1 ho').1
   have:d.i∈Region.ready .any ops listed:=mem_ready.2 ⟨by
    have hl:d.i < listed.size:=by omega
    simpa[Array.getD,hl]using h1,o,ho',fun e he hb=>hp e.on (by
     simp only[Za6,List.mem_map,List.mem_filter]
     exact⟨e,⟨by simpa using he,hb⟩,rfl⟩)⟩
   rw[cN]at this;simp at this
 intro fuel
 induction fuel with
 | zero=>
  intro listed rem S μ A a w bW dI bP hr h0 hμ ju hg dL hn
  have he:rem=[]:=List.eq_nil_of_length_eq_zero (by omega)
  exact fin bW dI hr h0 hμ ju hg hn he (by omega)
 | succ fuel ih=>
  intro listed rem S μ A a w bW dI bP hr h0 hμ ju hg dL hn
  by_cases kI:rem=[]
  ·exact fin bW dI hr h0 hμ ju hg hn kI (by omega)
  refine⟨fun cN=>absurd (stuck bW dI cN) kI,fun i hi=>?_⟩
  rcases kH listed rem i dI ju bW hi with⟨d,hd,rfl⟩|l8
  rotate_left
  ·exfalso
   apply kI
   rw[dI.rem,List.filter_eq_nil_iff]
   intro d hd
   simp[l8 d hd]
  obtain⟨gV,o,ho,bS⟩:=mem_ready.1 hi
  have aX:d.i < ops.size:=(Array.getElem?_eq_some_iff.1 ho).1
  have hl:d.i < listed.size:=by omega
  have iQ:listed.getD d.i false=false:=by simp[Array.getD,hl]at gV ⊢;exact gV
  obtain⟨o',hf⟩:=factOf d hd
  have:o'=o:=by
   have h1:=hf.ok.at_
   have h2:ops.toList[d.i]?=some o:=by simpa using ho
   rw[h1]at h2;exact Option.some.inj h2
  subst this
  have fE:∀p,p∈Za6 o'→listed.getD p false=true:=fun p hp=>by
   simp only[Za6,List.mem_map,List.mem_filter]at hp
   obtain⟨e,⟨he,hb⟩,rfl⟩:=hp
   exact bS e (by simpa using he) hb
  have lh:=dI.an_of hf fE
  have lg:d∈rem:=by rw[dI.rem];exact List.mem_filter.2 ⟨hd,by simp[iQ]⟩
  obtain⟨r1,r2,rfl⟩:=List.append_of_mem lg
  have cB:(r1++d::r2).Sublist ds:=by rw[dI.rem];exact List.filter_sublist
  have l9:=jL.sublist cB
  have fD:∀c∈r1,Zpc ops c d=true:=fun c hc=>by
   rw[List.pairwise_append]at l9
   rcases(l9.2.2 c hc d (by simp)).1 with h1|h1
   ·have h2:=lh _ h1
    have rA:c∈ds.filter fun c=>!listed.getD c.i false:=by rw[←dI.rem];simp[hc]
    have h3:=(List.mem_filter.1 rA).2
    rw[h2]at h3;cases h3
   ·exact h1
  have fT:∀c∈r1++d::r2,c∈ds:=fun c hc=>cB.subset hc
  have hT:=extract hE hF hY bA fZ (r1:=r1) (D:=fun j=>listed.getD j false=true) hr h0 hμ (dI.topo cA lf) (fun c hc=>by
   obtain⟨oc,jG⟩:=factOf c (fT c (by simp[hc]))
   exact⟨⟨oc,jG.ok⟩,dL c (fT c (by simp[hc]))⟩) fD hn
  refine Zpg hE hF hY bA fZ hf.ok (dL d hd).1 (dL d hd).2 hr h0 (fun j hj=>hμ j (lh j (hf.vw j hj))) hT ?_
  intro S' m' A' a' w' cV bB hA hm rB
  have ma:(fun j=>(listed.setIfInBounds d.i true).getD j false)=fun j=>listed.getD j false||Nat.beq j d.i:=by
   funext j
   by_cases hj:j=d.i
   ·subst hj;simp[Array.getD,hl]
   ·have:Nat.beq j d.i=false:=Zam hj
    rw[getD_set_ne false (Ne.symm hj),this,Bool.or_false]
  refine ih (rem:=r1++r2) (S:=Zoi ops d S S') (μ:=upd μ d.i m') (A:=A') (by simpa using bW) ?_ (by simp at bP ⊢;omega) bB (Mem.le_trans h0 hA) ?_ ?_ ?_ ?_ (Zpf hf.ok.ws fD hn cV)
  ·rw[ma];exact dI.step lf lh
  ·intro j hj
   have hj':(listed.getD j false||Nat.beq j d.i)=true:=by rw[←hj];exact(congrFun ma j).symm
   by_cases e:j=d.i
   ·subst e;rw[Zph];exact hm
   ·rw[Zt5 e]
    rw[Zam e,Bool.or_false]at hj'
    exact Mem.le_trans (hμ j hj') hA
  ·intro j hj
   have hj':(listed.getD j false||Nat.beq j d.i)=true:=by rw[←hj];exact(congrFun ma j).symm
   rw[Bool.or_eq_true]at hj'
   rcases hj' with h|h
   ·exact ju j h
   ·exact⟨d,hd,(Nat.eq_of_beq_eq_true h).symm⟩
  ·intro li
   rw[rB (ZjJ li d hd o' hf.ok.at_)]
   exact hg li
  ·intro c hc
   rw[(ZjG ops d S S').1,(ZjG ops d S S').2]
   exact dL c hc
theorem Zm5:∀{ds:List DOp} {d:DOp} {i:Nat},d∈ds→i∈d.ws→i∈ZtZ ds
 | [],d,i,hd,_=>by simp at hd
 | c::r,d,i,hd,hi=>by
  simp only[ZtZ,List.mem_append]
  rcases List.mem_cons.1 hd with rfl|hd
  ·exact .inl hi
  ·exact .inr (Zm5 hd hi)
theorem Zm6:∀{ds:List DOp} {d:DOp} {k:Nat},d∈ds→d.tk=some k→k∈Ztz ds
 | [],d,k,hd,_=>by simp at hd
 | c::r,d,k,hd,hk=>by
  simp only[Ztz]
  rcases List.mem_cons.1 hd with rfl|hd
  ·simp[hk]
  ·have:=Zm6 hd hk
   cases c.tk <;> simp[this]
theorem Zm7{C:Ctx}{S:St}{m:Mem}{a:Act}{w:World}(h:Rel C S m a w)(ds:List DOp):Rel C (ZjC ds S) m a w:=
 h.restrict rfl (fun _ _ hx=>hx) (fun _ _ ht=>.inl ht) (fun i sv he=>by
  obtain⟨v,h1,h2⟩:=h.env i sv he
  exact⟨v,by cases sv <;> exact h1,h2⟩) (fun id x hx=>by simp only[ZjC];exact List.mem_append_right _ (h.ids id x hx)) (fun k t ht=>by simp only[ZjC];exact List.mem_append_right _ (h.tkeys k t ht))
theorem ZkU{E:Env}(hE:E.ok)(dN:E.P.follows .mixedOrders=true):Zdi E (ZjD E):=by
 intro C F hF hY n id ops K S m a w Q bA hr h hK
 have over:∀(fuel:Nat)(listed:Array Bool)(S':St)(m':Mem)(a':Act)(w':World),listed.size=ops.size→(∀j,j < ops.size→listed.getD j false=true)→K S' m'→Rel C S' m' a' w'→wpAnyIn F n E.P .any ops Q fuel listed a' w':=by
  intro fuel listed S' m' a' w' bW bS hk bB
  have gB:Region.ready .any ops listed=[]:=by
   cases cN:Region.ready .any ops listed with
   | nil=>rfl
   | cons i l=>
    exfalso
    have hi:i∈Region.ready .any ops listed:=by rw[cN];simp
    obtain⟨gV,o,ho,_⟩:=mem_ready.1 hi
    have aX:i < ops.size:=(Array.getElem?_eq_some_iff.1 ho).1
    have h1:=bS i aX
    have hl:i < listed.size:=by omega
    simp[Array.getD,hl]at gV h1
    rw[gV]at h1;cases h1
  cases fuel with
  | zero=>exact⟨gB,hK _ _ _ _ hk bB⟩
  | succ fuel=>exact⟨fun _=>hK _ _ _ _ hk bB,fun i hi=>by rw[gB]at hi;simp at hi⟩
 unfold ZjD at h
 cases hh:E.hot id with
 | true=>
  simp only[hh,cond_true]at h
  exact wpIn_region_any dN (Zt7 hE hF hY bA over hr.drew h)
 | false=>
 simp only[hh,cond_false]at h
 obtain⟨h1,h2⟩:=Zae h
 obtain⟨f,h2⟩:=Zsr h2
 have h2:Zh4 E ops m f (E.dr id) (fun S' μ=>Zu8 m μ (Zh6 ops (E.dr id)) fun M=>bif E.last id then Zqu E ops (E.lastK id) K S' M else K S' M) (ZjC (E.dr id) S) (fun _=>m):=by
  cases lS:E.gb with
  | false=>simp only[lS,cond_false]at h2;exact h2
  | true=>simp only[lS,cond_true]at h2;exact ZiY h2
 simp only[Zt0,Bool.and_eq_true,List.all_eq_true,List.any_eq_true]at h1
 obtain⟨⟨⟨⟨kH,bP⟩,cA⟩,fZ⟩,dB⟩:=h1
 refine wpIn_region_any dN ?_
 have gv:∀i,i < (bif E.last id then ops.size - E.lastK id else ops.size)→∃d∈E.dr id,d.i=i:=fun i hi=>by
  obtain⟨d,hd,e⟩:=kH i (List.mem_range.2 hi)
  exact⟨d,hd,Nat.eq_of_beq_eq_true e⟩
 have bP:(E.dr id).length≤ops.size:=Nat.le_of_ble_eq_true bP
 have inv0:Inv (E.dr id) (fun j=>(Array.replicate ops.size false).getD j false) (E.dr id):=by
  refine⟨(List.filter_eq_self.2 fun c hc=>?_).symm,fun d hd ma=>?_⟩
  ·simp[Array.getD]
  ·simp[Array.getD]at ma
 have none0:∀j,(Array.replicate ops.size false).getD j false=true→False:=fun j hj=>by simp[Array.getD]at hj
 have ids0:∀d∈E.dr id,(∀i,i∈d.ws→i∈(ZjC (E.dr id) S).ids)∧∀k,d.tk=some k→k∈(ZjC (E.dr id) S).tkeys:=fun d hd=>
  ⟨fun i hi=>List.mem_append_left _ (Zm5 hd hi),fun k hk=>List.mem_append_left _ (Zm6 hd hk)⟩
 cases hl:E.last id with
 | false=>
  simp only[hl,cond_false]at h2 gv
  refine Zm4 hE hF hY bA (by simpa using fZ) cA (e:=0) (fun listed _ i _ _ _ hi=>.inl ?_) (fun fuel listed S' m' a' w' _ bW bS _ hk bB=>over fuel listed S' m' a' w' bW (fun j hj=>by obtain⟨d,hd,rfl⟩:=gv j hj;exact bS d hd) hk bB) ops.size (rem:=E.dr id) (A:=m) (by simp) inv0 (by omega) ((Zm7 hr.drew (E.dr id))) (Mem.le_refl m) (fun j hj=>(none0 j hj).elim) (fun j hj=>(none0 j hj).elim) (fun _=>rfl) ids0 h2
  obtain⟨_,o,ho,_⟩:=mem_ready.1 hi
  exact gv i (Array.getElem?_eq_some_iff.1 ho).1
 | true=>
  simp only[hl,cond_true]at h2 gv dB
  generalize E.lastK id=k at *
  unfold Zt1 at dB
  simp only[Bool.and_eq_true,List.all_eq_true]at dB
  obtain⟨⟨jn,oY⟩,lV⟩:=dB
  have jn:=Nat.le_of_ble_eq_true jn
  have fV:∀i,ops.size - k≤i→i < ops.size→∃o,ops[i]?=some o∧(∀j,ops.size - k≤j→j < i→j∈Za6 o)∧(∀j∈Za6 o,j < i)∧(i=ops.size - k→∀j,j < ops.size - k→j∈Za6 o∨∃p∈Za6 o,∃c∈E.dr id,c.i=p∧j∈c.an):=by
   intro i h1 h2
   have:=oY (i - (ops.size - k)) (List.mem_range.2 (by omega))
   rw[show ops.size - k+(i - (ops.size - k))=i by omega]at this
   split at this
   ·cases this
   ·rename_i o ho
    simp only[Bool.and_eq_true,List.all_eq_true]at this
    refine⟨o,by simpa using ho,fun j rq hj=>?_,fun j hj=>Nat.le_of_ble_eq_true (this.2.1 j hj),fun hi j hj=>?_⟩
    ·have h3:=ZaS.1 (this.1 (j - (ops.size - k)) (List.mem_range.2 (by omega)))
     rw[show ops.size - k+(j - (ops.size - k))=j by omega]at h3
     exact h3
    ·have h3:=this.2.2
     rw[hi,Nat.sub_self]at h3
     simp only[show Nat.beq 0 0=true from rfl,cond_true,List.all_eq_true,Bool.or_eq_true,List.any_eq_true]at h3
     rcases h3 j (List.mem_range.2 hj)with h4|⟨p,hp,h4⟩
     ·exact .inl (ZaS.1 h4)
     ·obtain⟨c,hc,h5,h6⟩:=ZjH (ZaS.1 h4)
      exact .inr ⟨p,hp,c,hc,h5,h6⟩
  have jv:∀d∈E.dr id,d.i < ops.size - k:=fun d hd=>Nat.le_of_ble_eq_true (lV d hd)
  have sN:(E.dr id).length+k≤ops.size:=by
   have lf:(E.dr id).Pairwise fun c d=>c.i≠d.i:=Zf7 fun l1 d l2 e c hc=>by
    obtain⟨o,_,_,h⟩:=ZjI cA e
    exact(h c hc).2
   have dQ:((E.dr id).map (·.i)).Nodup:=by
    unfold List.Nodup
    rw[List.pairwise_map]
    exact lf
   have:=List.Nodup.length_le_of_subset dQ (l₂:=List.range (ops.size - k)) (fun j hj=>by
    obtain⟨d,hd,rfl⟩:=List.mem_map.1 hj
    exact List.mem_range.2 (jv d hd))
   simp at this
   omega
  have tail:∀(r:List Oper)(i:Nat),ops.toList.drop i=r→ops.size - k≤i→i≤ops.size→∀(fuel:Nat)(listed:Array Bool)(S':St)(m':Mem)(a':Act)(w':World),r.length≤fuel→listed.size=ops.size→(∀j,j < i→listed.getD j false=true)→(∀j,i≤j→listed.getD j false=false)→ZiX E ops K r S' m'→Rel C S' m' a' w'→wpAnyIn F n E.P .any ops Q fuel listed a' w':=by
   intro r
   induction r with
   | nil=>
    intro i hi h1 h2 fuel listed S' m' a' w' _ bW bS _ hk bB
    have:ops.size≤i:=by
     have:=congrArg List.length hi
     simp at this
     omega
    exact over fuel listed S' m' a' w' bW (fun j hj=>bS j (by omega)) hk bB
   | cons o r ih=>
    intro i hi h1 h2 fuel listed S' m' a' w' iz bW bS dD hk bB
    have eM:i < ops.size:=by
     have:=congrArg List.length hi
     simp at this
     omega
    obtain⟨o',ho',rl,fR,_⟩:=fV i h1 eM
    have jS:ops.toList[i]?=some o:=by
     have:=congrArg (fun l=>l[0]?) hi
     simpa using this
    have oM:o'=o:=by
     have:ops.toList[i]?=some o':=by simpa using ho'
     rw[jS]at this;cases this;rfl
    subst oM
    have oN:ops.toList.drop (i+1)=r:=by
     have:=congrArg (List.drop 1) hi
     simpa[List.drop_drop,Nat.add_comm]using this
    obtain⟨fuel,rfl⟩:∃k,fuel=k+1:=⟨fuel - 1,by simp at iz;omega⟩
    have gV:listed.getD i false=false:=dD i (Nat.le_refl _)
    have fP:i < listed.size:=by omega
    refine⟨fun cN=>?_,fun q hq=>?_⟩
    ·exfalso
     have:i∈Region.ready .any ops listed:=mem_ready.2 ⟨by simpa[Array.getD,fP]using gV,o',ho',fun e he hb=>?_⟩
     ·rw[cN]at this;simp at this
     ·have hm:e.on∈Za6 o':=by
       simp only[Za6,List.mem_map,List.mem_filter]
       exact⟨e,⟨by simpa using he,hb⟩,rfl⟩
      exact bS _ (fR _ hm)
    ·obtain⟨lU,o2,eR,fE⟩:=mem_ready.1 hq
     have hq':q < ops.size:=(Array.getElem?_eq_some_iff.1 eR).1
     have:q=i:=by
      by_cases h3:q < i
      ·have h4:=bS q h3
       have hl:q < listed.size:=by omega
       simp[Array.getD,hl]at lU h4
       rw[lU]at h4;cases h4
      ·by_cases h4:q=i
       ·exact h4
       ·exfalso
        obtain⟨o3,kD,js,_⟩:=fV q (by omega) hq'
        rw[kD]at eR;cases eR
        have:=js i h1 (by omega)
        simp only[Za6,List.mem_map,List.mem_filter]at this
        obtain⟨e,⟨he,hb⟩,h5⟩:=this
        have:=fE e (by simpa using he) hb
        rw[h5,gV]at this;cases this
     subst this
     simp only[ZiX]at hk
     have:=ZhO hE hF hY (Zcp bA _ o' jS) bB hk (n:=n) (Q:=Q) (next:=wpAnyIn F n E.P .any ops Q fuel (listed.setIfInBounds q true)) (fun S2 m2 a2 w2 eG fF=>ih (q+1) oN (by omega) (by omega) fuel _ S2 m2 a2 w2 (by simp at iz;omega) (by simpa using bW) (fun j hj=>by
      by_cases e:j=q
      ·subst e;simp[Array.getD,fP]
      ·rw[getD_set_ne false (Ne.symm e)]
       exact bS j (by omega)) (fun j hj=>by
      rw[getD_set_ne false (by omega)]
      exact dD j (by omega)) eG fF)
     unfold wpOpIn
     simp only[ho']
     exact this
  refine Zm4 hE hF hY bA (by simpa using fZ) cA (e:=k) (fun listed rem i dI ju bW hi=>?_) (fun fuel listed S' m' a' w' iz bW bS ju hk bB=>?_) ops.size (rem:=E.dr id) (A:=m) (by simp) inv0 (by omega) ((Zm7 hr.drew (E.dr id))) (Mem.le_refl _) (fun j hj=>(none0 j hj).elim) (fun j hj=>(none0 j hj).elim) (fun _=>rfl) ids0 h2
  ·obtain⟨_,o2,eR,bS⟩:=mem_ready.1 hi
   have hi':i < ops.size:=(Array.getElem?_eq_some_iff.1 eR).1
   by_cases gI:i < ops.size - k
   ·exact .inl (gv i gI)
   ·right
    obtain⟨o3,kD,js,_,oW⟩:=fV i (by omega) hi'
    have rC:o2=o3:=by rw[kD]at eR;cases eR;rfl
    subst rC
    have oZ:∀j∈Za6 o2,listed.getD j false=true:=fun j hj=>by
     simp only[Za6,List.mem_map,List.mem_filter]at hj
     obtain⟨e,⟨he,hb⟩,h3⟩:=hj
     have:=bS e (by simpa using he) hb
     rw[h3]at this
     exact this
    intro d hd
    by_cases oX:i=ops.size - k
    ·rcases oW oX d.i (jv d hd)with h3|⟨p,hp,c,hc,h3,h4⟩
     ·exact oZ _ h3
     ·exact dI.closed c hc (h3 ▸ oZ p hp) d.i h4
    ·exfalso
     have h3:=oZ _ (js (ops.size - k) (Nat.le_refl _) (by omega))
     obtain⟨d',hd',h4⟩:=ju _ h3
     have:=jv d' hd'
     omega
  ·unfold Zqu at hk
   refine tail _ (ops.size - k) rfl (Nat.le_refl _) (Nat.sub_le _ _) fuel listed S' m' a' w' (by simp;omega) bW (fun j hj=>?_) (fun j hj=>?_) hk bB
   ·obtain⟨d,hd,rfl⟩:=gv j hj
    exact bS d hd
   ·cases hb:listed.getD j false with
    | false=>rfl
    | true=>
     obtain⟨d,hd,h3⟩:=ju _ hb
     have:=jv d hd
     omega
theorem Rel.ptrS{C:Ctx}{S:St}{m:Mem}{a:Act}{w:World}(h:Rel C S m a w)(ts:List Nat):Rel C (ptrS S ts) m a w:=by
 refine h.restrict rfl (fun _ _ hx=>hx) (fun _ _ ht=>.inl ht) (fun t sv he=>?_) h.ids h.tkeys
 have den:∀sv,(Eng.ptrS S ts).den sv=S.den sv:=fun sv=>by cases sv <;> rfl
 rw[den]
 have he:(bif mem ts t then Zwi S (S.env t)else S.env t)=some sv:=he
 cases hm:mem ts t with
 | false=>rw[hm]at he;exact h.env t sv he
 | true=>
  rw[hm,cond_true]at he
  unfold Zwi at he
  split at he
  ·rename_i i off hi
   cases hx:S.L i with
   | none=>simp[hx]at he
   | some x=>
    simp only[hx,Option.some.injEq]at he
    subst he
    obtain⟨v,h1,h2⟩:=h.env t _ hi
    simp only[St.den,hx]at h1
    cases h1
    exact⟨_,rfl,h2⟩
  ·exact h.env t sv he
theorem Zpm{E:Env}(hE:E.ok)(dN:E.P.follows .mixedOrders=true){C:Ctx}{F:Fence}(hF:FOk F)(hY:YOk E C)(n:Nat)(id:Nat)(ops:Array Oper){K:St→Mem→Prop}{S2:St}{m2:Mem}{a:Act}{w:World}{Q:Exit→Act→World→Prop}
  (bA:ZkB C.n ops.toList=true) (eV:Rel C S2 m2 a w) (h2:ZvY (E.ptrAt id) (Zao ops.toList) (ZjD E id ops) K S2 m2) (hK:∀S' m' a' w',K S' m'→Rel C S' m' a' w'→Q .normal a' w'):(Code.region id ops true).wpIn F n E.P Q a w:=by
 unfold ZvY at h2
 split at h2
 ·exact ZkU hE dN hF hY n id ops bA eV h2 hK
 ·rename_i t0 tl ku
  obtain⟨h3,h4⟩:=Zae h2
  generalize E.ptrAt id=ts at *
  have h5:=ZjE E id ops _ (fun S' m'=>SameOut (Zao ops.toList) (ptrS S2 ts) S'∧Zic S2 S' ts (K (Zt2 S2 S' ts) m')) _ m2 (fun S' m' hs _ y=>⟨hs,y⟩) h4
  refine ZkU hE dN hF hY n id ops bA (eV.ptrS ts) h5 (fun S' m' a' w' hk bB=>?_)
  obtain⟨hs,hk⟩:=hk
  obtain⟨hk,hp⟩:=Zf6 hk
  refine hK _ m' a' w' hk (bB.restrict rfl (fun _ _ hx=>hx) (fun _ _ ht=>.inl ht) (fun t sv he=>?_) bB.ids bB.tkeys)
  have den:∀sv,(Zt2 S2 S' ts).den sv=S'.den sv:=fun sv=>by cases sv <;> rfl
  rw[den]
  have he:(bif mem ts t then S2.env t else S'.env t)=some sv:=he
  cases hm:mem ts t with
  | false=>rw[hm]at he;exact bB.env t sv he
  | true=>
   rw[hm,cond_true]at he
   have mW:=ZaS.1 hm
   have dQ:t ∉ Zao ops.toList:=fun hd=>by
    have:=List.all_eq_true.1 h3 t mW
    simp[ZaS.2 hd]at this
   have h6:=hs t dQ
   have h7:(ptrS S2 ts).env t=Zwi S2 (S2.env t):=by show(bif mem ts t then _ else _)=_;rw[hm];rfl
   rcases hp t mW with⟨i,off,q1,q2⟩|⟨v,q1⟩
   ·rw[q1]at he;cases he
    obtain⟨v,r1,r2⟩:=eV.env t _ q1
    simp only[St.den]at r1
    cases hx:S2.L i with
    | none=>simp[hx]at r1
    | some x=>
     rw[q1]at h7
     simp only[Zwi,hx]at h7
     obtain⟨u,r3,r4⟩:=bB.env t _ (h6.trans h7)
     simp only[St.den]at r3;cases r3
     refine⟨_,?_,r4⟩
     simp only[St.den,q2,hx]
   ·rw[q1]at he;cases he
    rw[q1]at h7
    exact bB.env t _ (h6.trans h7)
theorem Zg1{E:Env}(hE:E.ok)(dN:E.P.follows .mixedOrders=true):Zdi E (ZaV E):=by
 intro C F hF hY n id ops K S m a w Q bA hr h hK
 obtain⟨S2,m2,eV,h2⟩:=ZhL hr h
 unfold ZtO at h2
 split at h2
 ·exact Zpm hE dN hF hY n id ops bA eV h2 hK
 ·rename_i key esz _
  obtain⟨h3,h4⟩:=Zae h2
  cases eE:E.m0 with
  | none=>simp[eE]at h4
  | some mm=>
   simp only[eE]at h4
   obtain⟨p,n',c,z1,z2,z3⟩:=h4
   refine Zpm hE dN hF hY n id ops bA (eV.acq hY eE z1 z2) z3 (fun S' m' a' w' hk bB=>?_)
   split at hk
   ·exact hk.elim
   ·rename_i t ht
    obtain⟨hZ,eG⟩:=Zae hk
    obtain⟨zs,oh,oi⟩:=bB.unacq ht
    exact hK _ _ _ _ (eG zs oh) oi
def Zg2(fn:Func):Code:=match fn.body with
 | some c=>c
 | none=>.skip
def Env.at(E:Env)(m:Mem):Env:={ E with m0:=some m }
def FW(E:Env)(fn:Func)(svs:List SV)(xs:List Box)(m:Mem)(R:Value→Mem→List (List Value)→Prop):Prop:=
 W (E.at m) (ZaV (E.at m)) (Zg2 fn) (ZwX (E.at m) fn.results.toList m xs R) (S0 svs xs) m
def ZvZ(E:Env)(fn:Func)(svs:List SV)(xs:List Box):Bool:=
 !(fn.name == "runtime.NumGoroutine")&&fn.body.isSome&&Zas E (Zg2 fn)&&Zbd fn.ntmps (Zg2 fn)&&Zty E.frz&&E.yl.isNone&&Nat.ble svs.length fn.ntmps&&ZkI xs svs
theorem Zej{fn:Func}(h:fn.body.isSome=true):fn.body=some (Zg2 fn):=by
 unfold Zg2
 cases hb:fn.body with
 | none=>rw[hb]at h;cases h
 | some c=>rfl
theorem Za4(E:Env)(m:Mem):∀c:Code,Zas (E.at m) c=Zas E c
 | .region _ _ _=>rfl
 | .seq a b=>by simp only[Zas,Za4 E m a,Za4 E m b];rfl
 | .cond _ a b=>by simp only[Zas,Za4 E m a,Za4 E m b]
 | .block _ a=>by simp only[Zas,Za4 E m a]
 | .loop a=>by simp only[Zas,Za4 E m a];rfl
 | .rangeFunc _ _ a b=>by simp only[Zas,Za4 E m a,Za4 E m b]
 | .scope a=>by simp only[Zas,Za4 E m a]
 | .skip=>rfl
 | .label _=>rfl
 | .goto _=>rfl
 | .exit _=>rfl
 | .ret=>rfl
 | .refuse _=>rfl
theorem Zad{E:Env}(hE:E.ok)(dN:E.P.follows .mixedOrders=true){g:FuncId}{fn:Func}(hf:E.P.funcs[g]?=some fn){m:Mem}{R:Value→Mem→List (List Value)→Prop}(svs:List SV)(xs:List Box)
  (cA:ZvZ E fn svs xs=true) (h:FW E fn svs xs m R):CX E.P g (svs.map (Zod xs)).toArray m xs R:=by
 simp only[ZvZ,Bool.and_eq_true,Bool.not_eq_true']at cA
 obtain⟨⟨⟨⟨⟨⟨⟨h1,h2⟩,h3⟩,h4⟩,h5⟩,h8⟩,h6⟩,h7⟩:=cA
 exact ZtS (E:=E.at m) hE (ZjF _) (Zg1 (E:=E.at m) hE dN) hf h1 (Zej h2) (by rw[Za4];exact h3) h4 h5 (show E.yl=none by simpa using h8) (fun mm eH=>Option.some.inj eH) svs xs h6 h7 h
theorem ZaK(E:Env)(l:Nat)(xs:List (List Value)):∀c:Code,Zas (E.yields l xs) c=Zas E c
 | .region _ _ _=>rfl
 | .seq a b=>by simp only[Zas,ZaK E l xs a,ZaK E l xs b];rfl
 | .cond _ a b=>by simp only[Zas,ZaK E l xs a,ZaK E l xs b]
 | .block _ a=>by simp only[Zas,ZaK E l xs a]
 | .loop a=>by simp only[Zas,ZaK E l xs a];rfl
 | .rangeFunc _ _ a b=>by simp only[Zas,ZaK E l xs a,ZaK E l xs b]
 | .scope a=>by simp only[Zas,ZaK E l xs a]
 | .skip=>rfl
 | .label _=>rfl
 | .goto _=>rfl
 | .exit _=>rfl
 | .ret=>rfl
 | .refuse _=>rfl
def FWI(E:Env)(fn:Func)(first captured:List Value)(m:Mem)(xs:List (List Value)):Prop:=
 ∀l,W (E.yields l xs) (ZaV (E.yields l xs)) (Zg2 fn) (ZvU E fn.results.toList xs.length) (S0 ((first++.func (.yield l) #[] #[]::captured).map .v) []) m
def Zv0(E:Env)(fn:Func)(k:Nat):Bool:=
 !(fn.name == "runtime.NumGoroutine")&&fn.body.isSome&&Zas E (Zg2 fn)&&Zbd fn.ntmps (Zg2 fn)&&Nat.ble (k+1) fn.ntmps
theorem Zm8{E:Env}(hE:E.ok)(dN:E.P.follows .mixedOrders=true){g:FuncId}{fn:Func}(hf:E.P.funcs[g]?=some fn){m:Mem}(first captured:List Value)(xs:List (List Value))
  (cA:Zv0 E fn (first.length+captured.length)=true) (h:FWI E fn first captured m xs):IX E.P g first captured m xs:=by
 simp only[Zv0,Bool.and_eq_true,Bool.not_eq_true']at cA
 obtain⟨⟨⟨⟨h1,h2⟩,h3⟩,h4⟩,h5⟩:=cA
 exact ZtT (ZaV:=ZaV) hE hf h1 (Zej h2) h4 first captured xs h5 fun l=>
  ⟨ZjF _,Zg1 (E:=E.yields l xs) hE dN,by rw[ZaK];exact h3,h l⟩
end Go.Eng
set_option linter.unusedSectionVars false
namespace Go.Eng
open Go Go.RowKit
set_option maxRecDepth 100000
def Zt8:List ResultVar→Nat
 | [.tmp d]=>d
 | _=>0
def ZwS(E:Env)(rs:List ResultVar)(m0:Mem)(esz:Nat)(R:Value→Mem→List (List Value)→Prop)(S:St)(m:Mem):Prop:=
 Zu6 E S m rs fun vs=>(match S.tok (E.tokOf (Zt8 rs))with
  | none=>Zrv vs=.slice none 0 0
  | some t=>some t=some ⟨Zrv vs,esz⟩)∧R (Zrv vs) m []
def Zv1(E:Env)(rs:List ResultVar)(m0:Mem)(esz:Nat)(R:Value→Mem→List (List Value)→Prop):KT:=fun e S m=>match e with
 | .normal=>ZwS E rs m0 esz R S m
 | .ret=>ZwS E rs m0 esz R S m
 | _=>False
theorem Zsy{E:Env}(hE:E.ok){ZaV:Nat→Array Oper→(St→Mem→Prop)→St→Mem→Prop}(hD:ZdY E ZaV)(fY:Zdi E ZaV){g:FuncId}{fn:Func}{c:Code}
  (hf:E.P.funcs[g]?=some fn) (hn:(fn.name == "runtime.NumGoroutine")=false) (hb:fn.body=some c) (hc:Zas E c=true) (hl:Zbd fn.ntmps c=true) (gu:E.yl=none)
  {m:Mem} (eE:∀mm,E.m0=some mm→m=mm) {esz:Nat} {R:Value→Mem→List (List Value)→Prop} (svs:List SV) (bP:Nat.ble svs.length fn.ntmps=true) (cA:ZkI [] svs=true)
  (h:W E ZaV c (Zv1 E fn.results.toList m esz R) (S0 svs []) m):CXT E.P g (svs.map (Zod [])).toArray m esz R:=by
 refine⟨ZgF hf hn (by simp[hb]),fun w hs=>?_⟩
 have bB:=ZmP (n:=fn.ntmps) (xs:=[]) hs (fun x hx=>by cases hx) List.nodup_nil cA (Nat.le_of_ble_eq_true bP)
 refine callsIn_wide.1 (callsIn_of_wp_marks (F:=Fence.wide) (n:=0) hf hb trivial ?_)
 refine Zb4 hE hD fY c hc (.inl rfl) (YOk.none gu (fun mm eH=>⟨eE mm eH,fun g M w' hp k hk=>ZrE (fun k hk=>by cases hk) hp k hk⟩)) (fun l hl=>by cases hl) 0 hl bB h ?_
 have key:∀S' m' a' w',ZwS E fn.results.toList m esz R S' m'→Rel (Zwg fn.ntmps m w (([]:List Box).map (·.b))) S' m' a' w'→LeavesInM Fence.wide 0 E.P fn a'.tmps (fun e w'=>
   ∃v m',e=Ending.returned v∧m.le m'∧Sub m' w'∧ZgC m m' w.heap.size∧Keep w.heap.size [] w w'∧TokOk m' w' ⟨v,esz⟩∧(∀b,(Tok.mk v esz).blk=some b→w.heap.size≤b)∧R v m' []) a'.defers .returning w':=by
  intro S' m' a' w' hk hr
  obtain⟨ms,q1,_,_⟩:=hr.defers
  refine Rel.leave ?_ ms a' w' rfl q1 hr
  clear hr q1
  intro a2 w2 ht hr
  rw[←ht]
  obtain⟨vs,⟨bY,hk⟩,bL⟩:=Zd6 hE hr hk
  obtain⟨M,hd⟩:=hr.dom
  have gH:∀b o v,m' b o=some v→m b o=some v∨w.heap.size≤b:=fun b o v hv=>by
   rcases hd.new b o v hv with h6|h6
   ·exact .inl h6
   ·rcases hd.p.2 b h6 with h6|h6
    ·exact .inr h6
    ·cases h6
  split at bY
  ·refine⟨Zrv vs,Zc0 bL,Zrv vs,m',rfl,hr.le,hr.sub,gH,hd.p.1,.inl bY,fun b hb=>?_,hk⟩
   rw[bY]at hb;simp[Tok.blk]at hb
  ·rename_i t ht
   cases bY
   refine⟨Zrv vs,Zc0 bL,Zrv vs,m',rfl,hr.le,hr.sub,gH,hd.p.1,(hr.toks _ _ ht).1,fun b hb=>?_,hk⟩
   rcases hd.p.2 b (hd.tok _ _ _ ht hb)with h6|h6
   ·exact h6
   ·cases h6
 intro e S' m' a' w' hk hr
 cases e with
 | normal=>exact key S' m' a' w' hk hr
 | ret=>exact key S' m' a' w' hk hr
 | exit _=>exact hk.elim
 | goto _=>exact hk.elim
 | panic _=>exact hk.elim
 | outgrown=>exact hk.elim
def FWT(E:Env)(fn:Func)(svs:List SV)(m:Mem)(esz:Nat)(R:Value→Mem→List (List Value)→Prop):Prop:=
 W (E.at m) (ZaV (E.at m)) (Zg2 fn) (Zv1 (E.at m) fn.results.toList m esz R) (S0 svs []) m
theorem Zoo{E:Env}(hE:E.ok)(dN:E.P.follows .mixedOrders=true){g:FuncId}{fn:Func}(hf:E.P.funcs[g]?=some fn){m:Mem}{esz:Nat}{R:Value→Mem→List (List Value)→Prop}(svs:List SV)
  (cA:ZvZ E fn svs []=true) (h:FWT E fn svs m esz R):CXT E.P g (svs.map (Zod [])).toArray m esz R:=by
 simp only[ZvZ,Bool.and_eq_true,Bool.not_eq_true']at cA
 obtain⟨⟨⟨⟨⟨⟨⟨h1,h2⟩,h3⟩,h4⟩,h5⟩,h8⟩,h6⟩,h7⟩:=cA
 exact Zsy (E:=E.at m) hE (ZjF _) (Zg1 (E:=E.at m) hE dN) hf h1 (Zej h2) (by rw[Za4];exact h3) h4 (show E.yl=none by simpa using h8) (fun mm eH=>Option.some.inj eH) svs h6 h7 h
theorem CXT.toCX{P:Program}{g:FuncId}{args:Array Value}{m:Mem}{esz:Nat}{R:Value→Mem→List (List Value)→Prop}(h:CXT P g args m esz R):CX P g args m [] R:=
 ⟨h.1,fun w h1 _ _=>(h.2 w h1).mono fun _ _ ⟨v,m',a1,a2,a3,a4,a5,_,_,a8⟩=>⟨v,m',[],a1,a2,a3,a4,a5,rfl,fun i x cs hi=>by simp at hi,a8⟩⟩
theorem CXT.mono{P:Program}{g:FuncId}{args:Array Value}{m:Mem}{esz:Nat}{R R':Value→Mem→List (List Value)→Prop}(h:CXT P g args m esz R)(k:∀v m' css,m.le m'→R v m' css→R' v m' css):CXT P g args m esz R':=
 ⟨h.1,fun w h1=>(h.2 w h1).mono fun _ _ ⟨v,m',a1,a2,a3,a4,a5,a6,a7,a8⟩=>⟨v,m',a1,a2,a3,a4,a5,a6,a7,k _ _ _ a2 a8⟩⟩
def Zvp(m m':Mem)(esz:Nat)(v:Value):Prop:=v=.slice none 0 0∨∃b o n c,v=.slice (some ⟨b,o,none⟩) n c∧n≤c∧m.free b∧∀q,n*esz≤q→q < c*esz→∃u,m' b (o+q)=some u
theorem CXT.room{P:Program}{g:FuncId}{args:Array Value}{m:Mem}{esz:Nat}{R:Value→Mem→List (List Value)→Prop}(h:CXT P g args m esz R):CX P g args m [] (fun v m' _=>∃m1:Mem,m.le m1∧m1.le m'∧R v m1 []∧Zvp m m' esz v):=by
 refine⟨h.1,fun w h1 _ _=>(h.2 w h1).mono ?_⟩
 rintro e w' ⟨v,m',a1,a2,a3,a4,a5,a6,a7,a8⟩
 rcases a6 with h6|⟨b,o0,n,c,cur,T,fr,hv,gE,hh,bW,_,cL⟩
 ·exact⟨v,m',[],a1,a2,a3,a4,a5,rfl,fun i x cs hi=>by simp at hi,m',a2,Mem.le_refl _,a8,.inl h6⟩
 ·have hv:v=.slice (some ⟨b,o0,none⟩) n c:=hv
  have hb:w.heap.size≤b:=a7 b (by simp[Tok.blk,hv])
  have bR:m.free b:=fun o=>by
   cases he:m b o with
   | none=>rfl
   | some u=>have:=h1.lt he;omega
  have qW:c*esz=n*esz+(c - n)*esz:=by rw[←Nat.add_mul];congr 1;omega
  have cL:∀o,o0+n*esz≤o→o < o0+c*esz→m' b o=none:=cL
  have bW:o0+c*esz≤cur.size:=bW
  obtain⟨P0,lC⟩:∃P0,P0=o0+n*esz:=⟨_,rfl⟩
  obtain⟨zs,ld⟩:∃zs,zs=(cur.toList.drop P0).take ((c - n)*esz):=⟨_,rfl⟩
  have gF:zs.length=(c - n)*esz:=by rw[ld];simp;omega
  have og:∀q v,zs[q]?=some v→cur[P0+q]?=some v:=fun q v hq=>by
   rw[ld,List.getElem?_take]at hq
   split at hq
   ·rw[List.getElem?_drop]at hq;simpa using hq
   ·cases hq
  have cI:m'.le (m'.addAt b P0 zs):=fun b' o v hv'=>by
   simp only[Mem.addAt]
   split
   ·rename_i hc
    obtain⟨rfl,ho⟩:=hc
    cases hz:zs[o - P0]? with
    | none=>simp only[hz];exact hv'
    | some u=>
     have hq:=(List.getElem?_eq_some_iff.1 hz).1
     rw[cL o (by omega) (by omega)]at hv';cases hv'
   ·exact hv'
  have cQ:∀b' o u,m'.addAt b P0 zs b' o=some u→m' b' o=some u∨(b'=b∧w'.cell? ⟨b',o,none⟩=some u):=fun b' o u hu=>by
   simp only[Mem.addAt]at hu
   split at hu
   ·rename_i hc
    obtain⟨rfl,ho⟩:=hc
    cases hz:zs[o - P0]? with
    | none=>simp only[hz]at hu;exact .inl hu
    | some x=>
     simp only[hz]at hu;cases hu
     have:=og _ _ hz
     rw[show P0+(o - P0)=o by omega]at this
     refine .inr ⟨rfl,?_⟩
     simp only[World.cell?,hh]
     simpa using this
   ·exact .inl hu
  refine⟨v,m'.addAt b P0 zs,[],a1,Mem.le_trans a2 cI,fun b' o u hu=>(cQ b' o u hu).elim (a3 b' o u) (·.2),fun b' o u hu=>(cQ b' o u hu).elim (a4 b' o u) (fun h=>.inr (h.1 ▸ hb)),a5,rfl,fun i x cs hi=>by simp at hi,m',a2,cI,a8,.inr ⟨b,o0,n,c,hv,gE,bR,fun q il k7=>?_⟩⟩
  have bA:o0+q - P0 < zs.length:=by omega
  refine⟨zs[o0+q - P0],?_⟩
  simp only[Mem.addAt]
  rw[if_pos ⟨trivial,by omega⟩,List.getElem?_eq_getElem bA]
end Go.Eng
namespace Go.Eng
open Go Go.RowKit
set_option maxRecDepth 100000
def Zlx:List Nat→List Tok→Nat→Option Tok
 | k::ks,t::ts=>fun i=>bif Nat.beq i k then some t else Zlx ks ts i
 | _,_=>fun _=>none
theorem Zi5:∀{ks:List Nat} {ts:List Tok} {i:Nat} {t:Tok},Zlx ks ts i=some t→∃q:Nat,ks[q]?=some i∧ts[q]?=some t
 | [],ts,i,t,h=>by simp[Zlx]at h
 | k::ks,[],i,t,h=>by simp[Zlx]at h
 | k::ks,t0::ts,i,t,h=>by
  by_cases hi:i=k
  ·subst hi;simp[Zlx]at h;subst h;exact⟨0,rfl,rfl⟩
  ·simp only[Zlx,Zam hi,cond_false]at h
   obtain⟨q,h1,h2⟩:=Zi5 h
   exact⟨q+1,by simpa using h1,by simpa using h2⟩
def S0Y(svs:List SV)(xs:List Box)(ks:List Nat)(ts:List Tok):St:={ S0 svs xs with tok:=Zlx ks ts,tkeys:=ks }
def ZjK(S:St):List Nat→List Tok→(List Value→Prop)→Prop
 | k::ks,t::ts,r=>match S.tok k with
  | none=>False
  | some t'=>chk (Nat.beq t'.esz t.esz) (ZjK S ks ts fun tvs=>r (t'.v::tvs))
 | [],[],r=>r []
 | _,_,_=>False
theorem Ze2{S:St}:∀{ks:List Nat} {ts:List Tok} {r:List Value→Prop},ZjK S ks ts r→∃tvs,tvs.length=ts.length∧ks.length=ts.length∧(∀(i:Nat)(t:Tok)(tv:Value),ts[i]?=some t→tvs[i]?=some tv→∃k:Nat,ks[i]?=some k∧S.tok k=some ⟨tv,t.esz⟩)∧r tvs
 | [],[],r,h=>⟨[],rfl,rfl,fun i t tv h=>by simp at h,h⟩
 | [],_::_,r,h=>h.elim
 | _::_,[],r,h=>h.elim
 | k::ks,t::ts,r,h=>by
  unfold ZjK at h
  cases ht:S.tok k with
  | none=>simp[ht]at h
  | some t'=>
   simp only[ht]at h
   obtain⟨h1,h2⟩:=Zae h
   have he:=Nat.eq_of_beq_eq_true h1
   obtain⟨tvs,g1,g2,g3,g4⟩:=Ze2 h2
   refine⟨t'.v::tvs,by simp[g1],by simp[g2],fun i t0 tv hi hv=>?_,g4⟩
   cases i with
   | zero=>
    simp at hi hv;subst hi hv
    exact⟨k,rfl,by rw[ht,←he]⟩
   | succ i=>simpa using g3 i t0 tv (by simpa using hi) (by simpa using hv)
def Zvd(E:Env)(rs:List ResultVar)(xs:List Box)(ks:List Nat)(ts:List Tok)(R:Value→Mem→List (List Value)→List Value→Prop)(S:St)(m:Mem):Prop:=
 Zu6 E S m rs fun vs=>Ztx S 0 xs fun css=>ZjK S ks ts fun tvs=>R (Zrv vs) (Zry S E.frz m) css tvs
def Zv2(E:Env)(rs:List ResultVar)(xs:List Box)(ks:List Nat)(ts:List Tok)(R:Value→Mem→List (List Value)→List Value→Prop):KT:=fun e S m=>match e with
 | .normal=>Zvd E rs xs ks ts R S m
 | .ret=>Zvd E rs xs ks ts R S m
 | _=>False
def Zve(n:Nat)(m:Mem)(w:World)(B:Nat→Prop):Ctx where
 n:=n
 m0:=m
 p:=fun _ M w'=>Upd B w w'∧∀k,M k→w.heap.size≤k∨B k
 st:=by
  rintro g M M' w1 w2 ⟨h1,h2⟩ hu hg
  refine⟨⟨hu.os.trans h1.os,hu.tape.trans h1.tape,hu.output.trans h1.output,Nat.le_trans h1.size hu.size,fun k hk hn=>?_,fun k hk=>hu.wr k (h1.wr k hk)⟩,fun k hk=>?_⟩
  ·rw[hu.block k (Nat.lt_of_lt_of_le hk h1.size) fun hm=>?_,h1.block k hk hn]
   rcases h2 k hm with h|h
   ·omega
   ·exact hn h
  ·rcases hg k hk with h|h
   ·exact h2 k h
   ·have:=h1.size;exact .inl (by omega)
theorem Zop{n:Nat}{w:World}{m:Mem}{Y:Nat→Prop}{xs:List Box}{svs:List SV}{ks:List Nat}{ts:List Tok}(hs:Sub m w)(hx:∀x∈xs,Own m w x∧x.fz=false∧¬Y x.b)(dQ:(xs.map (·.b)).Nodup)(cA:ZkI xs svs=true)(hn:svs.length≤n)
  (ht:∀t∈ts,TokOk m w t∧∀b,t.blk=some b→Y b) (jL:Ztt ts) (hY:∀b,Y b→b < w.heap.size∧Wr w b):
  Rel (Zve n (m.off Y) w (fun k=>k∈xs.map (·.b)∨Y k)) (S0Y svs xs ks ts) m { tmps:=(svs.map (Zod xs)).toArray++Array.replicate (n - (svs.map (Zod xs)).toArray.size) undef,defers:=[] } w:=by
 have hL:∀id x,(S0Y svs xs ks ts).L id=some x→100000≤id∧xs[id - 100000]?=some x:=fun id x h=>by
  simp only[S0Y,S0]at h
  cases hb:Nat.ble 100000 id with
  | false=>simp[hb]at h
  | true=>simp only[hb,cond_true]at h;exact⟨Nat.le_of_ble_eq_true hb,h⟩
 have hT:∀k t,(S0Y svs xs ks ts).tok k=some t→∃q:Nat,ks[q]?=some k∧ts[q]?=some t:=fun k t h=>Zi5 h
 refine⟨⟨[],rfl,List.nodup_nil,by simp⟩,by simp[Zve];omega,?_,?_,?_,?_,?_,?_,?_,hs,Mem.off_le m Y,⟨fun k=>k∈xs.map (·.b)∨Y k,⟨Upd.refl _ _,fun k hk=>.inr hk⟩,fun k hk=>?_,fun id x hx=>?_,fun k t b h1 h2=>?_,by simp,fun b o v hv=>?_⟩⟩
 ·intro i sv he
  simp only[S0Y,S0]at he
  have bA:=(List.getElem?_eq_some_iff.1 he).1
  have h1:=ZhQ cA i sv he
  refine⟨Zod xs sv,?_,?_⟩
  ·cases sv with
   | v x=>rfl
   | loc id off=>
    simp only[Zvm,Bool.and_eq_true]at h1
    have h2:id - 100000 < xs.length:=Zlv h1.2
    simp[St.den,S0Y,S0,Zod,h1.1,List.getElem?_eq_getElem h2]
   | sl id n c=>
    simp only[Zvm,Bool.and_eq_true]at h1
    have h2:id - 100000 < xs.length:=Zlv h1.2
    simp[St.den,S0Y,S0,Zod,h1.1,List.getElem?_eq_getElem h2]
  ·rw[Array.getElem?_append_left (by simpa using bA)]
   simp[he]
 ·intro id x hx'
  exact(hx x (List.mem_of_getElem? (hL id x hx').2)).1
 ·intro id id' x x' h1 h2 hb
  obtain⟨g1,g2⟩:=hL _ _ h1
  obtain⟨g3,g4⟩:=hL _ _ h2
  have hi:=(List.getElem?_eq_some_iff.1 g2).1
  have:=(List.getElem?_inj (l:=xs.map (·.b)) (i:=id - 100000) (j:=id' - 100000) (by simpa using hi) dQ).1 (by simp[g2,g4,hb])
  omega
 ·intro id x h1
  obtain⟨g1,g2⟩:=hL _ _ h1
  have hi:=(List.getElem?_eq_some_iff.1 g2).1
  simp only[S0Y,S0,List.mem_map,List.mem_range,bid]
  exact⟨id - 100000,hi,by omega⟩
 ·intro k t h1
  obtain⟨q,_,h2⟩:=hT k t h1
  obtain⟨g1,g2⟩:=ht t (List.mem_of_getElem? h2)
  exact⟨g1,fun b hb=>⟨fun id x oH e=>(hx x (List.mem_of_getElem? (hL id x oH).2)).2.2 (e ▸ g2 b hb),Mem.off_free (g2 b hb)⟩⟩
 ·intro k t h1
  obtain⟨q,h2,_⟩:=hT k t h1
  exact List.mem_of_getElem? h2
 ·intro k k' t t' b h1 h2 h3 h4
  obtain⟨q,g1,g2⟩:=hT k t h1
  obtain⟨q',g3,g4⟩:=hT k' t' h2
  have:=jL q q' t t' b g2 g4 h3 h4
  subst this
  rw[g1]at g3;exact Option.some.inj g3
 ·rcases hk with hk|hk
  ·obtain⟨x,h1,h2⟩:=List.mem_map.1 hk
   exact h2 ▸ (hx x h1).1.lt
  ·exact(hY k hk).1
 ·exact .inl (List.mem_map.2 ⟨x,List.mem_of_getElem? (hL id x hx).2,rfl⟩)
 ·obtain⟨q,_,g2⟩:=hT k t h1
  exact .inr ((ht t (List.mem_of_getElem? g2)).2 b h2)
 ·by_cases fM:Y b
  ·exact .inr (.inr fM)
  ·exact .inl (by show m.off Y b o=some v;rw[Mem.off_at fM];exact hv)
theorem TokOk.sl{m:Mem}{w:World}{t:Tok}(h:TokOk m w t):ZbJ t.v=true:=by
 rcases h with h|⟨b,o0,n,c,_,_,_,h,_⟩
 ·rw[h];rfl
 ·rw[h];rfl
theorem Zsz{E:Env}(hE:E.ok){ZaV:Nat→Array Oper→(St→Mem→Prop)→St→Mem→Prop}(hD:ZdY E ZaV)(fY:Zdi E ZaV){g:FuncId}{fn:Func}{c:Code}
  (hf:E.P.funcs[g]?=some fn) (hn:(fn.name == "runtime.NumGoroutine")=false) (hb:fn.body=some c) (hc:Zas E c=true) (hl:Zbd fn.ntmps c=true) (hz:Zty E.frz=true) (gu:E.yl=none)
  {m:Mem} {Y:Nat→Prop} (eE:∀mm,E.m0=some mm→m.off Y=mm) {R:Value→Mem→List (List Value)→List Value→Prop} (svs:List SV) (xs:List Box) (ks:List Nat) (ts:List Tok) (jn:Za0 ks=true) (bP:Nat.ble svs.length fn.ntmps=true) (cA:ZkI xs svs=true)
  (h:W E ZaV c (Zv2 E fn.results.toList xs ks ts R) (S0Y svs xs ks ts) m):CXY E.P g (svs.map (Zod xs)).toArray m Y xs ts R:=by
 refine⟨ZgF hf hn (by simp[hb]),fun w hs hx dQ ht jL hY=>?_⟩
 have bB:=Zop (n:=fn.ntmps) (ks:=ks) hs hx dQ cA (Nat.le_of_ble_eq_true bP) ht jL hY
 refine callsIn_wide.1 (callsIn_of_wp_marks (F:=Fence.wide) (n:=0) hf hb trivial ?_)
 refine Zb4 hE hD fY c hc (.inl rfl) (YOk.none gu (fun mm eH=>⟨eE mm eH,fun g M w' hp k hk=>?_⟩)) (fun l hl=>by cases hl) 0 hl bB h ?_
 ·rcases hp.2 k hk with h1|h1|h1
  ·exact hp.1.wr k (Wr.of_none h1)
  ·obtain⟨x,h2,rfl⟩:=List.mem_map.1 h1
   exact hp.1.wr _ (hx x h2).1.wr
  ·exact hp.1.wr k (hY k h1).2
 have key:∀S' m' a' w',Zvd E fn.results.toList xs ks ts R S' m'→Rel (Zve fn.ntmps (m.off Y) w (fun k=>k∈xs.map (·.b)∨Y k)) S' m' a' w'→LeavesInM Fence.wide 0 E.P fn a'.tmps (fun e w'=>
   ∃v m' css tvs,e=.returned v∧(m.off Y).le m'∧Sub m' w'∧(∀b o u,m' b o=some u→m b o=some u∨Y b∨w.heap.size≤b)∧Upd (fun k=>k∈xs.map (·.b)∨Y k) w w'∧
   css.length=xs.length∧(∀(i:Nat)(x:Box)(cs:List Value),xs[i]?=some x→css[i]?=some cs→Own m' w' { x with cs:=cs })∧
   tvs.length=ts.length∧(∀(i:Nat)(t:Tok)(tv:Value),ts[i]?=some t→tvs[i]?=some tv→ZbJ tv=true∧TokOk m' w' ⟨tv,t.esz⟩∧∀b,(Tok.mk tv t.esz).blk=some b→(Y b∨w.heap.size≤b)∧b ∉ xs.map (·.b))∧
   Ztt ((ts.zip tvs).map fun q=>⟨q.2,q.1.esz⟩)∧R v m' css tvs) a'.defers .returning w':=by
  intro S' m' a' w' hk hr
  obtain⟨ms,q1,_,_⟩:=hr.defers
  refine Rel.leave ?_ ms a' w' rfl q1 hr
  clear hr q1
  intro a2 w2 rD hr
  rw[←rD]
  obtain⟨vs,hk,bL⟩:=Zd6 hE hr hk
  obtain⟨css,h1,h2,hk⟩:=Zf4 hk
  obtain⟨tvs,k1,k2,k3,h5⟩:=Ze2 hk
  obtain⟨M,hd⟩:=hr.dom
  simp only[Zty,Bool.and_eq_true]at hz
  have oG:=ZaC hz.1
  have jf:=ZaC jn
  obtain⟨f1,f2,f3⟩:=Zo7 hr oG
  have frzlt:∀id∈E.frz,id < 100000:=fun id cK=>Zlv (List.all_eq_true.1 hz.2 id cK)
  have boxOf:∀b,b∈xs.map (·.b)→∃(i:Nat)(x:Box)(cs:List Value),xs[i]?=some x∧x.b=b∧S'.L (bid i)=some { x with cs:=cs }:=fun b hb=>by
   obtain⟨y,hy,fM⟩:=List.mem_map.1 hb
   obtain⟨i,hi⟩:=List.getElem?_of_mem hy
   obtain⟨cs,_,ie⟩:=h2 i y hi
   exact⟨i,y,cs,hi,fM,by rw[Nat.zero_add]at ie;exact ie⟩
  have tokY:∀(i:Nat)(t:Tok)(tv:Value),ts[i]?=some t→tvs[i]?=some tv→∃k:Nat,ks[i]?=some k∧S'.tok k=some ⟨tv,t.esz⟩:=k3
  have frzNb:∀id∈E.frz,∀x,S'.L id=some x→x.b ∉ xs.map (·.b):=fun id cK x eO hm=>by
   obtain⟨i,y,cs,_,fM,ie⟩:=boxOf _ hm
   have:=hr.apart _ _ _ _ eO ie fM.symm
   have:=frzlt id cK
   simp only[bid]at *
   omega
  refine⟨Zrv vs,Zc0 bL,Zrv vs,Zry S' E.frz m',css,tvs,rfl,Mem.le_trans hr.le f1,f2,?_,hd.p.1,h1,?_,k1,?_,?_,h5⟩
  ·intro b o u hu
   have inM:M b→m b o=some u∨Y b∨w.heap.size≤b∨b∈xs.map (·.b):=fun hm=>by
    rcases hd.p.2 b hm with h|h|h
    ·exact .inr (.inr (.inl h))
    ·exact .inr (.inr (.inr h))
    ·exact .inr (.inl h)
   rcases f3 b o u hu with hv|⟨id,cK,x,eO,gt⟩
   ·rcases hd.new b o u hv with h6|h6
    ·exact .inl (Mem.off_le m Y b o u h6)
    ·rcases inM h6 with h|h|h|h
     ·exact .inl h
     ·exact .inr (.inl h)
     ·exact .inr (.inr h)
     ·exfalso
      obtain⟨i,y,cs,hi,fM,ie⟩:=boxOf b h
      have:=(hr.own _ _ ie).free (hx y (List.mem_of_getElem? hi)).2.1 o
      simp only[fM]at this
      rw[this]at hv;cases hv
   ·subst gt
    rcases inM (hd.own id x eO)with h|h|h|h
    ·exact .inl h
    ·exact .inr (.inl h)
    ·exact .inr (.inr h)
    ·exact(frzNb id cK x eO h).elim
  ·intro i x cs hi cS
   obtain⟨cs',h6,h7⟩:=h2 i x hi
   rw[cS]at h6;cases h6
   have ho:=hr.own _ _ h7
   have lQ:=(hx x (List.mem_of_getElem? hi)).2.1
   refine⟨ho.cells,fun _ o=>?_,fun hz'=>by simp[lQ]at hz',ho.whole⟩
   show Zry S' E.frz m' x.b o=none
   rw[Zd7 S' m' (fun id cK y hy e=>frzNb id cK y hy (e ▸ List.mem_map.2 ⟨x,List.mem_of_getElem? hi,rfl⟩))]
   exact ho.free lQ o
  ·intro i t tv hi hv
   obtain⟨k,g1,g2⟩:=tokY i t tv hi hv
   obtain⟨g3,g4⟩:=hr.toks k _ g2
   refine⟨g3.sl,g3.same (fun _ _=>rfl) (fun b o hb hn=>?_),fun b hb=>⟨?_,fun hm=>?_⟩⟩
   ·rw[Zd7 S' m' (fun id _ y hy e=>(g4 b hb).1 id y hy e)];exact hn
   ·rcases hd.p.2 b (hd.tok _ _ _ g2 hb)with h|h|h
    ·exact .inr h
    ·obtain⟨i,y,cs,_,fM,ie⟩:=boxOf b h
     exact((g4 b hb).1 _ _ ie fM).elim
    ·exact .inl h
   ·obtain⟨i,y,cs,_,fM,ie⟩:=boxOf b hm
    exact(g4 b hb).1 _ _ ie fM
  ·intro i j t t' b hi hj eL dO
   rw[List.getElem?_map]at hi hj
   obtain⟨⟨t0,tv⟩,gI,rfl⟩:=Option.map_eq_some_iff.1 hi
   obtain⟨⟨t0',tv'⟩,rE,rfl⟩:=Option.map_eq_some_iff.1 hj
   obtain⟨a1,a2⟩:=List.getElem?_zip_eq_some.1 gI
   obtain⟨a3,a4⟩:=List.getElem?_zip_eq_some.1 rE
   obtain⟨k,g1,g2⟩:=tokY i t0 tv a1 a2
   obtain⟨k',g3,g4⟩:=tokY j t0' tv' a3 a4
   have:=hr.tapart k k' _ _ b g2 g4 eL dO
   subst this
   have hi':=(List.getElem?_eq_some_iff.1 g1).1
   exact(List.getElem?_inj (l:=ks) (i:=i) (j:=j) hi' jf).1 (by rw[g1,g3])
 intro e S' m' a' w' hk hr
 cases e with
 | normal=>exact key S' m' a' w' hk hr
 | ret=>exact key S' m' a' w' hk hr
 | exit _=>exact hk.elim
 | goto _=>exact hk.elim
 | panic _=>exact hk.elim
 | outgrown=>exact hk.elim
def FWY(E:Env)(fn:Func)(svs:List SV)(xs:List Box)(ks:List Nat)(ts:List Tok)(m:Mem)(Y:Nat→Prop)(R:Value→Mem→List (List Value)→List Value→Prop):Prop:=
 W (E.at (m.off Y)) (ZaV (E.at (m.off Y))) (Zg2 fn) (Zv2 (E.at (m.off Y)) fn.results.toList xs ks ts R) (S0Y svs xs ks ts) m
theorem Zoq{E:Env}(hE:E.ok)(dN:E.P.follows .mixedOrders=true){g:FuncId}{fn:Func}(hf:E.P.funcs[g]?=some fn){m:Mem}{Y:Nat→Prop}{R:Value→Mem→List (List Value)→List Value→Prop}(svs:List SV)(xs:List Box)(ks:List Nat)(ts:List Tok)(jn:Za0 ks=true)
  (cA:ZvZ E fn svs xs=true) (h:FWY E fn svs xs ks ts m Y R):CXY E.P g (svs.map (Zod xs)).toArray m Y xs ts R:=by
 simp only[ZvZ,Bool.and_eq_true,Bool.not_eq_true']at cA
 obtain⟨⟨⟨⟨⟨⟨⟨h1,h2⟩,h3⟩,h4⟩,h5⟩,h8⟩,h6⟩,h7⟩:=cA
 exact Zsz (E:=E.at (m.off Y)) hE (ZjF _) (Zg1 (E:=E.at (m.off Y)) hE dN) hf h1 (Zej h2) (by rw[Za4];exact h3) h4 h5 (show E.yl=none by simpa using h8) (fun mm eH=>Option.some.inj eH) svs xs ks ts jn h6 h7 h
theorem CXY.mono{P:Program}{g:FuncId}{args:Array Value}{m:Mem}{Y:Nat→Prop}{X:List Box}{ts:List Tok}{R R':Value→Mem→List (List Value)→List Value→Prop}(h:CXY P g args m Y X ts R)(k:∀v m' css tvs,(m.off Y).le m'→R v m' css tvs→R' v m' css tvs):CXY P g args m Y X ts R':=
 ⟨h.1,fun w h1 h2 h3 h4 h5 h6=>(h.2 w h1 h2 h3 h4 h5 h6).mono fun _ _ ⟨v,m',css,tvs,a1,a2,a3,a4,a5,a6,a7,a8,a9,a10,a11⟩=>⟨v,m',css,tvs,a1,a2,a3,a4,a5,a6,a7,a8,a9,a10,k _ _ _ _ a2 a11⟩⟩
end Go.Eng
namespace Go.Eng
open Go Go.RowKit
def zok(i:TI):Bool:=Nat.beq i.zero.cells.size i.size&&Zca i.zero.cells.toList&&(i.agg||Nat.beq i.size 1)
structure TRow (P:Program)(t:TypeId)(i:TI):Prop where
 und:P.underlying t=some i.d
 info:(P.info? t).map (fun x=>(x.size,x.zero,x.bytes))=some (i.size,some i.zero,i.bytes)
 ok:zok i=true
theorem TRow.tok{P:Program}{t:TypeId}{i:TI}(h:TRow P t i):TOk P t i:=by
 have hz:=h.ok
 simp only[zok,Bool.and_eq_true,Bool.or_eq_true]at hz
 refine⟨h.und,?_,Nat.eq_of_beq_eq_true hz.1.1,Zfr hz.1.2,fun ha=>?_⟩
 ·obtain⟨x,hx,e⟩:=Option.map_eq_some_iff.1 h.info
  simp only[Prod.mk.injEq]at e
  exact⟨x,hx,e.1,e.2.1,e.2.2⟩
 ·rcases hz.2 with h1|h1
  ·rw[ha]at h1;cases h1
  ·exact Nat.eq_of_beq_eq_true h1
def ZtA:List (Nat×TI)→Nat→Option TI
 | [],_=>none
 | q::l,t=>bif Nat.beq t q.1 then some q.2 else ZtA l t
def Zvf(P:Program):List (Nat×TI)→Prop
 | []=>True
 | q::l=>TRow P q.1 q.2∧Zvf P l
theorem Zpn{P:Program}:∀{l:List (Nat×TI)},Zvf P l→∀t i,ZtA l t=some i→TOk P t i
 | [],_,t,i,h=>by simp[ZtA]at h
 | q::l,hl,t,i,h=>by
  simp only[ZtA]at h
  cases hb:Nat.beq t q.1 with
  | true=>
   simp only[hb,cond_true,Option.some.injEq]at h
   rw[Nat.eq_of_beq_eq_true hb,←h];exact hl.1.tok
  | false=>simp only[hb,cond_false]at h;exact Zpn hl.2 t i h
abbrev ZjL(l:List (Option Box)):Prop:=l=l
end Go.Eng
namespace Go.Eng
open Go Go.RowKit
abbrev Ret(u:Value):Value→Mem→List (List Value)→Prop:=fun v _ _=>v=u
theorem Zac{m m':Mem}{R:Value→Mem→List (List Value)→Prop}{v:Value}(h:m.le m')(k:R v m []):∃m'':Mem,m.le m''∧m''.le m'∧R v m'' []:=⟨m,Mem.le_refl m,h,k⟩
theorem ZrJ{m m':Mem}{R:Value→Mem→List (List Value)→Prop}{v:Value}(h:m.le m')(k:R v m' []):∃m'':Mem,m.le m''∧m''.le m'∧R v m'' []:=⟨m',h,Mem.le_refl _,k⟩
section
variable {P:Program} {g:FuncId} {args:Array Value} {m:Mem}
theorem Zah{K:Bool→Mem→Prop}{x:Bool}(h:CX P g args m [] (Ret (.bool x)))(k:∀m',m.le m'→K x m'):
  ∃R:Value→Mem→List (List Value)→Prop,True∧CX P g args m [] R∧(∀(v:Value)(m':Mem) (css:List (List Value)),R v m' css→Shape.fits .bool v=true)∧∀(b:Bool)(m':Mem),m.le m'→R (.bool b) m' []→K b m':=
 ⟨_,trivial,h,fun v _ _ e=>by rw[e];rfl,fun b m' hm e=>by cases e;exact k m' hm⟩
theorem ZaB{kk:IntKind}{K:Int→Mem→Prop}{x:Int}(h:CX P g args m [] (Ret (.int kk x)))(k:∀m',m.le m'→K x m'):
  ∃R:Value→Mem→List (List Value)→Prop,True∧CX P g args m [] R∧(∀(v:Value)(m':Mem) (css:List (List Value)),R v m' css→Shape.fits (.int kk) v=true)∧∀(b:Int)(m':Mem),m.le m'→R (.int kk b) m' []→K b m':=
 ⟨_,trivial,h,fun v _ _ e=>by rw[e];simp[Shape.fits],fun b m' hm e=>by cases e;exact k m' hm⟩
theorem Zaj{s:Shape}{R:Value→Mem→List (List Value)→Prop}{Q:(Value→Mem→List (List Value)→Prop)→Prop}(h:CX P g args m [] R)(hs:∀(v:Value)(m':Mem) (css:List (List Value)),R v m' css→s.fits v=true)(k:Q R):
  ∃R:Value→Mem→List (List Value)→Prop,True∧CX P g args m [] R∧(∀(v:Value)(m':Mem) (css:List (List Value)),R v m' css→s.fits v=true)∧Q R:=⟨R,trivial,h,hs,k⟩
end
theorem ZqE{b:Bool}{p q:Prop}:br b p q↔(if b=true then p else q):=by cases b <;> simp[br]
theorem ZjM{b x:Bool}{p q:Prop}(h:b=x)(k:bif x then p else q):br b p q:=by subst h;cases b <;> exact k
theorem Zan{n:Int}(h1 : -9223372036854775808≤n)(h2:n≤9223372036854775807):IntKind.i64.wrap n=n:=by
 unfold IntKind.wrap
 simp only[IntKind.bits,IntKind.signed,Bool.true_and]
 have e:(2:Int) ^ 64=18446744073709551616:=by decide
 have e':(2:Int) ^ (64 - 1)=9223372036854775808:=by decide
 simp only[e,e']
 split
 ·rename_i h
  have:=of_decide_eq_true h
  omega
 ·rename_i h
  have:¬(n % 18446744073709551616 ≥ 9223372036854775808):=fun hh=>h (decide_eq_true hh)
  omega
theorem ZhV{f f':Nat}{a b a' b':List Value}(h:Value.func (.func f) a.toArray b.toArray=.func (.func f') a'.toArray b'.toArray):f=f'∧a=a'∧b=b':=by
 simpa using h
theorem Zpo{k:IntKind}{a b:Int}(h:[Value.int k a]=[Value.int k b]):a=b:=by simpa using h
theorem ZaH{a b:Bool}(h:a=b):[Value.bool a]=[Value.bool b]:=by rw[h]
end Go.Eng
namespace Go.Eng
open Go Go.RowKit Go.ChangeShapes Go.WideShapes
def ZrK(W:World):Mem:=fun b o=>W.cell? ⟨b,o,none⟩
theorem Zf8{H:Type}{enc:TypeId×Value→H}{P:Program}(hl:laidOutB P=true){W W':World}{sp:Nat→Bool}:∀{ts:List TypeId} {vs:List Value} {ds:List (DataW H)} {ps:List MemPlace},(∀t∈ts,P.readableRec t=true∧t < P.types.size)→DataW.TrodAll enc P W 0 (fun _=>true) true ts vs ds ps→(∀p∈ps,W.sameAt W' p)→(∀p∈ps,sp p.block=true)→DataW.TrodAll enc P W' 0 sp true ts vs ds ps
 | [],[],[],ps,_,h,_,_=>h
 | t::ts,v::vs,d::ds,ps,ht,h,hs,qc=>by
  obtain⟨p,q,h1,h2,rfl⟩:=h
  exact⟨p,q,WideElems.Trod_stays hl (ht t (by simp)).1 (ht t (by simp)).2 h1 (fun x hx=>hs x (by simp[hx])) (fun x hx=>qc x (by simp[hx])),Zf8 hl (fun t' h'=>ht t' (by simp[h'])) h2 (fun x hx=>hs x (by simp[hx])) (fun x hx=>qc x (by simp[hx])),rfl⟩
 | [],[],_::_,_,_,h,_,_=>h.elim
 | [],_::_,_,_,_,h,_,_=>by simp[DataW.TrodAll]at h
 | _::_,[],_,_,_,h,_,_=>by simp[DataW.TrodAll]at h
 | _::_,_::_,[],_,_,h,_,_=>h.elim
theorem ZqF{H:Type}{enc:TypeId×Value→H}{P:Program}{g:FuncId}{f:Func}{s:ChangeSpec}{W:World}{args:Array Value}{ds gs:List (DataW H)}{before:List MemPlace}{tb:TypeId}(hl:laidOutB P=true)
  (ku:∀t∈f.params.toList,P.readableRec t=true∧t < P.types.size) (hW:DataW.Whole enc P f.params.toList s.vars false W args.toList ds gs before) (hv:s.vars=[])
  (hr:(s.fn H (ds++gs)).results=[.lit (.bool true)]) (ha:(s.fn H (ds++gs)).args=ds) (hw:(s.fn H (ds++gs)).vars=[]) (jo:f.resultTypes=#[tb]) (rF:P.underlying tb=some .bool)
  (eK:CX P g args (ZrK W) [] (Ret (.bool true))):
  Calls P g args W fun e W'=>∃v,e=.returned v∧s.post enc P f false true false false W args v W':=by
 refine(eK.2 W (fun _ _ _ h=>h) (by simp) (by simp)).mono ?_
 rintro e W' ⟨v,m',css,rfl,hm,cB,cR,hk,_,_,rfl⟩
 have hb:Below W.heap.size W W':=hk.below
 have bA:∀p∈before,p.block < W.heap.size:=fun p hp=>by simpa using hW.lt p hp
 have hW':=hW
 obtain⟨p,q,hA,hV,rfl,hz,hn⟩:=hW
 rw[hv]at hV
 obtain⟨rfl,rfl⟩:gs=[]∧q=[]:=by
  cases gs with
  | nil=>exact⟨rfl,hV⟩
  | cons g gs=>exact hV.elim
 refine⟨_,rfl,ds,[],p++[],[],p,[],hW',?_,?_,?_,hb.frame _,fun h=>by cases h⟩
 ·rw[hr,jo]
  exact trodAll_cons_mk (shut_bool rF _) trodAll_mk0
 ·rw[ha]
  exact Zf8 hl ku hA (fun x hx=>hb.same (bA x (by simp[hx]))) (fun x hx=>by simpa using bA x (by simp[hx]))
 ·rw[hw,hv];rfl
end Go.Eng
