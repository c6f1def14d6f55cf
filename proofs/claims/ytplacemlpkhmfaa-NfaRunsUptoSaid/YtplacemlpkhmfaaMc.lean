/- The engine: a reckoner over the code of a program in Lean, with its soundness; it names no program. No condition. -/
import Derived.Test.YtplacemlpkhmfaaMb
import Derived.OrdersIn
import Derived.ProofKit
import Derived.OpenShut
import Derived.JoinedCond
import Derived.Deep.Slices
set_option linter.unusedVariables false
set_option linter.unusedSimpArgs false
namespace Go.Eng
open Go Go.RowKit
theorem ZnE{F:Fence}{n:Nat}{P:Program}{c:Code}{Q:Exit→Act→World→Prop}{a:Act}{w:World}(Inv:Nat→Act→World→Prop)(h0:∃q,Inv q a w)
  (round:∀q a w,Inv q a w→c.wpIn F n P (Exit.then (fun a' w'=>∃q',q' < q∧Inv q' a' w') Q) a w):(Code.loop c).wpIn F n P Q a w:=by
 classical
 have ik:∀a w,(∃q,Inv q a w)→∃q,Inv q a w∧∀q',Inv q' a w→q≤q':=by
  intro a w ⟨q,hq⟩
  induction q using Nat.strongRecOn with
  | _ q ih=>
   by_cases hh:∃q',q' < q∧Inv q' a w
   ·obtain⟨q',h1,h2⟩:=hh;exact ih q' h1 h2
   ·exact⟨q,hq,fun q' hq'=>Nat.le_of_not_lt fun bK=>hh ⟨q',bK,hq'⟩⟩
 let μ:Act→World→Nat:=fun a w=>if h:∃q,Inv q a w then Classical.choose (ik a w h)else 0
 have hμ:∀a w (h:∃q,Inv q a w),Inv (μ a w) a w∧∀q',Inv q' a w→μ a w≤q':=fun a w h=>by
  have:=Classical.choose_spec (ik a w h)
  simp only[μ,h,dif_pos];exact this
 refine wpIn_loop (fun a w=>∃q,Inv q a w) μ h0 fun a w hI=>?_
 refine wpIn_mono (round _ a w (hμ a w hI).1) fun e a' w' he=>?_
 cases e with
 | normal=>
  obtain⟨q',h1,h2⟩:=he
  exact⟨⟨q',h2⟩,Nat.lt_of_le_of_lt ((hμ a' w' ⟨q',h2⟩).2 q' h2) h1⟩
 | _=>exact he
theorem ZcK{P:Program}{b:Frame}{a:Act}{k:List Item}{cs:List Frame}{w:World}{c:Code}:step P (lone (b.atR a (.code (.scope c)::k)) cs w)=.next (lone (b.atR a (.code c::.inScope c::k)) cs w):=
 step_lone_go (by simp[stepG,stepG.exec,Frame.atR])
theorem Zkk{P:Program}{b:Frame}{a:Act}{k:List Item}{cs:List Frame}{w:World}{c:Code}:step P (lone (b.atR a (.inScope c::k)) cs w)=.next (lone (b.atR a k) cs w):=
 step_lone_go (by simp[stepG,stepG.exec,Frame.atR])
theorem Zpm{F:Fence}{n:Nat}{P:Program}{a:Act}{w:World}{Q:Exit→Act→World→Prop}{c:Code}(h:c.wpIn F n P (fun e a w=>match e with
  | .goto _=>False
  | e=>Q e a w) a w):(Code.scope c).wpIn F n P Q a w:=by
 intro b k cs rD hb hr
 have h0:(lone (b.atR a (.code (.scope c)::k)) cs w).fenced P F:=fenced_calm hb hr rfl
 obtain⟨e,a₁,w₁,hq,dQ⟩:=h b (.inScope c::k) cs rD hb hr
 cases e with
 | normal=>exact⟨.normal,a₁,w₁,hq,.head h0 ZcK (StepsIn.trans dQ (.one (fenced_calm hb hr rfl) Zkk))⟩
 | exit id=>
  have hx:exitTo id (.inScope c::k)=exitTo id k:=by simp[exitTo]
  exact⟨.exit id,a₁,w₁,hq,fun k' hk=>.head h0 ZcK (dQ.1 k' (by rw[hx];exact hk)),
    fun hr' hk=>let ⟨k₁,h1,h2⟩:=dQ.2 hr' (by rw[hx];exact hk);⟨k₁,h1,.head h0 ZcK h2⟩⟩
 | goto l=>exact hq.elim
 | ret=>exact⟨_,a₁,w₁,hq,.of_steps (.one h0 ZcK) dQ⟩
 | panic ch=>exact⟨_,a₁,w₁,hq,.of_steps (.one h0 ZcK) dQ⟩
 | outgrown=>exact⟨_,a₁,w₁,hq,.of_steps (.one h0 ZcK) dQ⟩
theorem YOk.cold{E:Env}{C:Ctx}(h:YOk E C):YOk E.cold C:=⟨h.y,h.m0⟩
def ZdQ(E:Env)(Za0:Nat→Array Oper→(St→Mem→Prop)→St→Mem→Prop):Prop:=
 ∀{C:Ctx} {F:Fence} (_:FOk F) (_:YOk E C) (n:Nat) (id:Nat) (ops:Array Oper) {K:St→Mem→Prop} {S:St} {m:Mem} {a:Act} {w:World} {Q:Exit→Act→World→Prop},
  Zlm C.n ops.toList=true→Rel C S m a w→Za0 id ops K S m→(∀S' m' a' w',K S' m'→Rel C S' m' a' w'→Q .normal a' w')→(Code.region id ops true).wpIn F n E.P Q a w
theorem Zcv{E:Env}(hE:E.ok){Za0:Nat→Array Oper→(St→Mem→Prop)→St→Mem→Prop}(hD:Zel E Za0)(io:ZdQ E Za0):
  ∀(c:Code),Zav E c=true→∀{F:Fence} (_:FOk F) {C:Ctx} (_:YOk E C) (_:ROk F C) (n:Nat),ZbB C.n c=true→∀{S:St} {m:Mem} {a:Act} {w:World} {K:KT} {Q:Exit→Act→World→Prop},Rel C S m a w→W E Za0 c K S m→
   (∀e S' m' a' w',K e S' m'→Rel C S' m' a' w'→Q e a' w')→c.wpIn F n E.P Q a w
 | .skip,_,F,hF,C,hY,hR,n,_,S,m,a,w,K,Q,hr,h,hK=>wpIn_skip (hK _ _ _ _ _ h hr)
 | .label _,_,F,hF,C,hY,hR,n,_,S,m,a,w,K,Q,hr,h,hK=>wpIn_label (hK _ _ _ _ _ h hr)
 | .exit _,_,F,hF,C,hY,hR,n,_,S,m,a,w,K,Q,hr,h,hK=>wpIn_exit (hK _ _ _ _ _ h hr)
 | .ret,_,F,hF,C,hY,hR,n,_,S,m,a,w,K,Q,hr,h,hK=>wpIn_ret (hK _ _ _ _ _ h hr)
 | .region id ops draw,hc,F,hF,C,hY,hR,n,hl,S,m,a,w,K,Q,hr,h,hK=>by
  simp only[W]at h
  simp only[ZbB]at hl
  cases hj:E.joins id with
  | none=>
   simp only[hj]at h
   cases draw with
   | true=>exact io hF hY n id ops hl hr (by simpa using h) (fun S' m' a' w' hk bL=>hK _ _ _ _ _ hk bL)
   | false=>
    simp only[cond_false]at h
    exact ZuM hY hr h fun K' S' m' hr' h' fin=>wpIn_region (Zip hE hF hY hl _ hr' h' (fun S2 m2 a2 w2 hk bL=>by
     obtain⟨S3,m3,k3,r3⟩:=fin S2 m2 a2 w2 hk bL
     exact hK _ _ _ _ _ k3 r3))
  | some outs=>
   simp only[hj]at h
   obtain⟨xs,_,h1,h2⟩:=Shape.exL_elim _ _ h
   have fin:∀S' m' a' w',((S'.gh=S.gh∧Zb5 S' Zgu S.ids=Zb5 S Zgu S.ids∧Za9 S' Zgu S.tkeys=Za9 S Zgu S.tkeys∧ZgY S' outs fun xs'=>xs'=xs)∧SameOut (Zau ops.toList) S S'∧m.le m')→Rel C S' m' a' w'→Q .normal a' w':=by
    rintro S' m' a' w' ⟨⟨g0,g1,g2,g3⟩,g4,g5⟩ bL
    obtain⟨xs',_,e2,e3,rfl⟩:=Zc2 bL g3
    refine hK _ _ _ _ _ h2 ?_
    have hz:=ZeI (A:=⟨outs,[],[],false⟩) (css:=[]) (tvs:=[]) hr.ok bL g4 (by simpa[Zb5,Zgu]using g1) (by simpa[Za9,Zgu]using g2) e2 rfl (by simp) rfl (by simp)
    have:ZbY S (Zau ops.toList) ⟨outs,[],[],false⟩ S'.gh xs' [] []={ S with env:=ZbP (fun i=>bif (Zau ops.toList).any (Nat.beq i ·)then none else S.env i) outs xs' }:=by
     simp[ZbY,ZbC,Zfz,g0]
    rw[this]at hz
    exact hz.forget g5 hr.le (fun id x hx hf=>(hr.own id x hx).known hf)
   cases draw with
   | true=>
    simp only[cond_true]at h1
    cases dB:E.last id with
    | true=>simp only[dB,cond_true]at h1
    | false=>
    simp only[dB,cond_false]at h1
    have h1':=hD id ops _ (fun S' m'=>(S'.gh=S.gh∧Zb5 S' Zgu S.ids=Zb5 S Zgu S.ids∧Za9 S' Zgu S.tkeys=Za9 S Zgu S.tkeys∧ZgY S' outs fun xs'=>xs'=xs)∧SameOut (Zau ops.toList) S S'∧m.le m') S m (fun S' m' hs hm y=>⟨by have y':=Zeq y;rw[Zdd,Zde]at y';exact⟨y'.1 rfl,y'.2⟩,hs,hm.le dB⟩) h1
    exact io hF hY n id ops hl hr h1' fin
   | false=>
    simp only[cond_false]at h1
    have h1':ZuD E.cold ops (List.range ops.size) (fun S' m'=>(S'.gh=S.gh∧Zb5 S' Zgu S.ids=Zb5 S Zgu S.ids∧Za9 S' Zgu S.tkeys=Za9 S Zgu S.tkeys∧ZgY S' outs fun xs'=>xs'=xs)∧SameOut (Zau ops.toList) S S'∧m.le m') S m:=
     Zhu (E:=E.cold) (fun S' m' hs hm y=>⟨by have y':=Zeq y;rw[Zdd,Zde]at y';exact⟨y'.1 rfl,y'.2⟩,hs,hm⟩) h1
    exact wpIn_region (Zip (E:=E.cold) hE hF hY.cold hl _ hr h1' fin)
 | .seq x y,hc,F,hF,C,hY,hR,n,hl,S,m,a,w,K,Q,hr,h,hK=>by
  simp only[Zav,ZbB,Bool.and_eq_true]at hc hl
  simp only[W]at h
  cases gP:E.cuts (ZaN y)with
  | none=>
   simp only[gP]at h
   refine wpIn_seq (Zcv hE hD io x hc.1.1 hF hY hR n hl.1 hr h fun e S' m' a' w' hk bL=>?_)
   cases e with
   | normal=>exact Zcv hE hD io y hc.1.2 hF hY hR n hl.2 bL hk hK
   | _=>exact hK _ _ _ _ _ hk bL
  | some A=>
   simp only[gP]at h hc
   obtain⟨J,h1,h2⟩:=h
   have h1':=Zd6 hD x hc.1.1 (K':=fun e S' m'=>(match e with
    | .normal=>Zln A.gh S'.gh S.gh (ZmO (Zb5 S' A S.ids) (Zb5 S A S.ids) (ZmP (Za9 S' A S.tkeys) (Za9 S A S.tkeys) (ZgY S' A.slots fun xs=>ZsV S' A.boxes fun css=>ZfQ S' A.toks fun tvs=>J (ghs A.gh S'.gh xs) css tvs m')))
    | e=>K e S' m')∧SameOut (ZiN x) S S'∧leT E.thaw m m') (fun e S' m' hs hm y=>⟨y,hs,hm⟩) h1
   refine wpIn_seq (Zcv hE hD io x hc.1.1 hF hY hR n hl.1 hr h1' ?_)
   rintro e S' m' a' w' ⟨hk,hs,fM⟩ bL
   cases e with
   | normal=>
    obtain⟨r0,hk⟩:=Zeq hk
    obtain⟨r1,hk⟩:=Zdd.1 hk
    obtain⟨r2,hk⟩:=Zde.1 hk
    obtain⟨xs,f1,f2,f3,hk⟩:=Zc2 bL hk
    obtain⟨css,g1,g2,hk⟩:=Zdt hk
    obtain⟨tvs,k1,k2,hJ⟩:=Zcc hk
    have dK:∀v∈tvs,Zc8 v=true:=fun v hv=>by
     obtain⟨i,hi⟩:=List.getElem?_of_mem hv
     have bK:=(List.getElem?_eq_some_iff.1 hi).1
     obtain⟨qe,kw⟩:∃qe,A.toks[i]?=some qe:=⟨_,List.getElem?_eq_getElem (by omega)⟩
     exact(k2 i qe.1 qe.2 v kw hi).1
    exact Zcv hE hD io y hc.1.2 hF hY hR n hl.2 (ZeI hr.ok bL hs r1 r2 f2 g1 g2 k1 k2) (Zeu (Zet (Shape.allL_fits _ _ (Zhp h2 r0) xs f1) css g1) tvs k1 dK m' fM hJ) hK
   | _=>exact hK _ _ _ _ _ hk bL
 | .cond c x y,hc,F,hF,C,hY,hR,n,hl,S,m,a,w,K,Q,hr,h,hK=>by
  simp only[Zav,ZbB,Bool.and_eq_true]at hc hl
  obtain⟨v,hv,h⟩:=ZaD h
  obtain⟨h1,h2⟩:=Zaf h
  obtain⟨b,rfl⟩:∃b,v=.bool b:=⟨_,ZbX h1⟩
  simp only[Zad]at h2
  refine wpIn_cond (hr.ev hv) ?_
  cases b
  ·exact Zcv hE hD io y hc.2 hF hY hR n hl.2 hr h2 hK
  ·exact Zcv hE hD io x hc.1 hF hY hR n hl.1 hr h2 hK
 | .block id x,hc,F,hF,C,hY,hR,n,hl,S,m,a,w,K,Q,hr,h,hK=>by
  simp only[Zav,ZbB]at hc hl
  simp only[W]at h
  refine wpIn_block (Zcv hE hD io x hc hF hY hR n hl hr h fun e S' m' a' w' hk bL=>?_)
  cases e with
  | exit id'=>
   simp only at hk
   simp only[Exit.inBlock]
   cases hb:Nat.beq id' id with
   | true=>
    simp only[hb,cond_true]at hk
    rw[if_pos (Nat.eq_of_beq_eq_true hb)]
    exact hK _ _ _ _ _ hk bL
   | false=>
    simp only[hb,cond_false]at hk
    rw[if_neg (fun e=>by subst e;simp at hb)]
    exact hK _ _ _ _ _ hk bL
  | _=>exact hK _ _ _ _ _ hk bL
 | .loop x,hc,F,hF,C,hY,hR,n,hl,S,m,a,w,K,Q,hr,h,hK=>by
  simp only[Zav,ZbB,Bool.and_eq_true]at hc hl
  simp only[W]at h
  obtain⟨I,h1,h2⟩:=h
  generalize hA:E.loops (ZaN x)=A at *
  obtain⟨xs,f1,f2,f3,h1⟩:=Zc2 hr h1
  obtain⟨css,g1,g2,h1⟩:=Zdt h1
  obtain⟨tvs,k1,k2,q,h1⟩:=Zcc h1
  have cK:=hr.ok
  refine ZnE (fun q a w=>∃g xs css tvs m',(A.gh=false→g=S.gh)∧Shape.fitsL (A.slots.map (·.2)) xs=true∧css.length=A.boxes.length∧tvs.length=A.toks.length∧(∀v∈tvs,Zc8 v=true)∧leT E.thaw m m'∧I (ghs A.gh g xs) css tvs m' q∧Rel C (ZbY S (ZiN x) A g xs css tvs) m' a w) ?_ ?_
  ·refine⟨q,S.gh,xs,css,tvs,m,fun _=>rfl,f1,g1,k1,fun v hv=>?_,leT.refl _ m,h1,?_⟩
   ·obtain⟨i,hi⟩:=List.getElem?_of_mem hv
    have bK:=(List.getElem?_eq_some_iff.1 hi).1
    obtain⟨qe,kw⟩:∃qe,A.toks[i]?=some qe:=⟨_,List.getElem?_eq_getElem (by omega)⟩
    exact(k2 i qe.1 qe.2 v kw hi).1
   ·exact ZeI cK hr (SameOut.refl _ _) rfl rfl f2 g1 g2 k1 k2
  ·rintro q a w ⟨g,xs,css,tvs,m',hg,f1,g1,k1,k2,hm,hI,bL⟩
   have hb:=Zeu (Zet (Shape.allL_fits _ _ (Zhp h2 hg) xs f1) css g1) tvs k1 k2 m' q hm hI
   have hb':=Zd6 hD x hc.1 (K':=fun e S' m''=>(match e with
    | .normal=>Zln A.gh S'.gh S.gh (ZmO (Zb5 S' A S.ids) (Zb5 S A S.ids) (ZmP (Za9 S' A S.tkeys) (Za9 S A S.tkeys) (ZgY S' A.slots fun xs'=>ZsV S' A.boxes fun css'=>ZfQ S' A.toks fun tvs'=>∃n',n' < q∧I (ghs A.gh S'.gh xs') css' tvs' m'' n')))
    | e=>K e S' m'')∧SameOut (ZiN x) (ZbY S (ZiN x) A g xs css tvs) S'∧leT E.thaw m' m'') (fun e S' m'' hs hm y=>⟨y,hs,hm⟩) hb
   refine Zcv hE hD io x hc.1 hF hY hR n hl bL hb' ?_
   rintro e S' m'' a' w' ⟨hk,hs,fM⟩ kA
   cases e with
   | normal=>
    obtain⟨r0,hk⟩:=Zeq hk
    obtain⟨r1,hk⟩:=Zdd.1 hk
    obtain⟨r2,hk⟩:=Zde.1 hk
    obtain⟨xs',f1',f2',f3',hk⟩:=Zc2 kA hk
    obtain⟨css',g1',g2',hk⟩:=Zdt hk
    obtain⟨tvs',k1',k2',q',bK,hI'⟩:=Zcc hk
    have hm':leT E.thaw m m'':=leT.trans hm fM
    refine⟨q',bK,S'.gh,xs',css',tvs',m'',r0,f1',g1',k1',fun v hv=>?_,hm',hI',?_⟩
    ·obtain⟨i,hi⟩:=List.getElem?_of_mem hv
     have bK:=(List.getElem?_eq_some_iff.1 hi).1
     obtain⟨qe,kw⟩:∃qe,A.toks[i]?=some qe:=⟨_,List.getElem?_eq_getElem (by omega)⟩
     exact(k2' i qe.1 qe.2 v kw hi).1
    ·have gp:SameOut (ZiN x) S S':=SameOut.trans (ZdO (S':=ZbY S (ZiN x) A g xs css tvs) hc.2 rfl) hs
     exact ZeI cK kA gp r1 r2 f2' g1' g2' k1' k2'
   | _=>exact hK _ _ _ _ _ hk kA
 | .goto _,_,F,hF,C,hY,hR,n,_,S,m,a,w,K,Q,hr,h,hK=>by simp[W]at h
 | .scope x,hc,F,hF,C,hY,hR,n,hl,S,m,a,w,K,Q,hr,h,hK=>by
  simp only[Zav,ZbB]at hc hl
  simp only[W]at h
  refine Zpm (Zcv hE hD io x hc hF hY hR n hl hr h fun e S' m' a' w' hk bL=>?_)
  cases e with
  | goto l=>exact hk.elim
  | _=>exact hK _ _ _ _ _ hk bL
 | .rangeFunc f ps x y,hc,F,hF,C,hY,hR,n,hl,S,m,a,w,K,Q,hr,h,hK=>by
  simp only[Zav,ZbB,Bool.and_eq_true]at hc hl
  simp only[W]at h
  exact ZnD hF hY hR n (fun hF' _ hY' hR' n' hl'=>Zcv hE hD io x hc.1 hF' hY' hR' n' hl') (fun hF' _ hY' hR' n' hl'=>Zcv hE hD io y hc.2 hF' hY' hR' n' hl')
   (fun hk=>Zd6 hD x hc.1 (fun e S' m' _ hm y=>⟨y,hm⟩) hk) (fun hk=>Zd6 hD y hc.2 (fun e S' m' _ hm y=>⟨y,hm⟩) hk) hl.2.1 hl.2.2 hl.1 hr h hK
 | .refuse _,_,F,hF,C,hY,hR,n,_,S,m,a,w,K,Q,hr,h,hK=>by simp[W]at h
end Go.Eng
namespace Go.Eng
open Go Go.RowKit
def bid(j:Nat):Nat:=100000+j
def Zpn(xs:List Box):SV→Value
 | .v x=>x
 | .loc id off=>match xs[id - 100000]? with
  | some x=>.pointer (some ⟨x.b,off,none⟩)
  | none=>undef
 | .sl id n c=>match xs[id - 100000]? with
  | some x=>.slice (some ⟨x.b,0,none⟩) n c
  | none=>undef
def Zwo(xs:List Box):SV→Bool
 | .v _=>true
 | .loc id _=>Nat.ble 100000 id&&Nat.blt (id - 100000) xs.length
 | .sl id _ _=>Nat.ble 100000 id&&Nat.blt (id - 100000) xs.length
def Zlt(xs:List Box):List SV→Bool
 | []=>true
 | s::l=>Zwo xs s&&Zlt xs l
def S0(svs:List SV)(xs:List Box):St:=
 {env:=fun i=>svs[i]?
  L:=fun id=>bif Nat.ble 100000 id then xs[id - 100000]? else none
  ids:=(List.range xs.length).map bid
  tok:=fun _=>none
  tkeys:=[]
  gh:=0 }
def ZsW(E:Env)(S:St)(m:Mem):ResultVar→(Value→Prop)→Prop
 | .tmp t,k=>wv S (.tmp t) k
 | .cell t T,k=>ZfO E S m T (.tmp t) k
def Zpo(tmps:Array Value):ResultVar→Sem Value
 | .tmp t=>pure (tmps.getD t undef)
 | .cell a t=>do loadVar t (←asAddr (tmps.getD a undef))
def Zv3(E:Env)(S:St)(m:Mem):List ResultVar→(List Value→Prop)→Prop
 | [],k=>k []
 | r::l,k=>ZsW E S m r fun v=>Zv3 E S m l fun vs=>k (v::vs)
def ZsO:List Value→Value
 | [v]=>v
 | vs=>.tuple vs.toArray
def Zut(S:St):Nat→List Box→(List (List Value)→Prop)→Prop
 | _,[],k=>k []
 | j,x::xs,k=>match S.L (bid j)with
  | none=>False
  | some y=>{ y with cs:=x.cs }=x∧Zut S (j+1) xs fun css=>k (y.cs::css)
def Zuu(l:List Nat):Bool:=Zba l&&l.all (fun i=>Nat.blt i 100000)
def Zxv(E:Env)(rs:List ResultVar)(m0:Mem)(xs:List Box)(R:Value→Mem→List (List Value)→Prop)(S:St)(m:Mem):Prop:=
 Zv3 E S m rs fun vs=>Zut S 0 xs fun css=>∃m'',m0.le m''∧m''.le (ZsR S E.frz m)∧R (ZsO vs) m'' css
def ZxE(E:Env)(rs:List ResultVar)(m0:Mem)(xs:List Box)(R:Value→Mem→List (List Value)→Prop):KT:=fun e S m=>match e with
 | .normal=>Zxv E rs m0 xs R S m
 | .ret=>Zxv E rs m0 xs R S m
 | _=>False
theorem ZnF{P:Program}{T:TypeId}{x v:Value}{w:World}(h:(Instr.loadAt T x).run P w=.ok v w):(do loadVar T (←asAddr x):Sem Value).run P w=.ok v w:=by
 cases x with
 | pointer p=>
  cases p with
  | none=>simp[Instr.loadAt,Instr.sureAddr]at h
  | some p=>simpa[Instr.loadAt,Instr.sureAddr,asAddr]using h
 | _=>simp[Instr.loadAt,Instr.sureAddr]at h
theorem Zml{a b:Nat}(h:Nat.blt a b=true):a < b:=Nat.le_of_ble_eq_true h
section
variable {C:Ctx} {S:St} {m:Mem} {a:Act} {w:World}
theorem Zkl{E:Env}(hE:E.ok)(hr:Rel C S m a w){r:ResultVar}{k:Value→Prop}(h:ZsW E S m r k):∃v,k v∧(Zpo a.tmps r).run E.P w=.ok v w:=by
 cases r with
 | tmp t=>
  obtain⟨v,hv,hk⟩:=ZaD h
  refine⟨v,hk,?_⟩
  have:=hr.ev hv
  simp only[Act.eval]at this
  simp only[Zpo]
  rw[←this];rfl
 | cell t T=>
  obtain⟨v,hk,bP⟩:=Zgl hE hr h
  exact⟨v,hk,ZnF bP⟩
theorem Zew{E:Env}(hE:E.ok)(hr:Rel C S m a w):∀{rs:List ResultVar} {k:List Value→Prop},Zv3 E S m rs k→∃vs,k vs∧(rs.mapM (Zpo a.tmps)).run E.P w=.ok vs w
 | [],k,h=>⟨[],h,by simp⟩
 | r::l,k,h=>by
  obtain⟨v,h,h1⟩:=Zkl hE hr h
  obtain⟨vs,hk,h2⟩:=Zew hE hr h
  refine⟨v::vs,hk,?_⟩
  rw[List.mapM_cons]
  simp only[Sem.run_bind,h1,Result.andThen_ok,h2]
  rfl
theorem Zdv{fn:Func}{tmps:Array Value}{P:Program}{w:World}{vs:List Value}(h:(fn.results.toList.mapM (Zpo tmps)).run P w=.ok vs w):(results fn tmps).run P w=.ok (ZsO vs) w:=by
 have e:results fn tmps=(do
  let vs ←fn.results.mapM (Zpo tmps)
  pure (if h:vs.size=1 then vs[0]else .tuple vs)):=rfl
 rw[e,Array.mapM_eq_mapM_toList]
 simp only[Sem.run_bind,Sem.run_map,h,Result.andThen_ok]
 match vs with
 | []=>rfl
 | [v]=>rfl
 | v::u::l=>rfl
theorem Zgy:∀{xs:List Box} {j:Nat} {k:List (List Value)→Prop},Zut S j xs k→∃css,css.length=xs.length∧(∀(i:Nat)(x:Box),xs[i]?=some x→∃cs,css[i]?=some cs∧S.L (bid (j+i))=some { x with cs:=cs })∧k css
 | [],j,k,h=>⟨[],rfl,by simp,h⟩
 | x::xs,j,k,h=>by
  simp only[Zut]at h
  cases hL:S.L (bid j)with
  | none=>simp[hL]at h
  | some y=>
   simp only[hL]at h
   obtain⟨h1,h2⟩:=h
   obtain⟨css,g1,g2,g3⟩:=Zgy h2
   refine⟨y.cs::css,by simp[g1],?_,g3⟩
   intro i z hi
   cases i with
   | zero=>
    simp at hi;subst hi
    refine⟨y.cs,by simp,?_⟩
    rw[Nat.add_zero,hL,←h1]
   | succ i=>
    obtain⟨cs,h3,h4⟩:=g2 i z (by simpa using hi)
    exact⟨cs,by simpa using h3,by rw[←h4];congr 2;omega⟩
theorem Zex(S:St)(m:Mem):∀{l:List Nat} {b:Nat},(∀id∈l,∀x,S.L id=some x→x.b≠b)→∀o,ZsR S l m b o=m b o
 | [],b,_,o=>rfl
 | id::l,b,h,o=>by
  have ih:=Zex S m (l:=l) (b:=b) (fun i hi=>h i (by simp[hi])) o
  simp only[ZsR]
  cases hL:S.L id with
  | none=>exact ih
  | some x=>
   simp only
   cases hz:x.fz with
   | true=>exact ih
   | false=>
    simp only[cond_false]
    rw[Mem.add_other _ (Ne.symm (h id (by simp) x hL))];exact ih
theorem Zqo(hr:Rel C S m a w):∀{l:List Nat},l.Nodup→m.le (ZsR S l m)∧Sub (ZsR S l m) w∧(∀b o v,ZsR S l m b o=some v→m b o=some v∨∃id∈l,∃x,S.L id=some x∧x.b=b)
 | [],_=>⟨Mem.le_refl m,hr.sub,fun b o v h=>.inl h⟩
 | id::l,hn=>by
  obtain⟨h1,h2⟩:=List.nodup_cons.1 hn
  obtain⟨i1,i2,i3⟩:=Zqo hr h2
  simp only[ZsR]
  cases hL:S.L id with
  | none=>exact⟨i1,i2,fun b o v h=>(i3 b o v h).imp_right fun⟨id',h,x⟩=>⟨id',by simp[h],x⟩⟩
  | some x=>
   simp only
   cases hz:x.fz with
   | true=>exact⟨i1,i2,fun b o v h=>(i3 b o v h).imp_right fun⟨id',h,x⟩=>⟨id',by simp[h],x⟩⟩
   | false=>
    simp only[cond_false]
    have dP:=(hr.own id x hL)
    have bQ:(ZsR S l m).free x.b:=fun o=>by
     rw[Zex S m (fun i hi y hy e=>h1 (hr.apart _ _ _ _ hy hL e ▸ hi))]
     exact dP.free hz o
    refine⟨Mem.le_trans i1 (Mem.le_add bQ x.cs),?_,?_⟩
    ·intro b o v hv
     by_cases hb:b=x.b
     ·subst hb;rw[Mem.add_same]at hv;exact dP.cell hv
     ·rw[Mem.add_other _ hb]at hv;exact i2 b o v hv
    ·intro b o v hv
     by_cases hb:b=x.b
     ·exact .inr ⟨id,by simp,x,hL,hb.symm⟩
     ·rw[Mem.add_other _ hb]at hv
      exact(i3 b o v hv).imp_right fun⟨id',h,x⟩=>⟨id',by simp[h],x⟩
end
theorem Ziq{xs:List Box}:∀{l:List SV},Zlt xs l=true→∀(i:Nat) s,l[i]?=some s→Zwo xs s=true
 | [],_,i,s,h=>by simp at h
 | x::l,h,i,s,hs=>by
  simp only[Zlt,Bool.and_eq_true]at h
  cases i with
  | zero=>simp at hs;subst hs;exact h.1
  | succ i=>exact Ziq h.2 i s (by simpa using hs)
def Zw8(n:Nat)(m:Mem)(w:World)(bs:List Nat):Ctx where
 n:=n
 m0:=m
 p:=fun _ M w'=>Keep w.heap.size bs w w'∧∀k,M k→w.heap.size≤k∨k∈bs
 st:=by
  rintro g M M' w1 w2 ⟨h1,h2⟩ hu hg
  refine⟨h1.trans ⟨hu.os,hu.tape,hu.output,hu.size,fun k hk hn=>hu.block k (Nat.lt_of_lt_of_le hk h1.size) fun hm=>?_,hu.wr⟩,fun k hk=>?_⟩
  ·rcases h2 k hm with h|h
   ·omega
   ·exact hn h
  ·rcases hg k hk with h|h
   ·exact h2 k h
   ·have:=h1.size;exact .inl (by omega)
theorem ZsX{n:Nat}{m:Mem}{w:World}{bs:List Nat}(hb:∀k∈bs,Wr w k){g:Int}{M:Nat→Prop}{w':World}(h:(Zw8 n m w bs).p g M w')(k:Nat)(hk:M k):Wr w' k:=by
 rcases h.2 k hk with h1|h1
 ·exact h.1.wr k (Wr.of_none h1)
 ·exact h.1.wr k (hb k h1)
theorem Zlu{C:Ctx}{w:World}{xs:List Box}{svs:List SV}(hs:Sub C.m0 w)(hx:∀x∈xs,Own C.m0 w x∧x.fz=false)(eH:(xs.map (·.b)).Nodup)(cK:Zlt xs svs=true)(hn:svs.length≤C.n)(hp:C.p 0 (fun k=>k∈xs.map (·.b)) w):
  Rel C (S0 svs xs) C.m0 { tmps:=(svs.map (Zpn xs)).toArray++Array.replicate (C.n - (svs.map (Zpn xs)).toArray.size) undef,defers:=[] } w:=by
 have hL:∀id x,(S0 svs xs).L id=some x→100000≤id∧xs[id - 100000]?=some x:=fun id x h=>by
  simp only[S0]at h
  cases hb:Nat.ble 100000 id with
  | false=>simp[hb]at h
  | true=>simp only[hb,cond_true]at h;exact⟨Nat.le_of_ble_eq_true hb,h⟩
 refine⟨⟨[],rfl,List.nodup_nil,by simp⟩,by simp;omega,?_,?_,?_,?_,by simp[S0],by simp[S0],by simp[S0],hs,Mem.le_refl _,⟨_,hp,fun k hk=>?_,fun id x hx=>?_,fun k t b ht=>by simp[S0]at ht,by simp,fun _ _ _ h=>.inl h⟩⟩
 ·intro i sv he
  simp only[S0]at he
  have bK:=(List.getElem?_eq_some_iff.1 he).1
  have h1:=Ziq cK i sv he
  refine⟨Zpn xs sv,?_,?_⟩
  ·cases sv with
   | v x=>rfl
   | loc id off=>
    simp only[Zwo,Bool.and_eq_true]at h1
    have h2:id - 100000 < xs.length:=Zml h1.2
    simp[St.den,S0,Zpn,h1.1,List.getElem?_eq_getElem h2]
   | sl id n c=>
    simp only[Zwo,Bool.and_eq_true]at h1
    have h2:id - 100000 < xs.length:=Zml h1.2
    simp[St.den,S0,Zpn,h1.1,List.getElem?_eq_getElem h2]
  ·rw[Array.getElem?_append_left (by simpa using bK)]
   simp[he]
 ·intro id x hx'
  have:=List.mem_of_getElem? (hL id x hx').2
  exact(hx x this).1
 ·intro id id' x x' h1 h2 hb
  obtain⟨g1,g2⟩:=hL _ _ h1
  obtain⟨g3,g4⟩:=hL _ _ h2
  have hi:=(List.getElem?_eq_some_iff.1 g2).1
  have hi':=(List.getElem?_eq_some_iff.1 g4).1
  have:=(List.getElem?_inj (l:=xs.map (·.b)) (i:=id - 100000) (j:=id' - 100000) (by simpa using hi) eH).1 (by simp[g2,g4,hb])
  omega
 ·intro id x h1
  obtain⟨g1,g2⟩:=hL _ _ h1
  have hi:=(List.getElem?_eq_some_iff.1 g2).1
  simp only[S0,List.mem_map,List.mem_range,bid]
  exact⟨id - 100000,hi,by omega⟩
 ·obtain⟨x,h1,h2⟩:=List.mem_map.1 hk
  exact h2 ▸ (hx x h1).1.lt
 ·exact List.mem_map.2 ⟨x,List.mem_of_getElem? (hL id x hx).2,rfl⟩
theorem ZnG{n:Nat}{w:World}{m:Mem}{xs:List Box}{svs:List SV}(hs:Sub m w)(hx:∀x∈xs,Own m w x∧x.fz=false)(eH:(xs.map (·.b)).Nodup)(cK:Zlt xs svs=true)(hn:svs.length≤n):
  Rel (Zw8 n m w (xs.map (·.b))) (S0 svs xs) m { tmps:=(svs.map (Zpn xs)).toArray++Array.replicate (n - (svs.map (Zpn xs)).toArray.size) undef,defers:=[] } w:=
 Zlu (C:=Zw8 n m w (xs.map (·.b))) hs hx eH cK hn ⟨Keep.refl _ _ _,fun k hk=>.inr hk⟩
theorem Rel.leave{P:Program}{C:Ctx}{S:St}{m:Mem}{fn:Func}{tmps:Array Value}{R:Ending→World→Prop}(h:∀a' w',a'.tmps=tmps→Rel C S m a' w'→∃v,(results fn tmps).run P w'=.ok v w'∧R (.returned v) w'):
  ∀(ms:List Nat)(a:Act)(w:World),a.tmps=tmps→a.defers=ms.map Zji→Rel C S m a w→LeavesInM Fence.wide 0 P fn tmps R a.defers .returning w
 | [],a,w,ht,hm,hr=>by
  rw[hm]
  simp only[List.map_nil,LeavesInM,LeavesIn]
  exact h a w ht hr
 | D::ms,a,w,ht,hm,hr=>by
  obtain⟨ms',q1,q2,q3⟩:=hr.defers
  have fM:ms'=D::ms:=by
   rw[hm]at q1
   have inj:∀(l l':List Nat),l.map Zji=l'.map Zji→l=l':=by
    intro l
    induction l with
    | nil=>intro l' h;cases l' <;> simp_all
    | cons x l ih=>
     intro l' h
     cases l' with
     | nil=>simp at h
     | cons y l'=>simp only[List.map_cons,List.cons.injEq]at h;rw[ih l' h.2];simpa[Zji]using h.1
   exact(inj _ _ q1).symm
  subst fM
  have hD:=q3 D (by simp)
  rw[hm]
  simp only[List.map_cons,LeavesInM]
  refine⟨by simp,.inl ⟨D,_,rfl,run_takeDeferred hD,?_⟩⟩
  have hr':Rel C S m { a with defers:=ms.map Zji } (w.putObj D (.deferred none)):=by
   obtain⟨M,hd⟩:=hr.dom
   have vQ:M D:=hd.mks D (by rw[hm];simp)
   have cM:∀k,k≠D→(w.putObj D (.deferred none)).heap[k]?=w.heap[k]?:=fun k hk=>World.putObj_heap_other hk
   refine hr.swap rfl hr.le rfl rfl rfl rfl hr.env hr.size ⟨ms,rfl,(List.nodup_cons.1 q2).2,fun D' hD'=>?_⟩ (fun k c T fr hk=>cM k (fun e=>by rw[e,hD]at hk;cases hk)) (fun k t b ht hb=>((hr.toks k t ht).2 b hb).2) ?_
   ·rw[cM D' (fun e=>(List.nodup_cons.1 q2).1 (e ▸ hD'))];exact q3 D' (by simp[hD'])
   ·have h1:=hd.step (m':=m) (ZfT (o:=.deferred none) rfl vQ) (fun b o v hv=>.inl hv)
    exact⟨_,h1.p,h1.lt,h1.own,h1.tok,fun D' hD'=>h1.mks D' (by rw[hm];exact List.mem_cons_of_mem _ hD'),h1.new⟩
  exact Rel.leave h ms { a with defers:=ms.map Zji } _ ht rfl hr'
theorem ZuP{E:Env}(hE:E.ok){Za0:Nat→Array Oper→(St→Mem→Prop)→St→Mem→Prop}(hD:Zel E Za0)(io:ZdQ E Za0){g:FuncId}{fn:Func}{c:Code}
  (hf:E.P.funcs[g]?=some fn) (hn:(fn.name == "runtime.NumGoroutine")=false) (hb:fn.body=some c) (hc:Zav E c=true) (hl:ZbB fn.ntmps c=true) (hz:Zuu E.frz=true) (dG:E.yl=none)
  {m:Mem} (gf:∀mm,E.m0=some mm→m=mm) {R:Value→Mem→List (List Value)→Prop} (svs:List SV) (xs:List Box) (bN:Nat.ble svs.length fn.ntmps=true) (cK:Zlt xs svs=true)
  (h:W E Za0 c (ZxE E fn.results.toList m xs R) (S0 svs xs) m):CX E.P g (svs.map (Zpn xs)).toArray m xs R:=by
 refine⟨Zhf hf hn (by simp[hb]),fun w hs hx eH=>?_⟩
 have bL:=ZnG (n:=fn.ntmps) hs hx eH cK (Nat.le_of_ble_eq_true bN)
 refine callsIn_wide.1 (callsIn_of_wp_marks (F:=Fence.wide) (n:=0) hf hb trivial ?_)
 refine Zcv hE hD io c hc (.inl rfl) (YOk.none dG (fun mm fM=>⟨gf mm fM,fun g M w' hp k hk=>ZsX (fun k hk=>by
  obtain⟨x,h1,rfl⟩:=List.mem_map.1 hk
  exact(hx x h1).1.wr) hp k hk⟩)) (fun l hl=>by cases hl) 0 hl bL h ?_
 have key:∀S' m' a' w',Zxv E fn.results.toList m xs R S' m'→Rel (Zw8 fn.ntmps m w (xs.map (·.b))) S' m' a' w'→LeavesInM Fence.wide 0 E.P fn a'.tmps (fun e w'=>
   ∃v_1 m'_1 css,e=Ending.returned v_1∧m.le m'_1∧Sub m'_1 w'∧Zhc m m'_1 w.heap.size∧Keep w.heap.size (xs.map (·.b)) w w'∧css.length=xs.length∧(∀(i:Nat)(x:Box)(cs:List Value),xs[i]?=some x→css[i]?=some cs→Own m'_1 w' { x with cs:=cs })∧R v_1 m'_1 css) a'.defers .returning w':=by
  intro S' m' a' w' hk hr
  obtain⟨ms,q1,_,_⟩:=hr.defers
  refine Rel.leave ?_ ms a' w' rfl q1 hr
  clear hr q1
  intro a2 w2 ht hr
  rw[←ht]
  obtain⟨vs,hk,bP⟩:=Zew hE hr hk
  obtain⟨css,h1,h2,m'',h3,h4,h5⟩:=Zgy hk
  obtain⟨M,hd⟩:=hr.dom
  refine⟨ZsO vs,Zdv bP,ZsO vs,m'',css,rfl,h3,?_,?_,hd.p.1,h1,?_,h5⟩
  all_goals simp only[Zuu,Bool.and_eq_true]at hz
  all_goals have rQ:=ZaG hz.1
  all_goals obtain⟨f1,f2,f3⟩:=Zqo hr rQ
  ·exact fun b o v hv=>f2 b o v (h4 b o v hv)
  ·intro b o v hv
   rcases f3 b o v (h4 b o v hv)with hv|⟨id,cW,x,jx,iO⟩
   ·rcases hd.new b o v hv with h6|h6
    ·exact .inl h6
    ·rcases hd.p.2 b h6 with h6|h6
     ·exact .inr h6
     ·exfalso
      obtain⟨y,hy,ia⟩:=List.mem_map.1 h6
      obtain⟨i,hi⟩:=List.getElem?_of_mem hy
      obtain⟨cs,_,jD⟩:=h2 i y hi
      have:=(hr.own _ _ jD).free (hx y hy).2 o
      simp only[ia]at this
      rw[this]at hv;cases hv
   ·right
    have h6:=hd.p.2 _ (hd.own id x jx)
    subst iO
    rcases h6 with h6|h6
    ·exact h6
    ·exfalso
     obtain⟨y,hy,ia⟩:=List.mem_map.1 h6
     obtain⟨i,hi⟩:=List.getElem?_of_mem hy
     obtain⟨cs,_,jD⟩:=h2 i y hi
     have:=hr.apart _ _ _ _ jx jD ia.symm
     have bK:id < 100000:=by
      have:=List.all_eq_true.1 hz.2 id cW
      exact Zml this
     simp only[bid]at this
     omega
  ·intro i x cs hi bT
   obtain⟨cs',h6,h7⟩:=h2 i x hi
   rw[bT]at h6;cases h6
   have ho:=hr.own _ _ h7
   have o8:=(hx x (List.mem_of_getElem? hi)).2
   refine⟨ho.cells,fun _ o=>?_,fun hz'=>by simp[o8]at hz',ho.whole⟩
   cases hv:m'' x.b o with
   | none=>rfl
   | some v=>
    have h8:=h4 _ _ _ hv
    rw[Zex S' m' (fun id cW y hy e=>?_)]at h8
    ·have:=ho.free o8 o
     simp only at this
     rw[this]at h8;cases h8
    ·have:=hr.apart _ _ _ _ hy h7 e
     have bK:id < 100000:=by
      have:=List.all_eq_true.1 hz.2 id cW
      exact Zml this
     simp only[bid]at this
     omega
 intro e S' m' a' w' hk hr
 cases e with
 | normal=>exact key S' m' a' w' hk hr
 | ret=>exact key S' m' a' w' hk hr
 | exit _=>exact hk.elim
 | goto _=>exact hk.elim
 | panic _=>exact hk.elim
 | outgrown=>exact hk.elim
def ZwL(E:Env)(rs:List ResultVar)(n:Nat):KT:=fun e S m=>match e with
 | .normal=>Zv3 E S m rs fun _=>S.gh=n∨S.gh=-1
 | .ret=>Zv3 E S m rs fun _=>S.gh=n∨S.gh=-1
 | _=>False
def Env.yields(E:Env)(l:Nat)(xs:List (List Value)):Env:={ E with yl:=some fun l' g v=>l'=l∧0≤g∧xs[g.toNat]?=some v,m0:=none }
theorem ZuQ{E:Env}(hE:E.ok){Za0:(E:Env)→Nat→Array Oper→(St→Mem→Prop)→St→Mem→Prop}{g:FuncId}{fn:Func}{c:Code}
  (hf:E.P.funcs[g]?=some fn) (hn:(fn.name == "runtime.NumGoroutine")=false) (hb:fn.body=some c) (hl:ZbB fn.ntmps c=true)
  {m:Mem} (first captured:List Value) (xs:List (List Value)) (bN:Nat.ble (first.length+captured.length+1) fn.ntmps=true)
  (h:∀l,Zel (E.yields l xs) (Za0 (E.yields l xs))∧ZdQ (E.yields l xs) (Za0 (E.yields l xs))∧Zav (E.yields l xs) c=true∧W (E.yields l xs) (Za0 (E.yields l xs)) c (ZwL E fn.results.toList xs.length) (S0 ((first++.func (.yield l) #[] #[]::captured).map .v) []) m):
  IX E.P g first captured m xs:=by
 refine⟨Zhf hf hn (by simp[hb]),fun p hp l w hs ls hy=>?_⟩
 obtain⟨hD,io,hc,h⟩:=h l
 have hE':(E.yields l xs).ok:=hE
 let C:Ctx:=⟨fn.ntmps,m,p,hp⟩
 have cK:∀vs:List Value,Zlt [] (vs.map .v)=true:=fun vs=>by
  induction vs with
  | nil=>rfl
  | cons v vs ih=>simp[Zlt,Zwo,ih]
 have kp:∀vs:List Value,(vs.map SV.v).map (Zpn [])=vs:=fun vs=>by
  induction vs with
  | nil=>rfl
  | cons v vs ih=>simp only[List.map_cons,ih];rfl
 have bL:=Zlu (C:=C) (xs:=[]) (svs:=(first++.func (.yield l) #[] #[]::captured).map .v) hs (by simp) (by simp) (cK _) (by have:=Nat.le_of_ble_eq_true bN;simp;omega) (by
  have e:(fun k=>k∈([]:List Box).map (·.b))=(fun _:Nat=>False):=by funext k;simp
  rw[e];exact ls)
 rw[kp]at bL
 refine callsIn_wide.1 (callsIn_of_wp_marks (F:=Fence.wide) (n:=0) hf hb trivial ?_)
 refine Zcv hE' hD io c hc (.inl rfl) (C:=C) ⟨fun Y hY=>by
  simp only[Env.yields,Option.some.injEq]at hY
  subst hY;exact hy,fun mm fM=>by cases fM⟩ (fun l hl=>by cases hl) 0 hl bL h ?_
 have key:∀S' m' a' w',Zv3 E S' m' fn.results.toList (fun _=>S'.gh=xs.length∨S'.gh=-1)→Rel C S' m' a' w'→LeavesInM Fence.wide 0 E.P fn a'.tmps (fun e w'=>∃v M,e=.returned v∧(∀k,M k→k < w'.heap.size)∧(p xs.length M w'∨p (-1) M w')) a'.defers .returning w':=by
  intro S' m' a' w' hk hr
  obtain⟨ms,q1,_,_⟩:=hr.defers
  refine Rel.leave ?_ ms a' w' rfl q1 hr
  clear hr q1
  intro a2 w2 ht hr
  rw[←ht]
  obtain⟨vs,hk,bP⟩:=Zew hE hr hk
  obtain⟨M,hd⟩:=hr.dom
  refine⟨ZsO vs,Zdv bP,_,M,rfl,hd.lt,?_⟩
  have:=hd.p
  rcases hk with hk|hk
  ·rw[hk]at this;exact .inl this
  ·rw[hk]at this;exact .inr this
 intro e S' m' a' w' hk hr
 cases e with
 | normal=>exact key S' m' a' w' hk hr
 | ret=>exact key S' m' a' w' hk hr
 | exit _=>exact hk.elim
 | goto _=>exact hk.elim
 | panic _=>exact hk.elim
 | outgrown=>exact hk.elim
end Go.Eng
namespace Go.Eng
open Go Go.RowKit
def LC{α β:Type}(T1:(α→Prop)→Prop)(T2:(β→Prop)→Prop)(ρ:α→β→Prop):Prop:=
 T1 (fun _=>True)→T2 (fun y2=>∃y1,(∀K,T1 K→K y1)∧ρ y1 y2)
section comb
variable {α β:Type} {ρ:α→β→Prop}
theorem LC.false{T2:(β→Prop)→Prop}:LC (fun _:α→Prop=>False) T2 ρ:=fun h=>h.elim
theorem LC.ret{a:α}{b:β}(h:ρ a b):LC (fun K=>K a) (fun K=>K b) ρ:=fun _=>⟨a,fun _ hK=>hK,h⟩
theorem LC.chk{c:Bool}{T1:(α→Prop)→Prop}{T2:(β→Prop)→Prop}(h:c=true→LC T1 T2 ρ):LC (fun K=>chk c (T1 K)) (fun K=>chk c (T2 K)) ρ:=by
 cases c
 ·exact fun h=>h.elim
 ·exact h rfl
theorem LC.br{c:Bool}{T1 U1:(α→Prop)→Prop}{T2 U2:(β→Prop)→Prop}(h:LC T1 T2 ρ)(k:LC U1 U2 ρ):LC (fun K=>br c (T1 K) (U1 K)) (fun K=>br c (T2 K) (U2 K)) ρ:=by
 cases c
 ·exact k
 ·exact h
theorem LC.and{p q:Prop}{T1:(α→Prop)→Prop}{T2:(β→Prop)→Prop}(oN:p→q)(h:p→LC T1 T2 ρ)(mono:∀{K K':β→Prop},(∀y,K y→K' y)→T2 K→T2 K'):LC (fun K=>p∧T1 K) (fun K=>q∧T2 K) ρ:=fun⟨h1,h2⟩=>
 ⟨oN h1,mono (fun y ⟨y1,g1,g2⟩=>⟨y1,fun K hK=>g1 K hK.2,g2⟩) (h h1 h2)⟩
theorem LC.map{γ δ:Type}{σ:γ→δ→Prop}{T1:(α→Prop)→Prop}{T2:(β→Prop)→Prop}(h:LC T1 T2 ρ)(f:α→γ)(g:β→δ)(vR:∀a b,ρ a b→σ (f a) (g b))(mono:∀{K K':β→Prop},(∀y,K y→K' y)→T2 K→T2 K'):
  LC (fun K=>T1 fun a=>K (f a)) (fun K=>T2 fun b=>K (g b)) σ:=fun h1=>
 mono (fun b ⟨a,g1,g2⟩=>⟨f a,fun K hK=>g1 _ hK,vR _ _ g2⟩) (h h1)
end comb
abbrev LE{α:Type}(T1 T2:(α→Prop)→Prop):Prop:=LC T1 T2 Eq
theorem Zqp{l:List Value}{n:Nat}{α β:Type}{ρ:α→β→Prop}{f:Value→α}{g:Value→β}(h:∀v,ρ (f v) (g v)):LC (fun K=>ZsM l n fun v=>K (f v)) (fun K=>ZsM l n fun v=>K (g v)) ρ:=by
 unfold ZsM
 cases hl:l[n]? with
 | none=>exact LC.false
 | some v=>simp only;exact LC.ret (h v)
theorem ZsY{op:BinOp}{b:Bool}:LE (ZsN op b) (ZsN op b):=by
 cases op <;> first
  | exact LC.false
  | exact LC.ret rfl
theorem ZuR{op:BinOp}{k:IntKind}{a b:Int}:LE (ZvV op k a b) (ZvV op k a b):=by
 cases op <;> first
  | exact LC.false
  | exact LC.ret rfl
  | exact LC.and id (fun _=>LC.ret rfl) (fun h=>h _)
theorem ZrD{op:BinOp}{k:IntKind}{a b:Int}:LE (Zj6 op k a b) (Zj6 op k a b):=by
 cases op <;> first
  | exact LC.false
  | exact LC.and id (fun _=>LC.ret rfl) (fun h=>h _)
theorem ZuS{op:BinOp}{a b:ByteArray}:LE (ZvW op a b) (ZvW op a b):=by
 cases op <;> first
  | exact LC.false
  | exact LC.ret rfl
  | exact LC.and id (fun _=>LC.ret rfl) (fun h=>h _)
theorem EqIs.unique{P:Program}{T:TypeId}{x y:Value}{a b:Bool}(w:World)(h:EqIs P T x y a)(k:EqIs P T x y b):a=b:=by
 have h1:=h.1 w
 rw[k.1 w]at h1
 cases h1;rfl
theorem ZuT{E:Env}(w:World){op:BinOp}{T:TypeId}{x y:Value}:LE (ZvP E op T x y) (ZvP E op T x y):=by
 unfold ZvP
 cases ht:E.tt T with
 | none=>exact LC.false
 | some i=>
  simp only
  cases hd:i.d <;> simp only <;> first
   | exact LC.false
   | exact LC.chk fun _=>ZuS
   | exact LC.chk fun _=>ZsY
   | (refine LC.chk fun _=>?_
      rintro⟨b,hb,h⟩
      exact⟨b,hb,Zkf (fun v ⟨v1,g1,g2⟩=>⟨v1,fun K ⟨b',hb',hK⟩=>g1 K (by rw[EqIs.unique w hb hb'];exact hK),g2⟩) (ZsY h)⟩)
   | (cases hs:Zjj op
      ·exact LC.chk fun _=>ZuR
      ·exact LC.chk fun _=>ZrD)
theorem Ztz{E:Env}{s d:TypeId}{v:Value}:LE (Zrl E s d v) (Zrl E s d v):=by
 unfold Zrl
 cases E.tt s with
 | none=>exact LC.false
 | some i=>
  cases E.tt d with
  | none=>exact LC.false
  | some j=>
   simp only
   cases i.d <;> cases j.d <;> simp only <;> first
    | exact LC.false
    | exact LC.chk fun _=>LC.ret rfl
theorem ZuU{E:Env}{T:TypeId}{v:Value}:LE (Zwk E T v) (Zwk E T v):=by
 unfold Zwk
 cases E.tt T with
 | none=>exact LC.false
 | some i=>
  simp only
  cases i.d <;> simp only <;> first
   | exact LC.false
   | exact LC.ret rfl
   | exact LC.chk fun _=>LC.ret rfl
theorem ZfV{α β:Type}{ρ:α→β→Prop}{x:Option Value}{d y:Nat}{U1:Nat→(α→Prop)→Prop}{U2:Nat→(β→Prop)→Prop}(h:∀n,LC (U1 n) (U2 n) ρ)(mono:∀n {K K':β→Prop},(∀y,K y→K' y)→U2 n K→U2 n K'):
  LC (fun K=>Zhe x d y fun n=>U1 n K) (fun K=>Zhe x d y fun n=>U2 n K) ρ:=by
 cases x with
 | none=>exact h d
 | some v=>exact LC.chk fun _=>LC.and id (fun _=>h _) (mono _)
theorem Zqq{α β:Type}{ρ:α→β→Prop}{place:Nat→Option (Nat×Nat)}{f:List Value→α}{g:List Value→β}(h:∀v,ρ (f v) (g v)):∀{parts:List (Nat×Value)} {cs:List Value},LC (fun K=>ZmM place cs parts fun r=>K (f r)) (fun K=>ZmM place cs parts fun r=>K (g r)) ρ
 | [],cs=>LC.ret (h cs)
 | (i,v)::rest,cs=>by
  simp only[ZmM]
  cases place i with
  | none=>exact LC.false
  | some os=>exact LC.chk fun _=>Zqq h
theorem ZrE{E:Env}{T:TypeId}{v:Value}{lo hi mx:Option Value}:LE (ZiR E T v lo hi mx) (ZiR E T v lo hi mx):=by
 unfold ZiR
 cases Zii E T with
 | some sz=>
  simp only
  exact LC.chk fun _=>ZfV (fun m=>ZfV (fun h=>ZfV (fun l=>LC.chk fun _=>LC.ret rfl) (fun l K K' hh=>Zai (hh _))) (fun h K K' hh=>ZbF (fun l=>Zai (hh _)))) (fun m K K' hh=>ZbF (fun h=>ZbF (fun l=>Zai (hh _))))
 | none=>
  simp only
  cases Zfb E T with
  | false=>exact LC.false
  | true=>exact LC.chk fun _=>ZfV (fun h=>ZfV (fun l=>LC.ret rfl) (fun l K K' hh=>hh _)) (fun h K K' hh=>ZbF (fun l=>hh _))
structure Less (S1 S2:St):Prop where
 env:∀t sv,S1.env t=some sv→S2.env t=some sv
 L:∀id x,S1.L id=some x→S2.L id=some x
theorem Less.ev{S1 S2:St}(h:Less S1 S2){x:Operand}{sv:SV}(hx:S1.ev x=some sv):S2.ev x=some sv:=by
 cases x with
 | tmp t=>exact h.env t sv hx
 | _=>exact hx
theorem Less.den{S1 S2:St}(h:Less S1 S2){sv:SV}{v:Value}(hx:S1.den sv=some v):S2.den sv=some v:=by
 cases sv with
 | v u=>exact hx
 | loc id off=>
  simp only[St.den]at *
  cases hb:S1.L id with
  | none=>simp[hb]at hx
  | some b=>simp only[hb]at hx;simp only[h.L id b hb];exact hx
 | sl id n c=>
  simp only[St.den]at *
  cases hb:S1.L id with
  | none=>simp[hb]at hx
  | some b=>simp only[hb]at hx;simp only[h.L id b hb];exact hx
theorem Less.val{S1 S2:St}(h:Less S1 S2){x:Operand}{v:Value}(hx:S1.val x=some v):S2.val x=some v:=by
 unfold St.val at *
 cases he:S1.ev x with
 | none=>simp[he]at hx
 | some sv=>simp only[he]at hx;rw[h.ev he];exact h.den hx
section ops
variable {α β:Type} {ρ:α→β→Prop} {S1 S2:St}
theorem Zc7(hs:Less S1 S2){x:Operand}{U1:Value→(α→Prop)→Prop}{U2:Value→(β→Prop)→Prop}(h:∀v,LC (U1 v) (U2 v) ρ):
  LC (fun K=>wv S1 x fun v=>U1 v K) (fun K=>wv S2 x fun v=>U2 v K) ρ:=by
 unfold wv
 cases hv:S1.val x with
 | none=>exact LC.false
 | some v=>simp only[hs.val hv];exact h v
theorem ZnH(hs:Less S1 S2):∀{l:List Operand} {U1:List Value→(α→Prop)→Prop} {U2:List Value→(β→Prop)→Prop} (h:∀v,LC (U1 v) (U2 v) ρ),LC (fun K=>wvs S1 l fun v=>U1 v K) (fun K=>wvs S2 l fun v=>U2 v K) ρ
 | [],U1,U2,h=>h []
 | x::l,U1,U2,h=>Zc7 hs (U1:=fun v K=>wvs S1 l fun vs=>U1 (v::vs) K) (U2:=fun v K=>wvs S2 l fun vs=>U2 (v::vs) K) fun v=>ZnH hs (fun vs=>h (v::vs))
theorem Zqr(hs:Less S1 S2){x:Option Operand}{U1:Option Value→(α→Prop)→Prop}{U2:Option Value→(β→Prop)→Prop}(h:∀v,LC (U1 v) (U2 v) ρ):
  LC (fun K=>ZvY S1 x fun v=>U1 v K) (fun K=>ZvY S2 x fun v=>U2 v K) ρ:=by
 cases x with
 | none=>exact h none
 | some x=>exact Zc7 hs (U1:=fun v K=>U1 (some v) K) (U2:=fun v K=>U2 (some v) K) fun v=>h (some v)
end ops
theorem ZtA{E:Env}{S1 S2:St}(w:World)(hs:Less S1 S2){o:Oper}:LE (Zc5 E S1 o) (Zc5 E S2 o):=by
 have hr:∀{a:SV},LE (fun K:SV→Prop=>K a) (fun K=>K a):=LC.ret rfl
 have iF:∀{c:Bool} {a:SV},LE (fun K:SV→Prop=>Eng.chk c (K a)) (fun K=>Eng.chk c (K a)):=LC.chk fun _=>LC.ret rfl
 obtain⟨dst,op,type,pos,after,guard⟩:=o
 cases op <;> unfold Zc5 <;> simp only <;> try exact LC.false
 case unOp op T x=>
  refine Zc7 hs fun v=>?_
  cases op <;> simp only <;> first
   | exact LC.false
   | exact iF
   | (cases Zb4 E T <;> simp only <;> first
     | exact LC.false
     | exact iF)
 case binOp op T x y yT=>
  exact Zc7 hs fun v=>Zc7 hs fun v'=>(ZuT w).map _ _ (fun a b e=>by rw[e]) (fun h=>Znv h)
 case convert s d x=>exact Zc7 hs fun v=>Ztz.map _ _ (fun a b e=>by rw[e]) (fun h hx=>by
  unfold Zrl at *
  (repeat' split at hx) <;> first|exact hx.elim|exact Zai (h _) hx)
 case makeFunc=>exact ZnH hs fun v=>ZnH hs fun v'=>hr
 case fieldAddr T x f=>
  cases Zig E T f with
  | none=>exact LC.false
  | some fo=>
   simp only
   cases he:S1.ev x with
   | none=>exact LC.false
   | some sv=>
    simp only[hs.ev he]
    cases sv <;> first
     | exact LC.false
     | exact hr
     | exact iF
 case indexAddr T x i=>
  refine Zc7 hs fun vi=>LC.chk fun _=>?_
  cases Zwj E T with
  | none=>exact LC.false
  | some ix=>
   cases he:S1.ev x with
   | none=>
    cases ix <;> simp only
    ·exact fun h=>h.2.elim
    ·exact LC.false
   | some sv=>
    simp only[hs.ev he]
    cases ix <;> simp only
    ·cases sv <;> simp only
     ·exact LC.and id (fun _=>iF) (fun h=>Zai (h _))
     ·exact LC.and id (fun _=>hr) (fun h=>h _)
     ·exact fun h=>h.2.elim
    ·cases sv <;> simp only
     ·refine LC.chk fun _=>?_
      rintro⟨b,o,h1,h2,h3⟩
      refine⟨b,o,h1,h2,_,fun K ⟨b',o',g1,g2,g3⟩=>?_,rfl⟩
      rw[h1]at g1
      cases g1
      exact g3
     ·exact LC.false
     ·exact LC.and id (fun _=>hr) (fun h=>h _)
 case index T x i=>
  refine Zc7 hs fun v=>Zc7 hs fun vi=>LC.chk fun _=>?_
  cases Zfb E T <;> simp only[cond_true,cond_false]
  ·cases Zpf E T with
   | none=>exact LC.false
   | some len=>exact LC.chk fun _=>LC.and id (fun _=>Zqp (fun _=>rfl)) (fun h=>Zhr (fun u=>h _))
  ·exact LC.chk fun _=>LC.and id (fun _=>hr) (fun h=>h _)
 case build T parts=>
  cases Zih E T with
  | none=>exact LC.false
  | some place=>exact ZnH hs fun vs=>Zqq (fun _=>rfl)
 case extract x n=>exact Zc7 hs fun v=>LC.chk fun _=>Zqp (fun _=>rfl)
 case makeInterface T x=>exact Zc7 hs fun v=>iF
 case nilCheck x=>
  cases he:S1.ev x with
  | none=>exact LC.false
  | some sv=>
   simp only[hs.ev he]
   cases sv <;> first
    | exact LC.false
    | exact hr
    | exact iF
 case slice T x lo hi mx=>exact Zc7 hs fun v=>Zqr hs fun l=>Zqr hs fun h=>Zqr hs fun m=>ZrE.map _ _ (fun a b e=>by rw[e]) (fun h=>Zjn h)
 case call c=>
  split
  ·split
   ·exact Zc7 hs fun v=>ZuU.map _ _ (fun a b e=>by rw[e]) (fun h y=>by
     unfold Zwk at *
     (repeat' split at y) <;> first|exact y.elim|exact Zai (h _) y|exact h _ y)
   ·exact LC.false
  ·split
   ·rename_i T _ _ _
    refine Zc7 hs fun v=>Zc7 hs fun v'=>?_
    split
    ·exact iF
    ·exact LC.false
   ·exact LC.false
  ·split
   ·refine Zc7 hs fun v=>Zc7 hs fun v'=>?_
    split
    ·exact iF
    ·exact LC.false
   ·refine Zc7 hs fun v=>Zc7 hs fun v'=>Zc7 hs fun v''=>?_
    split
    ·exact iF
    ·exact LC.false
   ·exact LC.false
  ·exact LC.false
end Go.Eng
namespace Go.Eng
open Go Go.RowKit
def Mem.or(a b:Mem):Mem:=fun i o=>match a i o with
 | some v=>some v
 | none=>b i o
theorem Mem.le_or(a b:Mem):a.le (a.or b):=fun i o v h=>by simp[Mem.or,h]
theorem Mem.or_some{a b:Mem}{i o:Nat}{v:Value}(h:a.or b i o=some v):a i o=some v∨(a i o=none∧b i o=some v):=by
 unfold Mem.or at h
 cases ha:a i o with
 | some u=>simp[ha]at h;exact .inl (by rw[h])
 | none=>simp[ha]at h;exact .inr ⟨rfl,h⟩
theorem CX.frame2{P:Program}{g:FuncId}{args:Array Value}{m M:Mem}{X:List Box}{R:Value→Mem→List (List Value)→Prop}(h:CX P g args m X R)(hm:m.le M):
  CX P g args M X (fun v M' css=>∃m',m.le m'∧m'.le M'∧(∀b o u,M b o=some u→∀o',m' b o'=m b o')∧R v m' css):=by
 refine⟨h.1,fun w hs hX eH=>?_⟩
 have bQ:∀{b o},M b o=none→m b o=none:=fun {b o} hb=>by
  cases he:m b o with
  | none=>rfl
  | some v=>rw[hm _ _ _ he]at hb;cases hb
 have hX':∀x∈X,Own m w x∧x.fz=false:=fun x hx=>by
  obtain⟨ho,hz⟩:=hX x hx
  exact⟨⟨ho.cells,fun _ o=>bQ (ho.free hz o),fun hz'=>by simp[hz]at hz',ho.whole⟩,hz⟩
 refine(h.2 w (fun b o v hv=>hs b o v (hm _ _ _ hv)) hX' eH).mono ?_
 rintro e w' ⟨v,m',css,rfl,a2,a3,a4,a5,a6,a7,a8⟩
 have cP:m'.le (M.or m'):=fun b o u hu=>by
  cases hM:M b o with
  | none=>simp[Mem.or,hM,hu]
  | some u'=>
   rcases a4 b o u hu with h1|h1
   ·rw[hm _ _ _ h1]at hM;cases hM;simp[Mem.or,hm _ _ _ h1]
   ·have:=hs.lt hM;omega
 have dN:∀b o u,M b o=some u→∀o',m' b o'=m b o':=fun b o u hu o'=>by
  cases hm':m' b o' with
  | none=>
   cases gf:m b o' with
   | none=>rfl
   | some x=>have:=a2 _ _ _ gf;rw[hm']at this;cases this
  | some x=>
   rcases a4 b o' x hm' with h1|h1
   ·exact h1.symm
   ·have:=hs.lt hu;omega
 refine⟨v,M.or m',css,rfl,Mem.le_or _ _,?_,?_,a5,a6,?_,m',a2,cP,dN,a8⟩
 ·intro b o u hu
  rcases Mem.or_some hu with h1|⟨h1,h2⟩
  ·have bK:=hs.lt h1
   rw[ZbA (a5.block b bK ?_)]
   ·exact hs b o u h1
   ·intro cX
    obtain⟨x,hx,rfl⟩:=List.mem_map.1 cX
    obtain⟨ho,hz⟩:=hX x hx
    have:=ho.free hz o
    rw[h1]at this;cases this
  ·exact a3 b o u h2
 ·intro b o u hu
  rcases Mem.or_some hu with h1|⟨h1,h2⟩
  ·exact .inl h1
  ·rcases a4 b o u h2 with h3|h3
   ·rw[hm _ _ _ h3]at h1;cases h1
   ·exact .inr h3
 ·intro i x cs hi bT
  have ho:=a7 i x cs hi bT
  obtain⟨mz,hz⟩:=hX x (List.mem_of_getElem? hi)
  refine⟨ho.cells,fun _ o=>?_,fun hz'=>by simp[hz]at hz',ho.whole⟩
  simp only[Mem.or,mz.free hz o]
  exact ho.free hz o
theorem CX.frame{P:Program}{g:FuncId}{args:Array Value}{m M:Mem}{X:List Box}{R:Value→Mem→List (List Value)→Prop}(h:CX P g args m X R)(hm:m.le M):
  CX P g args M X (fun v M' css=>∃m',m.le m'∧m'.le M'∧R v m' css):=(h.frame2 hm).mono fun _ _ _ _ ⟨m',a1,a2,_,a4⟩=>⟨m',a1,a2,a4⟩
theorem Zff{m:Mem}{b o:Nat}{xs ys:List Value}(h:m.reads b o xs)(k:m.reads b o ys)(hl:xs.length=ys.length):xs=ys:=by
 refine List.ext_getElem hl fun i h1 h2=>?_
 have a:=h i _ (List.getElem?_eq_getElem h1)
 have b:=k i _ (List.getElem?_eq_getElem h2)
 rw[a]at b;exact Option.some.inj b
theorem Zfg{m:Mem}{a:Option Addr}{xs ys:List Value}(h:rowRd m a xs)(k:rowRd m a ys)(hl:xs.length=ys.length):xs=ys:=by
 rcases h with h|⟨b,o,h1,h2⟩
 ·subst h;simp at hl;exact(List.eq_nil_of_length_eq_zero hl.symm).symm
 ·rcases k with k|⟨b',o',k1,k2⟩
  ·subst k;simpa using hl
  ·rw[h1]at k1;cases k1
   exact Zff h2 k2 hl
theorem Zpp{i:TI}{m M:Mem}(hm:m.le M){b o:Nat}:LE (Zda i m b o) (Zda i M b o):=by
 intro h
 unfold Zda at *
 cases ha:i.agg with
 | false=>
  simp only[ha,cond_false]at *
  obtain⟨v,hv,_⟩:=h
  exact⟨v,hm _ _ _ hv,v,fun K ⟨v',hv',hK⟩=>by rw[hv]at hv';cases hv';exact hK,rfl⟩
 | true=>
  simp only[ha,cond_true]at *
  cases hb:Nat.ble i.size 16 with
  | true=>
   simp only[hb,cond_true]at *
   obtain⟨vs,hl,hr,_⟩:=Zik h
   refine Zj8 vs hl ⟨hr.mono hm,_,fun K hK=>?_,rfl⟩
   obtain⟨vs',hl',hr',hK⟩:=Zik hK
   rw[Zff hr hr' (by omega)];exact hK
  | false=>
   simp only[hb,cond_false]at *
   obtain⟨vs,hl,hr,_⟩:=h
   refine⟨vs,hl,hr.mono hm,_,fun K ⟨vs',hl',hr',hK⟩=>?_,rfl⟩
   rw[Zff hr hr' (by omega)];exact hK
theorem Zlv{i:TI}{x:Box}{off:Nat}:LE (ZcH i x off) (ZcH i x off):=by
 unfold ZcH
 cases i.agg <;> simp only[cond_true,cond_false]
 ·exact Zqp (fun _=>rfl)
 ·cases(x.full&&(Nat.beq x.cap i.size&&Nat.beq off 0)) <;> simp only[cond_true,cond_false]
  ·exact LC.chk fun _=>LC.ret rfl
  ·exact LC.ret rfl
theorem ZtB{E:Env}{S1 S2:St}(hs:Less S1 S2){m M:Mem}(hm:m.le M){T:TypeId}{x:Operand}:LE (ZfO E S1 m T x) (ZfO E S2 M T x):=by
 unfold ZfO
 cases E.tt T with
 | none=>exact LC.false
 | some i=>
  simp only
  cases he:S1.ev x with
  | none=>exact LC.false
  | some sv=>
   simp only[hs.ev he]
   cases sv with
   | v u=>
    simp only
    cases Zfc E x with
    | none=>exact LC.chk fun _=>Zpp hm
    | some id=>
     simp only
     cases hx:S1.L id with
     | none=>exact LC.false
     | some bx=>
      simp only[hs.L id bx hx]
      exact LC.chk fun _=>LC.and (fun h=>h) (fun _=>Zlv) (fun h=>ZdN h)
   | loc id off=>
    simp only
    cases hx:S1.L id with
    | none=>exact LC.false
    | some bx=>simp only[hs.L id bx hx];exact Zlv
   | sl id n c=>exact LC.false
structure OutB (rs:List Nat)(tk:Option Nat)(g:Bool)(m M:Mem)(S1 S2:St)(y1 y2:St×Mem):Prop where
 env1:y1.1.env=S1.env
 env2:y2.1.env=S2.env
 L:∀id,(id∈rs∧y1.1.L id=y2.1.L id)∨(y1.1.L id=S1.L id∧y2.1.L id=S2.L id)
 tok:∀k,(tk=some k∧y1.1.tok k=y2.1.tok k)∨(y1.1.tok k=S1.tok k∧y2.1.tok k=S2.tok k)
 le:y1.2.le y2.2
 same:g=false→y1.2=m∧y2.2=M
 gh2:y2.1.gh=S2.gh
structure Out (rs:List Nat)(tk:Option Nat)(g:Bool)(m M:Mem)(dst:Option Tmp)(S1 S2:St)(y1 y2:St×Mem):Prop where
 env1:∀t sv,dst=some t→y1.1.env t=some sv→y2.1.env t=some sv
 env2:∀t,dst≠some t→y2.1.env t=S2.env t
 L:∀id,(id∈rs∧y1.1.L id=y2.1.L id)∨(y1.1.L id=S1.L id∧y2.1.L id=S2.L id)
 tok:∀k,(tk=some k∧y1.1.tok k=y2.1.tok k)∨(y1.1.tok k=S1.tok k∧y2.1.tok k=S2.tok k)
 le:y1.2.le y2.2
 same:g=false→y1.2=m∧y2.2=M
 gh2:y2.1.gh=S2.gh
section
variable {rs:List Nat} {tk:Option Nat} {g:Bool} {m M:Mem} {S1 S2:St}
theorem Zxj(S:St)(d:Option Tmp)(x:Option SV):(S.put d x).L=S.L:=by cases d <;> rfl
theorem ZuV(S:St)(d:Option Tmp)(x:Option SV):(S.put d x).tok=S.tok:=by cases d <;> rfl
theorem OutB.put{y1 y2:St×Mem}(h:OutB rs tk g m M S1 S2 y1 y2)(dst:Option Tmp){x1 x2:Option SV}(hx:∀sv,x1=some sv→x2=some sv):Out rs tk g m M dst S1 S2 (y1.1.put dst x1,y1.2) (y2.1.put dst x2,y2.2):=by
 refine⟨?_,?_,by simpa[Zxj]using h.L,by simpa[ZuV]using h.tok,h.le,h.same,by have:=h.gh2;cases dst <;> exact this⟩
 ·intro t sv ht qD
  subst ht
  simp[St.put]at *
  exact hx _ qD
 ·intro t ht
  cases dst with
  | none=>simp[St.put,h.env2]
  | some d=>simp[St.put,Zar (fun e=>ht (by rw[e]):t≠d),h.env2]
theorem OutB.refl(hm:m.le M):OutB rs tk g m M S1 S2 (S1,m) (S2,M):=⟨rfl,rfl,fun _=>.inr ⟨rfl,rfl⟩,fun _=>.inr ⟨rfl,rfl⟩,hm,fun _=>⟨rfl,rfl⟩,rfl⟩
theorem Out.put0(hm:m.le M)(dst:Option Tmp){x1 x2:Option SV}(hx:∀sv,x1=some sv→x2=some sv):Out rs tk g m M dst S1 S2 (S1.put dst x1,m) (S2.put dst x2,M):=
 (OutB.refl (rs:=rs) (tk:=tk) (g:=g) (S1:=S1) (S2:=S2) hm).put dst hx
theorem OutB.setL(hm:m.le M){id:Nat}(cW:id∈rs)(x:Option Box):OutB rs tk g m M S1 S2 (S1.setL id x,m) (S2.setL id x,M):=by
 refine⟨rfl,rfl,fun i=>?_,fun _=>.inr ⟨rfl,rfl⟩,hm,fun _=>⟨rfl,rfl⟩,rfl⟩
 by_cases hi:i=id
 ·subst hi;exact .inl ⟨cW,by simp[St.setL]⟩
 ·exact .inr (by simp[St.setL,Zar hi])
theorem OutB.newL{m' M':Mem}(hm:m'.le M')(hg:g=false→m'=m∧M'=M){id:Nat}(cW:id∈rs)(x:Box):OutB rs tk g m M S1 S2 (S1.newL id x,m') (S2.newL id x,M'):=by
 refine⟨rfl,rfl,fun i=>?_,fun _=>.inr ⟨rfl,rfl⟩,hm,hg,rfl⟩
 by_cases hi:i=id
 ·subst hi;exact .inl ⟨cW,by simp[St.newL]⟩
 ·exact .inr (by simp[St.newL,Zar hi])
end
mutual
theorem Shape.all_intro:∀(s:Shape){k:Value→Prop},(∀v,k v)→s.all k
 | .any,k,h=>by simpa only[Shape.all]using h
 | .int ki,k,h=>by simp only[Shape.all];exact fun n=>h _
 | .bool,k,h=>by simp only[Shape.all];exact fun n=>h _
 | .str,k,h=>by simp only[Shape.all];exact fun n=>h _
 | .slice,k,h=>by simp only[Shape.all];exact fun _ _ _=>h _
 | .agg l,k,h=>by simp only[Shape.all];exact Shape.allL_intro l (fun vs=>h _)
 | .tup l,k,h=>by simp only[Shape.all];exact Shape.allL_intro l (fun vs=>h _)
 | .fn,k,h=>by simp only[Shape.all];exact fun _ _ _=>h _
 | .cells,k,h=>by simp only[Shape.all];exact fun _=>h _
 | .ptr,k,h=>by simp only[Shape.all];exact fun _ _=>h _
theorem Shape.allL_intro:∀(l:List Shape){k:List Value→Prop},(∀v,k v)→Shape.allL l k
 | [],k,h=>by simp only[Shape.allL];exact h _
 | s::l,k,h=>by simp only[Shape.allL];exact Shape.all_intro s (fun v=>Shape.allL_intro l (fun vs=>h _))
end
theorem allL_intro:∀{n:Nat} {k:List (List Value)→Prop},(∀l,l.length=n→k l)→allL n k
 | 0,k,h=>h [] rfl
 | n+1,k,h=>fun cs=>allL_intro (fun l hl=>h (cs::l) (by simp[hl]))
def Env.fixed(E:Env)(f:List Value→Mem→Value→Mem→List (List Value)→Prop):Env:={ E with fix:=some f }
section
variable {rs:List Nat} {tk:Option Nat} {g:Bool} {S1 S2:St} {m M:Mem}
theorem ZrF{E:Env}{f:List Value→Mem→Value→Mem→List (List Value)→Prop}(hs:Less S1 S2)(jO:∀id x,S1.L id=some x→id∈rs)(hm:m.le M){T:TypeId}{x:Operand}{v:Value}:
  LC (fun K:St×Mem→Prop=>ZgW (E.fixed f) S1 T x v fun S'=>K (S',m)) (fun K:St×Mem→Prop=>ZgW E S2 T x v fun S'=>K (S',M)) (OutB rs tk g m M S1 S2):=by
 unfold ZgW
 show LC (fun K=>match E.tt T with
  | none=>False
  | some i=>_) _ _
 cases E.tt T with
 | none=>exact LC.false
 | some i=>
  simp only
  cases he:S1.ev x with
  | none=>exact LC.false
  | some sv=>
   simp only[hs.ev he]
   cases sv with
   | loc id off=>
    simp only
    cases hx:S1.L id with
    | none=>exact LC.false
    | some bx=>
     simp only[hs.L id bx hx]
     refine LC.chk fun _=>?_
     cases(bx.full&&(Nat.beq bx.cap i.size&&Nat.beq off 0)) <;> simp only[cond_true,cond_false]
     ·exact LC.chk fun _=>LC.ret (OutB.setL hm (jO id bx hx) _)
     ·exact LC.ret (OutB.setL hm (jO id bx hx) _)
   | v u=>
    simp only
    show LC (fun K=>match Zfc E x with
     | none=>False
     | some id=>_) _ _
    cases Zfc E x with
    | none=>exact LC.false
    | some id=>
     simp only
     cases hx:S1.L id with
     | none=>exact LC.false
     | some bx=>
      simp only[hs.L id bx hx]
      refine LC.chk fun _=>?_
      rintro⟨h1,h2,_⟩
      exact⟨h1,h2,_,fun K hK=>hK.2.2,OutB.setL hm (jO id bx hx) _⟩
   | sl id n c=>exact LC.false
theorem ZtC{E:Env}{f:List Value→Mem→Value→Mem→List (List Value)→Prop}(hs:Less S1 S2)(jO:∀id x,S1.L id=some x→id∈rs)(hm:m.le M){T:TypeId}{id:Nat}{vd vs:Value}:
  LC (fun K:Int×(St×Mem)→Prop=>Zo3 (E.fixed f) S1 m T id vd vs fun n S'=>K (n,(S',m))) (fun K:Int×(St×Mem)→Prop=>Zo3 E S2 M T id vd vs fun n S'=>K (n,(S',M))) (fun y1 y2=>y1.1=y2.1∧OutB rs tk g m M S1 S2 y1.2 y2.2∧y1.2.2=m∧y2.2.2=M):=by
 unfold Zo3
 show LC (fun K=>match ZaB E T with
  | none=>False
  | some (e,j)=>_) _ _
 cases ZaB E T with
 | none=>exact LC.false
 | some ej=>
  obtain⟨e,j⟩:=ej
  simp only
  cases hx:S1.L id with
  | none=>exact LC.false
  | some bx=>
   simp only[hs.L id bx hx]
   refine LC.chk fun _=>?_
   intro h vS
   have hf:m.free bx.b:=fun o=>by
    cases he:m bx.b o with
    | none=>rfl
    | some u=>have:=hm _ _ _ he;rw[vS o]at this;cases this
   obtain⟨o,xs,h1,h2,h3,h4,h5,_⟩:=h hf
   refine⟨o,xs,h1,h2,h3,h4,h5.imp_left (fun h=>h.mono hm),(_,(S1.setL id (some { bx with cs:=Zan bx.cs o xs }),m)),fun K hK=>?_,rfl,OutB.setL hm (jO id bx hx) _,rfl,rfl⟩
   obtain⟨o',xs',g1,g2,g3,g4,g5,g6⟩:=hK hf
   rw[h1]at g1
   obtain rfl:o=o':=by simpa using g1
   have hl:xs.length=xs'.length:=by rw[h2,g2]
   have eD:∀{as:Option Addr} {ys:List Value} {p:Nat},rowRd m as ys→as=some ⟨bx.b,p,none⟩→ys=[]:=fun {as ys p} hy ha=>by
    rcases hy with hy|⟨b1,o1,mR,hy⟩
    ·exact hy
    ·rw[ha]at mR
     simp only[Option.some.injEq,Addr.mk.injEq,and_true]at mR
     obtain⟨rfl,rfl⟩:=mR
     cases rq:ys with
     | nil=>rfl
     | cons u l=>subst rq;have:=hy 0 u rfl;rw[hf]at this;cases this
   have jP:xs=xs':=by
    rcases h5 with h5|⟨p,hp,h5⟩
    ·rcases g5 with g5|⟨p',hp',g5⟩
     ·exact Zfg h5 g5 hl
     ·have:=eD h5 hp';subst this
      exact(List.eq_nil_of_length_eq_zero hl.symm).symm
    ·rcases g5 with g5|⟨p',hp',g5⟩
     ·have:=eD g5 hp;subst this
      exact List.eq_nil_of_length_eq_zero hl
     ·rw[hp]at hp'
      obtain rfl:p=p':=by simpa using hp'
      apply List.ext_getElem?
      intro i
      by_cases hi:i < xs.length
      ·have e1:=h5 i _ (List.getElem?_eq_getElem hi)
       have e2:=g5 i _ (List.getElem?_eq_getElem (by omega))
       rw[e1]at e2
       rw[List.getElem?_eq_getElem hi,List.getElem?_eq_getElem (by omega)]
       exact e2
      ·rw[List.getElem?_eq_none (by omega),List.getElem?_eq_none (by omega)]
   subst jP
   exact g6
theorem Zhx(hs:Less S1 S2):∀{ids:List Nat} {bxs:List Box},Zbm S1 ids=some bxs→Zbm S2 ids=some bxs
 | [],bxs,h=>h
 | id::l,bxs,h=>by
  simp only[Zbm]at *
  cases hx:S1.L id with
  | none=>simp[hx]at h
  | some x=>
   simp only[hx]at h
   simp only[hs.L id x hx]
   cases hb:Zbm S1 l with
   | none=>simp[hb]at h
   | some xs=>simp only[hb]at h;simp only[Zhx hs hb];exact h
theorem ZtD{E:Env}(hE:E.fix=none){f:List Value→Mem→Value→Mem→List (List Value)→Prop}(hs:Less S1 S2)(jO:∀id x,S1.L id=some x→id∈rs)(hm:m.le M){rt:TypeId}{gg:FuncId}{args:List Value}{ids:List Nat}{γ:Value→St→Option SV}:
  LC (fun K:Value×(St×Mem)→Prop=>ZmN (E.fixed f) S1 m rt gg args ids fun v S' m'=>K (v,(S',m'))) (fun K:Value×(St×Mem)→Prop=>ZmN E S2 M rt gg args ids fun v S' m'=>K (v,(S',m'))) (fun y1 y2=>y1.1=y2.1∧OutB rs tk true m M S1 S2 y1.2 y2.2):=by
 intro h
 unfold ZmN at *
 cases hb:Zbm S1 ids with
 | none=>simp[hb]at h
 | some bxs=>
  simp only[hb]at h
  simp only[Zhx hs hb]
  obtain⟨h1,R,h0,iA,eM,_⟩:=Zaf h
  have h0':R=f args m:=h0
  obtain⟨bN,cX⟩:=Zcb hb
  simp only[Bool.and_eq_true]at h1
  have eH:=ZaG h1.2
  refine Zaa (by simp[h1.1,h1.2]) ⟨fun v M' css=>∃m',m.le m'∧m'.le M'∧R v m' css,by rw[hE];trivial,iA.frame hm,fun v m' css ⟨_,_,_,hR⟩=>eM _ _ _ hR,?_⟩
  refine Shape.all_intro _ fun v M' hM'=>allL_intro fun css gq ⟨m',g1,g2,hR⟩=>⟨(v,(Zc6 S1 ids bxs css,m')),fun K hK=>?_,rfl,?_⟩
  ·obtain⟨_,R',h0'',_,_,bS⟩:=Zaf hK
   have h0''':R'=f args m:=h0''
   have vT:R'=R:=by rw[h0''',h0']
   subst vT
   exact Zhg (Shape.all_fits _ _ bS v (eM _ _ _ hR) m' g1) css gq hR
  ·refine⟨by rw[Zdb],by rw[Zdb],fun id=>?_,fun k=>.inr ⟨by rw[Zdb],by rw[Zdb]⟩,g2,fun h=>(by cases h),by rw[Zdb]⟩
   rcases ZeE (S:=S1) eH bN gq id with⟨a1,a2⟩|⟨i,x,cs,a1,a2,a3,a4⟩
   ·rcases ZeE (S:=S2) eH bN gq id with⟨b1,b2⟩|⟨i',x',cs',b1,b2,b3,b4⟩
    ·exact .inr ⟨a2,b2⟩
    ·exact absurd (List.mem_of_getElem? b1) a1
   ·rcases ZeE (S:=S2) eH bN gq id with⟨b1,b2⟩|⟨i',x',cs',b1,b2,b3,b4⟩
    ·exact absurd (List.mem_of_getElem? a1) b1
    ·obtain⟨id',c1,c2⟩:=cX i x a2
     rw[a1]at c1;cases c1
     have hi:=(List.getElem?_eq_some_iff.1 a1).1
     have:i=i':=(List.getElem?_inj hi eH).1 (by rw[a1,b1])
     subst this
     rw[a2]at b2;rw[a3]at b3;cases b2;cases b3
     exact .inl ⟨jO _ _ c2,by rw[a4,b4]⟩
theorem Zpq{E:Env}{f:List Value→Mem→Value→Mem→List (List Value)→Prop}(hm:m.le M){T xT:TypeId}{key:Nat}{vs vx:Value}(ig:tk=some key)(bW:∀k,tk=some k→S1.tok k=S2.tok k):
  LC (fun K:Value×(St×Mem)→Prop=>Zfy (E.fixed f) S1 m T xT key vs vx fun v t m'=>K (v,({ S1 with tok:=t,tkeys:=key::S1.tkeys },m'))) (fun K:Value×(St×Mem)→Prop=>Zfy E S2 M T xT key vs vx fun v t m'=>K (v,({ S2 with tok:=t,tkeys:=key::S2.tkeys },m'))) (fun y1 y2=>y1.1=y2.1∧OutB rs tk true m M S1 S2 y1.2 y2.2):=by
 unfold Zfy
 show LC (fun K=>match ZaB E T with
  | none=>False
  | some (_,j)=>match ZaB E xT with
   | none=>False
   | some (_,j')=>_) _ _
 cases ZaB E T with
 | none=>exact LC.false
 | some ej=>
  cases ZaB E xT with
  | none=>exact LC.false
  | some ej'=>
   simp only
   refine LC.chk fun _=>?_
   have l6:LC (fun K:Value×(St×Mem)→Prop=>ZvQ (E.fixed f) S1 m ej.2 key vs vx fun v t m'=>K (v,({ S1 with tok:=t,tkeys:=key::S1.tkeys },m'))) (fun K:Value×(St×Mem)→Prop=>ZvQ E S2 M ej.2 key vs vx fun v t m'=>K (v,({ S2 with tok:=t,tkeys:=key::S2.tkeys },m'))) (fun y1 y2=>y1.1=y2.1∧OutB rs tk true m M S1 S2 y1.2 y2.2):=?body
   case body=>
    unfold ZvQ
    rintro⟨ht,xs,ys,a1,a2,a3,a4,a5,a6,a7,_⟩
    rw[bW key ig]at ht
    refine⟨ht,xs,ys,a1,a2,a3.mono hm,a4.mono hm,a5,a6,a7,fun a' c' M' hM' hr=>?_⟩
    refine Zro fun pa ge=>⟨(.slice a' (slN vs+slN vx) c',({ S1 with tok:=(fun k=>bif Nat.beq k key then some ⟨.slice a' (slN vs+slN vx) c',ej.2.size⟩ else S1.tok k),tkeys:=key::S1.tkeys },M')),fun K hK=>?_,rfl,⟨rfl,rfl,fun _=>.inr ⟨rfl,rfl⟩,fun k=>?_,Mem.le_refl _,fun h=>(by cases h),rfl⟩⟩
    ·obtain⟨_,xs',ys',b1,b2,b3,b4,_,_,_,b8⟩:=hK
     rw[Zfg a3 b3 (by omega),Zfg a4 b4 (by omega)]at hr
     exact Zma (b8 a' c' M' (Mem.le_trans hm hM') hr) (fun ht=>(pa ht).mono hm) ge
    ·by_cases hk:k=key
     ·subst hk;exact .inl ⟨ig,by simp⟩
     ·exact .inr (by simp[Zar hk])
   show LC (fun K=>bif E.tails then br (Nat.beq (slN vx) 0) (chk (Nat.ble (slN vs) (slC vs)) _) _ else _) (fun K=>bif E.tails then br (Nat.beq (slN vx) 0) (chk (Nat.ble (slN vs) (slC vs)) _) _ else _) _
   cases E.tails with
   | false=>exact l6
   | true=>
    refine LC.br (LC.chk fun _=>LC.ret ⟨rfl,⟨rfl,rfl,fun _=>.inr ⟨rfl,rfl⟩,fun k=>?_,hm,fun h=>(by cases h),rfl⟩⟩) l6
    by_cases hk:k=key
    ·subst hk;exact .inl ⟨ig,bW k ig⟩
    ·exact .inr ⟨rfl,rfl⟩
end
end Go.Eng
namespace Go.Eng
open Go Go.RowKit
theorem Mem.add_le{m M:Mem}(h:m.le M)(b:Nat)(cs:List Value):(m.add b cs).le (M.add b cs):=fun b' o v hv=>by
 by_cases hb:b'=b
 ·subst hb;rw[Mem.add_same]at hv ⊢;exact hv
 ·rw[Mem.add_other _ hb]at hv ⊢;exact h _ _ _ hv
theorem Zju{S1 S2:St}(hs:Less S1 S2):∀{l:List Operand} {k:List Value→Prop},wvs S1 l k→Zdc S1 l=Zdc S2 l
 | [],k,h=>rfl
 | x::l,k,h=>by
  obtain⟨v,hv,h⟩:=ZaD h
  have ih:=Zju hs h
  unfold St.val at hv
  cases he:S1.ev x with
  | none=>simp[he]at hv
  | some sv=>
   simp only[Zdc,he,hs.ev he,ih]
   cases sv with
   | loc id off=>
    simp only[he,St.den]at hv
    cases hx:S1.L id with
    | none=>simp[hx]at hv
    | some x=>simp only[hx,hs.L id x hx]
   | _=>rfl
def ZtE(E:Env)(rs:List Nat)(tk:Option Nat)(o:Oper):Bool:=match o.op with
 | .alloc _=>(match o.dst with
  | some d=>rs.any (Nat.beq d ·)
  | none=>false)
 | .box _ _=>(match o.dst with
  | some d=>rs.any (Nat.beq d ·)
  | none=>false)
 | .buildSlice _ _ _=>(match o.dst with
  | some d=>rs.any (Nat.beq d ·)
  | none=>false)
 | .makeSlice _ _ _=>(match o.dst with
  | some d=>rs.any (Nat.beq d ·)
  | none=>false)
 | .call c=>(match c.callee with
  | .builtin .append=>(match o.dst,tk with
   | some d,some k=>Nat.beq (E.tokOf d) k
   | _,_=>false)
  | _=>(ZeF E o.dst).isNone)
 | .store _ x _=>(match Zno E x with
  | none=>true
  | some _=>false)
 | _=>true
theorem Zlw{E:Env}{rs:List Nat}{tk:Option Nat}{o:Oper}(h:ZtE E rs tk o=true):Zny E o:=by
 refine⟨fun T x y e=>?_,fun f as ats e=>?_⟩
 ·unfold ZtE at h
  rw[e]at h
  cases hs:Zno E x with
  | none=>rfl
  | some k=>simp[hs]at h
 ·unfold ZtE at h
  rw[e]at h
  simpa using h
def ZnI(rs:List Nat)(o:Oper):List Nat:=match o.op with
 | .alloc _=>dl o.dst
 | .box _ _=>dl o.dst
 | .buildSlice _ _ _=>dl o.dst
 | .makeSlice _ _ _=>dl o.dst
 | .store _ _ _=>rs
 | .call c=>(match c.callee with
  | .value _=>rs
  | .builtin .copy=>rs
  | _=>[])
 | _=>[]
def ZdZ(o:Oper):Bool:=match o.op with
 | .buildSlice _ _ _=>true
 | .call c=>(match c.callee with
  | .value _=>true
  | .builtin .append=>true
  | _=>false)
 | _=>false
section
variable {rs:List Nat} {tk:Option Nat} {S1 S2:St} {m M:Mem}
theorem Zwp{E:Env}(w:World)(hE:E.fix=none){f:List Value→Mem→Value→Mem→List (List Value)→Prop}(hs:Less S1 S2)(jO:∀id x,S1.L id=some x→id∈rs)(hL:∀id∈rs,S1.L id=S2.L id)
  (bW:∀k,tk=some k→S1.tok k=S2.tok k) (hm:m.le M) {o:Oper} (jE:ZtE E rs tk o=true):
  LC (fun K:St×Mem→Prop=>opW (E.fixed f) S1 m o fun S' m'=>K (S',m')) (fun K:St×Mem→Prop=>opW E S2 M o fun S' m'=>K (S',m')) (Out (ZnI rs o) tk (ZdZ o) m M o.dst S1 S2):=by
 have gi:∀(rs:List Nat)(g:Bool)(o:Oper),LC (fun K:St×Mem→Prop=>Zc5 (E.fixed f) S1 o fun sv=>K (S1.put o.dst (some sv),m)) (fun K:St×Mem→Prop=>Zc5 E S2 o fun sv=>K (S2.put o.dst (some sv),M)) (Out rs tk g m M o.dst S1 S2):=fun rs g o=>by
  refine LC.map (f:=fun sv=>(S1.put o.dst (some sv),m)) (g:=fun sv=>(S2.put o.dst (some sv),M)) (ρ:=Eq) (T1:=fun K=>Zc5 (E.fixed f) S1 o K) (T2:=fun K=>Zc5 E S2 o K) ?_ ?_ ?_
  ·exact(ZtA w hs:LE (Zc5 E S1 o) (Zc5 E S2 o))
  ·rintro a b rfl
   exact Out.put0 hm _ (fun sv h=>h)
  ·exact fun h=>Zlp h
 obtain⟨dst,op,type,pos,after,guard⟩:=o
 have jj:∀(rs:List Nat)(g:Bool)(x:Operand),LC (fun K:St×Mem→Prop=>K (S1.put dst (S1.ev x),m)) (fun K:St×Mem→Prop=>K (S2.put dst (S2.ev x),M)) (Out rs tk g m M dst S1 S2):=fun rs g x=>LC.ret (Out.put0 hm _ (fun sv h=>hs.ev h))
 have dN:∀{g:Bool} {d:Nat} {x:Box} {sv:SV},Out [d] tk g m M (some d) S1 S2 ((S1.newL d x).put (some d) (some sv),m) ((S2.newL d x).put (some d) (some sv),M):=fun {g d x sv}=>(OutB.newL hm (fun _=>⟨rfl,rfl⟩) (by simp) x).put (some d) (fun sv h=>h)
 cases op with
 | move x=>exact jj _ _ x
 | assign x=>exact jj _ _ x
 | pick c x y=>exact Zc7 hs fun v=>LC.chk fun _=>LC.br (jj _ _ x) (jj _ _ y)
 | load T x=>
  have hq:Zqj (E.fixed f) dst=Zqj E dst:=rfl
  simp only[opW,hq]
  cases mN:Zqj E dst with
  | some y=>exact LC.false
  | none=>
  refine LC.map (f:=fun v=>(S1.put dst (some (.v v)),m)) (g:=fun v=>(S2.put dst (some (.v v)),M)) (ρ:=Eq) (T1:=fun K=>ZfO (E.fixed f) S1 m T x K) (T2:=fun K=>ZfO E S2 M T x K) ?_ ?_ ?_
  ·exact(ZtB hs hm:LE (ZfO E S1 m T x) (ZfO E S2 M T x))
  ·rintro a b rfl
   exact Out.put0 hm _ (fun sv h=>h)
  ·exact fun h=>ZfR h
 | store T x y=>
  refine Zc7 hs fun v=>?_
  show LC (fun K=>match Zno E x with
   | none=>_
   | some key=>bif (E.fixed f).fix.isSome then False else _) (fun K=>match Zno E x with
   | none=>_
   | some key=>_) _
  cases Zno E x with
  | some key=>exact LC.false
  | none=>
  refine LC.map (f:=fun y:St×Mem=>(y.1.put dst none,m)) (g:=fun y:St×Mem=>(y.1.put dst none,M)) (ρ:=fun y1 y2=>OutB rs tk false m M S1 S2 y1 y2∧y1.2=m∧y2.2=M) ?_ ?_ ?_ (T1:=fun K=>ZgW (E.fixed f) S1 T x v fun S'=>K (S',m)) (T2:=fun K=>ZgW E S2 T x v fun S'=>K (S',M))
  ·exact fun h=>Zgv (fun S' _ ⟨y1,g1,g2⟩=>⟨(y1.1,m),fun K hK=>g1 (fun y=>K (y.1,m)) hK,⟨g2.env1,g2.env2,g2.L,g2.tok,hm,fun _=>⟨rfl,rfl⟩,g2.gh2⟩,rfl,rfl⟩) (ZrF (tk:=tk) (rs:=rs) (g:=false) hs jO hm h)
  ·rintro a b ⟨h1,h2,h3⟩
   have:=h1.put dst (x1:=none) (x2:=none) (fun sv h=>h)
   rw[h2,h3]at this;exact this
  ·exact fun h=>Zgv (fun S' _=>h _)
 | alloc T=>
  simp only[opW,Zrn,ZtE]at *
  cases dst with
  | none=>exact LC.false
  | some d=>
   simp only
   show LC (fun K=>match E.tt T with
    | none=>False
    | some i=>_) _ _
   cases E.tt T with
   | none=>exact LC.false
   | some i=>
    simp only at jE ⊢
    rw[hL d (ZfA.1 jE)]
    cases hx:S2.L d with
    | some x=>exact LC.false
    | none=>exact fun _ b=>⟨_,fun K hK=>hK b,dN⟩
 | box T x=>
  refine Zc7 hs fun v=>?_
  show LC (fun K=>bif Zgn E dst then(bif (E.fixed f).fix.isSome then False else _)else _) (fun K=>bif Zgn E dst then _ else _) _
  cases eR:Zgn E dst with
  | true=>exact LC.false
  | false=>
  simp only[cond_false]
  simp only[Zxe,ZtE]at *
  cases dst with
  | none=>exact LC.false
  | some d=>
   simp only
   show LC (fun K=>match E.tt T with
    | none=>False
    | some i=>_) _ _
   cases E.tt T with
   | none=>exact LC.false
   | some i=>
    simp only at jE ⊢
    rw[hL d (ZfA.1 jE)]
    cases hx:S2.L d with
    | some x=>exact LC.false
    | none=>exact LC.chk fun _ _ b=>⟨_,fun K hK=>hK b,dN⟩
 | buildSlice T len parts=>
  simp only[opW]
  have hq:Zdn (E.fixed f) dst=Zdn E dst:=rfl
  simp only[hq]
  cases iX:Zdn E dst with
  | some ke=>exact LC.false
  | none=>
  simp only[ZeG,ZtE]at *
  cases dst with
  | none=>exact LC.false
  | some d=>
   simp only
   show LC (fun K=>match E.tt T with
    | none=>False
    | some t=>match t.d with
     | .slice e=>match E.tt e with
      | none=>False
      | some i=>_
     | _=>False) _ _
   cases E.tt T with
   | none=>exact LC.false
   | some t=>
    simp only
    cases t.d <;> simp only <;> try exact LC.false
    rename_i e
    cases E.tt e with
    | none=>exact LC.false
    | some i=>
     simp only at jE ⊢
     rw[hL d (ZfA.1 jE)]
     cases hx:S2.L d with
     | some x=>exact LC.false
     | none=>
      refine LC.chk fun _=>ZnH hs fun vs=>LC.chk fun _ _ b hb=>⟨_,fun K hK=>hK b ?_,?_⟩
      ·intro o
       cases he:m b o with
       | none=>rfl
       | some v=>have:=hm _ _ _ he;rw[hb o]at this;cases this
      ·exact(OutB.newL (Mem.add_le hm b (ZbL vs)) (fun h=>by cases h) (by simp[ZnI,dl]) _).put (some d) (fun sv h=>h)
 | makeSlice T l c=>
  have hq:Zdn (E.fixed f) dst=Zdn E dst:=rfl
  simp only[opW,hq]
  have jy:ZsU (E.fixed f) dst=ZsU E dst:=rfl
  cases iX:Zdn E dst with
  | some ke=>exact LC.false
  | none=>
  simp only[jy]
  cases lY:ZsU E dst with
  | true=>exact LC.false
  | false=>
  simp only[cond_false]
  simp only[Zur,ZtE]at *
  cases dst with
  | none=>exact LC.false
  | some d=>
   simp only
   show LC (fun K=>match ZaB E T with
    | none=>False
    | some (e,j)=>_) _ _
   cases ZaB E T with
   | none=>exact LC.false
   | some ej=>
    simp only at jE ⊢
    rw[hL d (ZfA.1 jE)]
    cases hx:S2.L d with
    | some x=>exact LC.false
    | none=>exact Zc7 hs fun v=>Zc7 hs fun v'=>LC.chk fun _ ⟨h1,_⟩=>⟨h1,fun b=>⟨_,fun K hK=>hK.2 b,dN⟩⟩
 | convert s d x=>
  simp only[opW]
  show LC (fun K=>bif Zgt E s d then _ else _) _ _
  cases Zgt E s d with
  | false=>
   simp only[cond_false]
   show LC (fun K=>bif ZcZ E s d then _ else _) _ _
   cases ZcZ E s d with
   | false=>
    simp only[cond_false]
    show LC (fun K=>bif Zc0 E s d then _ else _) _ _
    cases Zc0 E s d with
    | false=>exact gi _ _ ⟨dst,.convert s d x,type,pos,after,guard⟩
    | true=>exact LC.false
   | true=>exact LC.false
  | true=>
   simp only[cond_true]
   cases he:S1.ev x with
   | none=>exact LC.false
   | some sv=>
    simp only[hs.ev he]
    cases sv <;> first
     | exact LC.false
     | exact LC.ret (Out.put0 hm _ (fun sv h=>h))
 | call c=>
  obtain⟨callee,args,argTypes⟩:=c
  cases callee with
  | value g=>
   simp only[opW,ZuC]
   show LC (fun K=>match ZdY E dst with
    | []=>_
    | ids=>bif (E.fixed f).fix.isSome then False else _) (fun K=>match ZdY E dst with
    | []=>_
    | ids=>_) _
   cases eU:ZdY E dst with
   | cons i l=>exact LC.false
   | nil=>
   simp only[Zuq]
   have jc:ZeF E dst=none:=(Zlw jE).2 _ _ _ rfl
   have rR:ZeF (E.fixed f) dst=none:=jc
   cases he:S1.ev g with
   | none=>exact LC.false
   | some sv=>
    simp only[hs.ev he]
    cases sv with
    | loc id off=>exact LC.false
    | sl id n c=>exact LC.false
    | v u=>
     cases u <;> try exact LC.false
     rename_i fv first captured
     cases fv <;> try exact LC.false
     rename_i gg
     have kw:ZsQ (E.fixed f) dst=ZsQ E dst:=rfl
     simp only[kw,jc,rR]
     cases ou:ZsQ E dst with
     | true=>exact LC.false
     | false=>
     simp only[cond_false]
     have hq:Zdn (E.fixed f) dst=Zdn E dst:=rfl
     simp only[hq]
     cases iX:Zdn E dst with
     | some ke=>exact LC.false
     | none=>
     intro h
     have rS:=Zju hs h
     revert h
     rw[←rS]
     show LC (fun K:St×Mem→Prop=>wvs S1 args.toList fun vs=>ZmN (E.fixed f) S1 m type gg (first.toList++vs++captured.toList) (Zdc S1 args.toList++ZdG E dst) fun v S' m'=>K (S'.put dst (some (SV.v v)),m'))
      (fun K:St×Mem→Prop=>wvs S2 args.toList fun vs=>ZmN E S2 M type gg (first.toList++vs++captured.toList) (Zdc S1 args.toList++ZdG E dst) fun v S' m'=>K (S'.put dst (some (SV.v v)),m')) _
     refine ZnH hs fun vs=>?_
     refine LC.map (f:=fun y:Value×(St×Mem)=>(y.2.1.put dst (some (.v y.1)),y.2.2)) (g:=fun y:Value×(St×Mem)=>(y.2.1.put dst (some (.v y.1)),y.2.2)) (ZtD (rs:=rs) (tk:=tk) (γ:=fun _ _=>none) hE (f:=f) hs jO hm) ?_ ?_
     ·rintro⟨v1,y1⟩ ⟨v2,y2⟩ ⟨rfl,h2⟩
      exact h2.put dst (fun sv h=>h)
     ·exact fun h=>Zlr (fun v S' m' _ _=>h _)
  | invoke r mm=>
   simp only[opW]
   exact gi _ _ ⟨dst,_,type,pos,after,guard⟩
  | builtin b=>
   cases b with
   | append=>
    simp only[opW,ZtE]at *
    split
    ·rename_i s x T xT d _ _
     cases ig:tk with
     | none=>simp[ig]at jE
     | some key=>
      simp only[ig]at jE
      obtain rfl:=Nat.eq_of_beq_eq_true jE
      simp only[ZuC]
      show LC (fun K=>match ZdY E (some d)with
       | []=>_
       | ids=>bif (E.fixed f).fix.isSome then False else _) (fun K=>match ZdY E (some d)with
       | []=>_
       | ids=>_) _
      cases eU:ZdY E (some d)with
      | cons i l=>exact LC.false
      | nil=>
      refine Zc7 hs fun v=>Zc7 hs fun v'=>?_
      have z:=Zpq (E:=E) (rs:=[]) (tk:=some (E.tokOf d)) (key:=E.tokOf d) (S1:=S1) (S2:=S2) (f:=f) (T:=T) (xT:=xT) (vs:=v) (vx:=v') hm rfl (fun k hk=>bW k (ig.trans hk))
      refine LC.map z (f:=fun y:Value×(St×Mem)=>(y.2.1.put (some d) (some (.v y.1)),y.2.2)) (g:=fun y:Value×(St×Mem)=>(y.2.1.put (some d) (some (.v y.1)),y.2.2)) ?_ ?_
      ·rintro⟨v1,y1⟩ ⟨v2,y2⟩ ⟨rfl,h2⟩
       exact h2.put (some d) (fun sv h=>h)
      ·exact fun h=>Zht (fun v t m' _=>h _)
    ·exact LC.false
   | copy=>
    simp only[opW,ZtE]at *
    split
    ·rename_i d s T xT _ _
     have hq:Zfc (E.fixed f) d=Zfc E d:=rfl
     simp only[hq]
     cases Zfc E d with
     | none=>exact LC.false
     | some id=>
      refine Zc7 hs fun v=>Zc7 hs fun v'=>?_
      have z:=ZtC (E:=E) (rs:=rs) (tk:=tk) (g:=false) (S1:=S1) (S2:=S2) (f:=f) (T:=T) (id:=id) (vd:=v) (vs:=v') hs jO hm
      refine LC.map z (f:=fun y:Int×(St×Mem)=>(y.2.1.put dst (some (.v (.int .i64 y.1))),m)) (g:=fun y:Int×(St×Mem)=>(y.2.1.put dst (some (.v (.int .i64 y.1))),M)) ?_ ?_
      ·rintro⟨n1,y1⟩ ⟨n2,y2⟩ ⟨rfl,h2,h3,h4⟩
       have:=h2.put dst (x1:=some (.v (.int .i64 n1))) (x2:=some (.v (.int .i64 n1))) (fun sv h=>h)
       rw[h3,h4]at this;exact this
      ·exact fun h=>Zlq (fun n S' _=>h _)
    ·exact LC.false
   | _=>
    simp only[opW]
    exact gi _ _ ⟨dst,_,type,pos,after,guard⟩
 | _=>
  simp only[opW]
  exact gi _ _ ⟨dst,_,type,pos,after,guard⟩
theorem Zwq{E:Env}(w:World)(hE:E.fix=none){f:List Value→Mem→Value→Mem→List (List Value)→Prop}(hs:Less S1 S2)(jO:∀id x,S1.L id=some x→id∈rs)(hL:∀id∈rs,S1.L id=S2.L id)
  (bW:∀k,tk=some k→S1.tok k=S2.tok k) (hm:m.le M) {ops:Array Oper} {o:Oper} (jE:ZtE E rs tk o=true):
  LC (fun K:St×Mem→Prop=>opG (E.fixed f) ops o S1 m fun S' m'=>K (S',m')) (fun K:St×Mem→Prop=>opG E ops o S2 M fun S' m'=>K (S',m')) (Out (ZnI rs o) tk (ZdZ o) m M o.dst S1 S2):=by
 have h1:=Zwp w hE (f:=f) hs jO hL bW hm jE
 have h0:LC (fun K:St×Mem→Prop=>K (S1.put o.dst (some (.v undef)),m)) (fun K:St×Mem→Prop=>K (S2.put o.dst (some (.v undef)),M)) (Out (ZnI rs o) tk (ZdZ o) m M o.dst S1 S2):=LC.ret (Out.put0 hm _ (fun sv h=>h))
 unfold opG
 cases hg:o.guard with
 | none=>exact h1
 | some jw=>
  obtain⟨j,want⟩:=jw
  simp only
  cases ops.toList[j]? with
  | none=>exact LC.false
  | some oj=>
   simp only
   cases oj.dst with
   | none=>exact LC.false
   | some t=>
    simp only
    cases he:S1.env t with
    | none=>exact LC.false
    | some sv=>
     simp only[hs.env t sv he]
     cases sv with
     | loc id off=>exact LC.false
     | sl id n c=>exact LC.false
     | v u=>
      simp only
      cases Zal u with
      | true=>exact h0
      | false=>
       refine LC.chk fun _=>?_
       cases want
       ·exact LC.br h0 h1
       ·exact LC.br h1 h0
end
end Go.Eng
namespace Go.Eng
open Go Go.RowKit
def mem(l:List Nat)(i:Nat):Bool:=l.any (Nat.beq i ·)
theorem ZaX{l:List Nat}{i:Nat}:mem l i=true↔i∈l:=ZfA
def ZrG(t:Option Nat)(k:Nat):Bool:=match t with
 | some q=>Nat.beq k q
 | none=>false
theorem ZbM{t:Option Nat}{k:Nat}:ZrG t k=true↔t=some k:=by
 cases t with
 | none=>simp[ZrG]
 | some q=>
  simp only[ZrG,Option.some.injEq]
  exact⟨fun h=>(Nat.eq_of_beq_eq_true h).symm,fun h=>by subst h;exact Nat.beq_refl _⟩
def ZfW(o:Oper)(t:Nat):Bool:=ZrG o.dst t
def Zpr(ops:Array Oper)(d:DOp)(o:Oper)(S:St):St:=
 {env:=fun t=>bif mem (o.looksAt ops) t then S.env t else none
  L:=fun id=>bif mem d.rs id then S.L id else none
  ids:=S.ids
  tok:=fun k=>bif ZrG d.tk k then S.tok k else none
  tkeys:=S.tkeys
  gh:=S.gh }
def ZnJ(d:DOp)(o:Oper)(S S':St):St:=
 {env:=fun t=>bif ZfW o t then S'.env t else S.env t
  L:=fun id=>bif mem d.ws id then S'.L id else S.L id
  ids:=S.ids
  tok:=fun k=>bif ZrG d.tk k then S'.tok k else S.tok k
  tkeys:=S.tkeys
  gh:=S.gh }
def upd(μ:Nat→Mem)(i:Nat)(m:Mem):Nat→Mem:=fun j=>bif Nat.beq j i then m else μ j
def Zo4(μ:Nat→Mem)(M:Mem):List Nat→Prop→Prop
 | [],p=>p
 | j::l,p=>(μ j).le M→Zo4 μ M l p
def Zqs(μ:Nat→Mem)(m0:Mem):List Nat→(Mem→Prop)→Prop
 | [],k=>k m0
 | [j],k=>k (μ j)
 | l,k=>∀V:Mem,m0.le V→Zo4 μ V l (k V)
abbrev Fx:=Nat→List Value→Mem→Value→Mem→List (List Value)→Prop
def ZsP(E:Env)(ops:Array Oper)(m0:Mem)(f:Fx)(d:DOp)(S:St)(μ:Nat→Mem)(K:St→Mem→Prop):Prop:=match ops.toList[d.i]? with
 | none=>False
 | some o=>Zqs μ m0 d.vw fun V=>opG (E.fixed (f d.i)) ops o (Zpr ops d o S) V K
def Zps(ops:Array Oper)(d:DOp)(S S':St):St:=match ops.toList[d.i]? with
 | none=>S
 | some o=>ZnJ d o S S'
def Zkm(E:Env)(ops:Array Oper)(m0:Mem)(f:Fx)(d:DOp)(S:St)(μ:Nat→Mem)(K:St→(Nat→Mem)→Prop):Prop:=
 ZsP E ops m0 f d S μ fun S' m'=>K (Zps ops d S S') (upd μ d.i m')
def ZiO(E:Env)(ops:Array Oper)(m0:Mem)(f:Fx):List DOp→(St→(Nat→Mem)→Prop)→St→(Nat→Mem)→Prop
 | [],K,S,μ=>K S μ
 | d::r,K,S,μ=>Zkm E ops m0 f d S μ (ZiO E ops m0 f r K)
def Zv4(ops:Array Oper)(d:DOp):Option Nat:=match ops.toList[d.i]? with
 | none=>none
 | some o=>ZfP ops o
def ZiP(E:Env)(ops:Array Oper)(m0:Mem)(f:Fx):List DOp→(St→(Nat→Mem)→Prop)→St→(Nat→Mem)→Prop
 | [],K,S,μ=>K S μ
 | d::r,K,S,μ=>match Zv4 ops d with
  | none=>Zkm E ops m0 f d S μ (ZiP E ops m0 f r K)
  | some t=>match S.env t with
   | some (.v v)=>bif Zal v then Zkm E ops m0 f d S μ (ZiP E ops m0 f r K)else chk (Zae v) (br (Zad v) (Zkm E ops m0 f d (S.put (some t) (some (.v (.bool true)))) μ (ZiP E ops m0 f r K)) (Zkm E ops m0 f d (S.put (some t) (some (.v (.bool false)))) μ (ZiP E ops m0 f r K)))
   | _=>False
def Zv5(m0:Mem)(μ:Nat→Mem):List Nat→(Mem→Prop)→Prop
 | [],k=>k m0
 | l,k=>∀M:Mem,m0.le M→Zo4 μ M l (k M)
def ZiQ(ops:Array Oper):List DOp→List Nat
 | []=>[]
 | d::r=>match ops.toList[d.i]? with
  | none=>ZiQ ops r
  | some o=>bif ZdZ o then d.i::ZiQ ops r else ZiQ ops r
def ZuW:List DOp→List Nat
 | []=>[]
 | d::r=>d.ws++ZuW r
def Zuv:List DOp→List Nat
 | []=>[]
 | d::r=>match d.tk with
  | none=>Zuv r
  | some k=>k::Zuv r
def Zkn(ds:List DOp)(S:St):St:={ S with ids:=ZuW ds++S.ids,tkeys:=Zuv ds++S.tkeys }
def Zxk(a b:List Nat):Bool:=a.all fun i=>!mem b i
def Zw9(a b:List Nat):Bool:=a.all fun i=>mem b i
def ZnK(o:Oper)(l:List Nat):Bool:=match o.dst with
 | none=>true
 | some t=>!mem l t
def Zv6(a b:Oper):Bool:=match a.dst with
 | none=>true
 | some t=>!ZfW b t
def Zxw(a b:Option Nat):Bool:=match a with
 | none=>true
 | some k=>!ZrG b k
def Zqt(ops:Array Oper)(c d:DOp):Bool:=match ops.toList[c.i]?,ops.toList[d.i]? with
 | some oc,some od=>(ZnK oc (od.looksAt ops)&&ZnK od (oc.looksAt ops)&&Zv6 oc od)&&(Zxk c.ws d.rs&&Zxk d.ws c.rs&&Zxw c.tk d.tk)&&(!mem d.vw c.i&&!mem c.vw d.i&&!Nat.beq c.i d.i)
 | _,_=>false
def Zbn(o:Oper):List Nat:=(o.after.toList.filter (Region.binds .any ·)).map (·.on)
def ZwM:List DOp→Nat→List Nat
 | [],_=>[]
 | d::r,i=>bif Nat.beq d.i i then d.an else ZwM r i
def Zv7(E:Env)(ops:Array Oper)(d:DOp)(before:List DOp):Bool:=match ops.toList[d.i]? with
 | none=>false
 | some o=>(ZtE E d.rs d.tk o&&Zw9 (ZnI d.rs o) d.ws&&Zw9 d.ws d.rs)&&(Zw9 d.vw d.an&&Zw9 (Zbn o) (before.map (·.i))) &&
   (d.an.all fun j=>mem (Zbn o) j||(Zbn o).any fun p=>mem (ZwM before p) j)&&(before.all fun c=>mem d.an c.i||Zqt ops c d)&&(before.all fun c=>!Nat.beq c.i d.i)
def ZiU(E:Env)(ops:Array Oper):List DOp→List DOp→Bool
 | [],_=>true
 | d::r,before=>Zv7 E ops d before&&ZiU E ops r (d::before)
def ZuX(E:Env)(ops:Array Oper)(ds:List DOp)(n:Nat):Bool:=(List.range n).all (fun i=>ds.any fun d=>Nat.beq d.i i)&&Nat.ble ds.length ops.size&&ZiU E ops ds []&&E.fix.isNone
def ZsZ:List Oper→Bool
 | []=>false
 | o::l=>(match o.op with
  | .call c=>(match c.callee with
   | .value _=>true
   | _=>false)
  | _=>false)||ZsZ l
def ZxS:Fx:=fun _ _ _ _ _ _=>True
def exF(b:Bool)(p:Fx→Prop):Prop:=match b with
 | true=>∃f,p f
 | false=>p ZxS
theorem ZtF{b:Bool}{p:Fx→Prop}(h:exF b p):∃f,p f:=by
 cases b
 ·exact⟨_,h⟩
 ·exact h
theorem ZtG{b:Bool}{p q:Fx→Prop}(h:∀f,p f→q f)(x:exF b p):exF b q:=by
 cases b
 ·exact h _ x
 ·obtain⟨f,x⟩:=x;exact⟨f,h f x⟩
def ZuY(ops:Array Oper)(ds:List DOp)(k:Nat):Bool:=(Nat.ble k ops.size&&(List.range k).all fun j=>match ops.toList[ops.size - k+j]? with
 | none=>false
 | some o=>(List.range j).all (fun i=>mem (Zbn o) (ops.size - k+i))&&((Zbn o).all (fun i=>Nat.ble (i+1) (ops.size - k+j))&&(bif Nat.beq j 0 then(List.range (ops.size - k)).all (fun i=>mem (Zbn o) i||(Zbn o).any fun p=>mem (ZwM ds p) i)else true)))&&ds.all fun d=>Nat.ble (d.i+1) (ops.size - k)
def Zjv(E:Env)(ops:Array Oper)(K:St→Mem→Prop):List Oper→St→Mem→Prop
 | [],S,m=>K S m
 | o::r,S,m=>Zwm E ops o S m (Zjv E ops K r)
def ZrH(E:Env)(ops:Array Oper)(k:Nat)(K:St→Mem→Prop)(S:St)(m:Mem):Prop:=Zjv E ops K (ops.toList.drop (ops.size - k)) S m
def Zs0(E:Env)(S:St)(ids:List Nat)(T:TypeId)(x:Operand)(k:Value→Prop):Prop:=match E.tt T with
 | none=>False
 | some i=>match S.ev x with
  | some (.loc id off)=>match S.L id with
   | none=>False
   | some bx=>chk (!mem ids id) (ZcH i bx off k)
  | some (.v v)=>match E.m0 with
   | none=>False
   | some m0=>chk (Zek v&&(Zfc E x).isNone) (Zda i m0 (Znc v) (Zl4 v) k)
  | _=>False
def Zmm(E:Env)(S:St)(ids:List Nat):List Oper→St→(St→Prop)→Prop
 | [],S1,k=>k S1
 | o::r,S1,k=>match o.op with
  | .load T x=>Zs0 E S ids T x fun v=>Zmm E S ids r (S1.put o.dst (some (.v v))) k
  | _=>False
def ZrI{α:Type}:List α→Bool
 | []=>true
 | _=>false
def ZnL(l:List Nat):Operand→Bool
 | .tmp t=>!mem l t
 | _=>true
def ZwN:Operand→Bool
 | .func _=>true
 | _=>false
def Zs1(E:Env)(ops:Array Oper)(o:Oper):Bool:=o.guard.isNone&&(ZrI (Zbn o)&&(match o.op with
 | .load _ x=>(Zqj E o.dst).isNone&&(o.dst.isSome&&ZnL (Zau ops.toList) x)
 | _=>false))
def ZnM(E:Env)(ops:Array Oper)(c:Nat)(lds:List Oper)(o:Oper):Bool:=o.guard.isNone&&(match o.op with
 | .call q=>(match q.callee with
  | .value f=>(ZeF E o.dst).isSome&&(ZrI (ZdY E o.dst)&&(o.dst.isSome&&(ZnK o (Zau lds)&&(ZwN f &&
    ((List.range c).all fun j=>mem (Zbn o) j||match ops.toList[j]? with
     | none=>false
     | some oj=>match oj.dst with
      | none=>false
      | some t=>q.args.toList.all (ZnL [t]))))))&&(Zbn o).all fun j=>Nat.ble (j+1) c
  | _=>false)
 | _=>false)
def Zv8(E:Env)(ops:Array Oper)(k:Nat):Bool:=
 (Nat.ble k ops.size&&(Nat.ble 1 k&&E.thaw))&&((ops.toList.take (ops.size - k)).all (Zs1 E ops)&&(Zba (Zau (ops.toList.take (ops.size - k))) &&
  ((match ops.toList[ops.size - k]? with
   | none=>false
   | some o=>ZnM E ops (ops.size - k) (ops.toList.take (ops.size - k)) o) &&
  (List.range k).all fun j=>bif Nat.beq j 0 then true else match ops.toList[ops.size - k+j]?,ops.toList[ops.size - k]? with
   | some o,some oc=>(List.range j).all (fun i=>mem (Zbn o) (ops.size - k+i))&&((Zbn o).all (fun i=>Nat.ble (i+1) (ops.size - k+j)) &&
     (bif Nat.beq j 1 then(List.range (ops.size - k)).all (fun i=>mem (Zbn o) i||mem (Zbn oc) i)else true))
   | _,_=>false)))
def ZwO(E:Env)(id:Nat)(ops:Array Oper)(K:St→Mem→Prop)(S:St)(m:Mem):Prop:=
 chk (E.last id&&Zv8 E ops (E.lastK id)) (match ops.toList.drop (ops.size - E.lastK id)with
  | []=>False
  | o::r=>match o.op with
   | .call q=>Zmm E S (ZdG E o.dst) (ops.toList.take (ops.size - E.lastK id)) S fun S1=>chk (ZrI (Zdc S1 q.args.toList)) (opG E ops o S1 m (Zjv E ops K r))
   | _=>False)
def Zko(E:Env)(id:Nat)(ops:Array Oper)(K:St→Mem→Prop)(S:St)(m:Mem):Prop:=
 bif E.hot id then ZwO E id ops K S m else
 chk (ZuX E ops (E.dr id) (bif E.last id then ops.size - E.lastK id else ops.size)&&(bif E.last id then ZuY ops (E.dr id) (E.lastK id)else true)) (exF (ZsZ ops.toList) fun f=>bif E.gb then ZiP E ops m f (E.dr id) (fun S' μ=>Zv5 m μ (ZiQ ops (E.dr id)) fun M=>bif E.last id then ZrH E ops (E.lastK id) K S' M else K S' M) (Zkn (E.dr id) S) (fun _=>m)else ZiO E ops m f (E.dr id) (fun S' μ=>Zv5 m μ (ZiQ ops (E.dr id)) fun M=>bif E.last id then ZrH E ops (E.lastK id) K S' M else K S' M) (Zkn (E.dr id) S) (fun _=>m))
def Zxa(S:St)(y:Option SV):Option SV:=match y with
 | some (.loc i off)=>(match S.L i with
  | some x=>some (.v (.pointer (some ⟨x.b,off,none⟩)))
  | none=>none)
 | y=>y
def ptrS(S:St)(ts:List Nat):St:={ S with env:=fun t=>bif mem ts t then Zxa S (S.env t)else S.env t }
def ZiV(S S':St):List Nat→Prop→Prop
 | [],p=>p
 | t::l,p=>match S.env t with
  | some (.loc i _)=>S'.L i=S.L i∧ZiV S S' l p
  | some (.v _)=>ZiV S S' l p
  | _=>False
def ZuZ(S S':St)(ts:List Nat):St:={ S' with env:=fun t=>bif mem ts t then S.env t else S'.env t }
def ZwP(ts ds:List Nat)(f:(St→Mem→Prop)→St→Mem→Prop)(K:St→Mem→Prop)(S:St)(m:Mem):Prop:=match ts with
 | []=>f K S m
 | _::_=>chk (Zxk ts ds) (f (fun S' m'=>ZiV S S' ts (K (ZuZ S S' ts) m')) (ptrS S ts) m)
def Za0(E:Env)(id:Nat)(ops:Array Oper)(K:St→Mem→Prop)(S:St)(m:Mem):Prop:=ZuC E (some (1000000+id)) S m fun S m=>ZuL E (bif E.last id then E.acq id else none) (ZwP (E.ptrAt id) (Zau ops.toList) (Zko E id ops)) K S m
theorem Zir{μ:Nat→Mem}{M:Mem}{p q:Prop}(h:p→q):∀{l:List Nat},Zo4 μ M l p→Zo4 μ M l q
 | [],x=>h x
 | j::l,x=>fun y=>Zir h (x y)
theorem Zis{μ:Nat→Mem}{M:Mem}{p:Prop}:∀{l:List Nat},Zo4 μ M l p→(∀j∈l,(μ j).le M)→p
 | [],x,_=>x
 | j::l,x,h=>Zis (x (h j (by simp))) (fun i hi=>h i (by simp[hi]))
theorem Zpt{μ:Nat→Mem}{m0:Mem}{k k':Mem→Prop}(h:∀V,k V→k' V):∀{l:List Nat},Zqs μ m0 l k→Zqs μ m0 l k'
 | [],x=>h _ x
 | [j],x=>h _ x
 | i::j::l,x=>fun V hV=>Zir (h V) (x V hV)
theorem Zpu{μ:Nat→Mem}{m0 A:Mem}{l:List Nat}(h0:m0.le A)(hl:∀j∈l,(μ j).le A):∃V:Mem,V.le A∧∀k:Mem→Prop,Zqs μ m0 l k→k V:=by
 match l with
 | []=>exact⟨m0,h0,fun k x=>x⟩
 | [j]=>exact⟨μ j,hl j (by simp),fun k x=>x⟩
 | i::j::l=>exact⟨A,Mem.le_refl A,fun k x=>Zis (x A h0) hl⟩
theorem ZrJ{μ:Nat→Mem}{m0:Mem}{i:Nat}{m:Mem}{l:List Nat}(h:i ∉ l)(k:Mem→Prop):Zqs (upd μ i m) m0 l k=Zqs μ m0 l k:=by
 have one:∀{j},j∈l→upd μ i m j=μ j:=fun {j} hj=>by
  have:j≠i:=fun e=>h (e ▸ hj)
  simp[upd,Zar this]
 have all:∀{l':List Nat},(∀j∈l',j∈l)→∀(M:Mem)(p:Prop),Zo4 (upd μ i m) M l' p=Zo4 μ M l' p:=by
  intro l'
  induction l' with
  | nil=>intro _ M p;rfl
  | cons j l' ih=>
   intro hs M p
   simp only[Zo4]
   rw[one (hs j (by simp)),ih (fun x hx=>hs x (by simp[hx]))]
 match l with
 | []=>rfl
 | [j]=>simp only[Zqs];rw[one (by simp)]
 | a::b::l=>
  simp only[Zqs]
  exact propext ⟨fun x V hV=>by have:=x V hV;rwa [all (fun j hj=>hj)]at this,fun x V hV=>by rw[all (fun j hj=>hj)];exact x V hV⟩
theorem ZrK{m0:Mem}{μ:Nat→Mem}{l:List Nat}{k:Mem→Prop}{A:Mem}(h:Zv5 m0 μ l k)(h0:m0.le A)(he:l=[]→A=m0)(hl:∀j∈l,(μ j).le A):k A:=by
 match l with
 | []=>rw[he rfl];exact h
 | i::l=>exact Zis (h A h0) hl
theorem ZnN{m0:Mem}{μ:Nat→Mem}{l:List Nat}{k k':Mem→Prop}(h:∀M:Mem,m0.le M→k M→k' M)(x:Zv5 m0 μ l k):Zv5 m0 μ l k':=by
 match l with
 | []=>exact h _ (Mem.le_refl _) x
 | i::l=>exact fun M hM=>Zir (h M hM) (x M hM)
theorem ZeJ{E:Env}{ops:Array Oper}{m0:Mem}{f:Fx}{d:DOp}{S:St}{μ:Nat→Mem}{K K':St→Mem→Prop}(h:∀S' m',K S' m'→K' S' m')(hx:ZsP E ops m0 f d S μ K):ZsP E ops m0 f d S μ K':=by
 unfold ZsP at *
 split at hx
 ·exact hx.elim
 ·exact Zpt (fun V y=>Zgw (th:=true) (.inl rfl) (fun S' m' _ _=>h S' m') y) hx
theorem Zlx{E:Env}{ops:Array Oper}{m0:Mem}{f:Fx}:∀{r:List DOp} {K K':St→(Nat→Mem)→Prop} {S:St} {μ:Nat→Mem},(∀S' μ',SameOut (Zau ops.toList) S S'→K S' μ'→K' S' μ')→ZiO E ops m0 f r K S μ→ZiO E ops m0 f r K' S μ
 | [],K,K',S,μ,h,hx=>h _ _ (SameOut.refl _ S) hx
 | d::r,K,K',S,μ,h,hx=>by
  refine ZeJ (fun S' m' y=>Zlx (fun S'' μ'' hs y=>h _ _ (SameOut.trans ?_ hs) y) y) hx
  intro t ht
  unfold Zps
  cases ho:ops.toList[d.i]? with
  | none=>rfl
  | some o=>
   have:ZfW o t=false:=by
    cases hd:ZfW o t with
    | false=>rfl
    | true=>exact absurd (ZaZ ho (ZbM.1 hd)) ht
   simp[ZnJ,this]
theorem ZrL{ops:Array Oper}{d:DOp}{S S':St}:SameOut (Zau ops.toList) S (Zps ops d S S'):=by
 intro t ht
 unfold Zps
 cases ho:ops.toList[d.i]? with
 | none=>rfl
 | some o=>
  have:ZfW o t=false:=by
   cases hd:ZfW o t with
   | false=>rfl
   | true=>exact absurd (ZaZ ho (ZbM.1 hd)) ht
  simp[ZnJ,this]
theorem ZrM{ops:Array Oper}{d:DOp}{t:Nat}(h:Zv4 ops d=some t):t∈Zau ops.toList:=by
 unfold Zv4 ZfP at h
 split at h
 ·cases h
 ·split at h
  ·cases h
  ·split at h
   ·cases h
   ·rename_i oj hj
    exact ZaZ hj h
theorem Zly{E:Env}{ops:Array Oper}{m0:Mem}{f:Fx}:∀{r:List DOp} {K K':St→(Nat→Mem)→Prop} {S:St} {μ:Nat→Mem},(∀S' μ',SameOut (Zau ops.toList) S S'→K S' μ'→K' S' μ')→ZiP E ops m0 f r K S μ→ZiP E ops m0 f r K' S μ
 | [],K,K',S,μ,h,hx=>h _ _ (SameOut.refl _ S) hx
 | d::r,K,K',S,μ,h,hx=>by
  have step:∀{S1:St},SameOut (Zau ops.toList) S S1→Zkm E ops m0 f d S1 μ (ZiP E ops m0 f r K)→Zkm E ops m0 f d S1 μ (ZiP E ops m0 f r K'):=fun hs y=>
   ZeJ (fun S' m' y=>Zly (fun S'' μ'' il y=>h _ _ (SameOut.trans (SameOut.trans hs ZrL) il) y) y) y
  unfold ZiP at hx ⊢
  split at hx
  ·exact step (SameOut.refl _ S) hx
  ·rename_i t ht
   have jj:∀x,SameOut (Zau ops.toList) S (S.put (some t) x):=fun x=>(SameOut.refl _ S).put (fun t' e=>by cases e;exact ZrM ht) x
   split at hx
   ·rename_i v hv
    cases hu:Zal v with
    | true=>simp only[hu,cond_true]at hx ⊢;exact step (SameOut.refl _ S) hx
    | false=>
     simp only[hu,cond_false]at hx ⊢
     refine Zai (fun y=>?_) hx
     cases hb:Zad v with
     | true=>rw[hb]at y;exact step (jj _) y
     | false=>rw[hb]at y;exact step (jj _) y
   ·exact hx.elim
theorem Zqu{S:St}{t:Nat}{x:SV}(h:S.env t=some x):S.put (some t) (some x)=S:=by
 cases S with
 | mk env L ids tok tkeys gh=>
  simp only[St.put]
  congr 1
  funext i
  by_cases e:i=t
  ·subst e;simp at h ⊢;exact h.symm
  ·simp[Zar e]
theorem Zjw{E:Env}{ops:Array Oper}{m0:Mem}{f:Fx}:∀{r:List DOp} {K:St→(Nat→Mem)→Prop} {S:St} {μ:Nat→Mem},ZiP E ops m0 f r K S μ→ZiO E ops m0 f r K S μ
 | [],K,S,μ,hx=>hx
 | d::r,K,S,μ,hx=>by
  have step:∀{S1:St},Zkm E ops m0 f d S1 μ (ZiP E ops m0 f r K)→Zkm E ops m0 f d S1 μ (ZiO E ops m0 f r K):=fun y=>ZeJ (fun S' m' y=>Zjw y) y
  unfold ZiP at hx
  show Zkm E ops m0 f d S μ (ZiO E ops m0 f r K)
  split at hx
  ·exact step hx
  ·split at hx
   ·rename_i v hv
    cases hu:Zal v with
    | true=>simp only[hu,cond_true]at hx;exact step hx
    | false=>
     simp only[hu,cond_false]at hx
     obtain⟨h1,h2⟩:=Zaf hx
     have he:=ZbX h1
     cases hb:Zad v with
     | true=>
      rw[hb]at he h2
      subst he
      have h3:Zkm E ops m0 f d (S.put (some _) (some (.v (.bool true)))) μ (ZiP E ops m0 f r K):=h2
      rw[Zqu hv]at h3;exact step h3
     | false=>
      rw[hb]at he h2
      subst he
      have h3:Zkm E ops m0 f d (S.put (some _) (some (.v (.bool false)))) μ (ZiP E ops m0 f r K):=h2
      rw[Zqu hv]at h3;exact step h3
   ·exact hx.elim
theorem Zlz{E:Env}{id:Nat}{ops:Array Oper}{K K':St→Mem→Prop}{S:St}{m:Mem}(h:∀S' m',SameOut (Zau ops.toList) S S'→leD E id m m'→K S' m'→K' S' m'){S':St}{M:Mem}(hs:SameOut (Zau ops.toList) S S')(hM:m.le M)(y:bif E.last id then ZrH E ops (E.lastK id) K S' M else K S' M):bif E.last id then ZrH E ops (E.lastK id) K' S' M else K' S' M:=by
 cases hl:E.last id with
 | false=>
  rw[hl]at y
  exact h _ _ hs (by unfold leD;rw[hl];exact hM) y
 | true=>
  rw[hl]at y
  simp only[cond_true]at y ⊢
  unfold ZrH at y ⊢
  have key:∀(r:List Oper),(∀o∈r,o∈ops.toList)→∀(S':St)(M:Mem),SameOut (Zau ops.toList) S S'→leT E.thaw m M→Zjv E ops K r S' M→Zjv E ops K' r S' M:=by
   intro r
   induction r with
   | nil=>exact fun _ S' M hs hM y=>h _ _ hs (by unfold leD;rw[hl];exact hM) y
   | cons o r ih=>
    intro hr S' M hs hM y
    simp only[Zjv]at y ⊢
    obtain⟨i,ho⟩:=List.getElem?_of_mem (hr o (by simp))
    exact Zki (fun t ht=>ZaZ ho ht) (fun S2 m2 il bO y=>ih (fun o ho=>hr o (by simp[ho])) _ _ (hs.trans il) (leT.trans hM bO) y) y
  exact key _ (fun o ho=>List.mem_of_mem_drop ho) _ _ hs (.of hM) y
theorem ZlA{E:Env}{ops:Array Oper}{K K':St→Mem→Prop}{S:St}{m:Mem}(h:∀S' m',SameOut (Zau ops.toList) S S'→leT E.thaw m m'→K S' m'→K' S' m'):∀(r:List Oper),(∀o∈r,o∈ops.toList)→∀(S':St)(M:Mem),SameOut (Zau ops.toList) S S'→leT E.thaw m M→Zjv E ops K r S' M→Zjv E ops K' r S' M
 | [],_,S',M,hs,hM,y=>h _ _ hs hM y
 | o::r,hr,S',M,hs,hM,y=>by
  simp only[Zjv]at y ⊢
  obtain⟨i,ho⟩:=List.getElem?_of_mem (hr o (by simp))
  exact Zki (fun t ht=>ZaZ ho ht) (fun S2 m2 il bO y=>ZlA h r (fun o ho=>hr o (by simp[ho])) _ _ (hs.trans il) (leT.trans hM bO) y) y
theorem Zpv{E:Env}{S:St}{ids:List Nat}{T:TypeId}{x:Operand}{k k':Value→Prop}(h:∀v,k v→k' v)(hx:Zs0 E S ids T x k):Zs0 E S ids T x k':=by
 unfold Zs0 at *
 split at hx
 ·exact hx
 ·split at hx
  ·split at hx
   ·exact hx
   ·exact Zai (ZdN h) hx
  ·split at hx
   ·exact hx
   ·exact Zai (Zhs h) hx
  ·exact hx
theorem Zjx{E:Env}{S:St}{ids:List Nat}{D:List Nat}:∀{r:List Oper} {S1:St} {k k':St→Prop},(∀o∈r,∀t,o.dst=some t→t∈D)→(∀S',SameOut D S1 S'→k S'→k' S')→Zmm E S ids r S1 k→Zmm E S ids r S1 k'
 | [],S1,k,k',_,h,hx=>h _ (SameOut.refl _ S1) hx
 | o::r,S1,k,k',hd,h,hx=>by
  unfold Zmm at *
  split at hx
  ·refine Zpv (fun v y=>Zjx (fun o ho=>hd o (by simp[ho])) (fun S' hs y=>h _ (SameOut.trans ?_ hs) y) y) hx
   exact(SameOut.refl _ S1).put (fun t e=>hd o (by simp) t e) _
  ·exact hx
theorem Zu0{E:Env}{id:Nat}{ops:Array Oper}{K K':St→Mem→Prop}{S:St}{m:Mem}(h:∀S' m',SameOut (Zau ops.toList) S S'→leD E id m m'→K S' m'→K' S' m')(hx:ZwO E id ops K S m):ZwO E id ops K' S m:=by
 unfold ZwO at *
 obtain⟨h1,h2⟩:=Zaf hx
 refine Zaa h1 ?_
 simp only[Bool.and_eq_true]at h1
 have jh:E.thaw=true:=by
  have:=h1.2
  simp only[Zv8,Bool.and_eq_true]at this
  exact this.1.2.2
 split at h2
 ·exact h2
 ·rename_i o r oA
  split at h2
  ·rename_i q hq
   have cX:∀o'∈ops.toList.drop (ops.size - E.lastK id),o'∈ops.toList:=fun o' ho'=>List.mem_of_mem_drop ho'
   rw[oA]at cX
   have inD:∀o'∈ops.toList,∀t,o'.dst=some t→t∈Zau ops.toList:=fun o' ho' t ht=>by
    obtain⟨i,hi⟩:=List.getElem?_of_mem ho'
    exact ZaZ hi ht
   refine Zjx (D:=Zau ops.toList) (fun o' ho' t ht=>inD o' (List.mem_of_mem_take ho') t ht) (fun S1 hs y=>Zai (fun y=>?_) y) h2
   refine Zgw (th:=true) (.inl rfl) (fun S2 m2 il _ y=>?_) y
   refine ZlA (S:=S) (m:=m) (fun S3 m3 vU _ y=>h _ _ vU (by unfold leD;rw[h1.1,jh];trivial) y) r (fun o' ho'=>cX o' (by simp[ho'])) _ _ (hs.trans ?_) (by rw[jh];trivial) y
   exact il.mono fun t ht=>by
    cases hd:o.dst with
    | none=>simp[hd,dl]at ht
    | some d=>simp[hd,dl]at ht;subst ht;exact inD o (cX o (by simp)) _ hd
  ·exact h2
theorem Zkp(E:Env):Zel E (Zko E):=by
 intro id ops K K' S m h hx
 unfold Zko at *
 cases hh:E.hot id with
 | true=>simp only[hh,cond_true]at hx ⊢;exact Zu0 h hx
 | false=>
 simp only[hh,cond_false]at hx ⊢
 refine Zai (fun y=>?_) hx
 refine ZtG (fun f y=>?_) y
 cases pb:E.gb with
 | false=>
  simp only[pb,cond_false]at y ⊢
  exact Zlx (fun S' μ hs y=>ZnN (fun M hM y=>Zlz h hs hM y) y) y
 | true=>
  simp only[pb,cond_true]at y ⊢
  exact Zly (fun S' μ hs y=>ZnN (fun M hM y=>Zlz h hs hM y) y) y
theorem Zgz{S S':St}{p q:Prop}(h:p→q):∀{l:List Nat},ZiV S S' l p→ZiV S S' l q
 | [],x=>h x
 | t::l,x=>by
  unfold ZiV at *
  split at x
  ·exact⟨x.1,Zgz h x.2⟩
  ·exact Zgz h x
  ·exact x
theorem ZgA{S S':St}{p:Prop}:∀{l:List Nat},ZiV S S' l p→p∧∀t∈l,(∃i off,S.env t=some (.loc i off)∧S'.L i=S.L i)∨∃v,S.env t=some (.v v)
 | [],x=>⟨x,by simp⟩
 | t::l,x=>by
  unfold ZiV at x
  split at x
  ·rename_i i off he
   obtain⟨h1,h2⟩:=ZgA x.2
   refine⟨h1,fun t' ht=>?_⟩
   rcases List.mem_cons.1 ht with rfl|ht
   ·exact .inl ⟨i,off,he,x.1⟩
   ·exact h2 t' ht
  ·rename_i v he
   obtain⟨h1,h2⟩:=ZgA x
   refine⟨h1,fun t' ht=>?_⟩
   rcases List.mem_cons.1 ht with rfl|ht
   ·exact .inr ⟨v,he⟩
   ·exact h2 t' ht
  ·exact x.elim
theorem ZrN{S S':St}{ts ds:List Nat}(h:SameOut ds (ptrS S ts) S'):SameOut ds S (ZuZ S S' ts):=by
 intro t ht
 show(bif mem ts t then S.env t else S'.env t)=_
 cases hm:mem ts t with
 | true=>rfl
 | false=>
  rw[cond_false,h t ht]
  show(bif mem ts t then _ else S.env t)=_
  rw[hm];rfl
theorem Zqv{E:Env}{id:Nat}{ops:Array Oper}{ts:List Nat}{K K':St→Mem→Prop}{S:St}{m:Mem}(h:∀S' m',SameOut (Zau ops.toList) S S'→leD E id m m'→K S' m'→K' S' m')
  (y:ZwP ts (Zau ops.toList) (Zko E id ops) K S m):ZwP ts (Zau ops.toList) (Zko E id ops) K' S m:=by
 unfold ZwP at *
 split at y
 ·exact Zkp E id ops K K' S m h y
 ·exact Zai (fun y=>Zkp E id ops _ _ _ m (fun S' m' hs hl y=>Zgz (fun y=>h _ m' (ZrN hs) hl y) y) y) y
theorem Zkq(E:Env):Zel E (Za0 E):=by
 intro id ops K K' S m h hx
 refine Zkb (fun S1 m1 he hm y=>?_) hx
 have up:∀{m'},leD E id m1 m'→leD E id m m':=fun hl=>by
  unfold leD at hl ⊢
  cases hl':E.last id with
  | true=>rw[hl']at hl;exact leT.trans (.of hm) hl
  | false=>rw[hl']at hl;exact Mem.le_trans hm hl
 cases hl:E.last id with
 | false=>
  simp only[hl,cond_false,ZuL]at y ⊢
  exact Zqv (fun S' m' hs hl y=>h S' m' ((Zds he).trans hs) (up hl) y) y
 | true=>
  simp only[hl,cond_true]at y ⊢
  unfold ZuL at *
  split at y
  ·exact Zqv (fun S' m' hs hl y=>h S' m' ((Zds he).trans hs) (up hl) y) y
  ·obtain⟨y1,y2⟩:=Zaf y
   refine Zaa y1 ?_
   simp only[Bool.and_eq_true]at y1
   split at y2
   ·exact y2
   ·obtain⟨a,n,c,z1,z2,z3⟩:=y2
    refine⟨a,n,c,z1,z2,Zqv (fun S' m' hs _ z=>?_) z3⟩
    split at z
    ·exact z
    ·exact Zai (fun z zs hz=>h _ _ ((Zds he).trans (fun t ht=>hs t ht)) (by unfold leD;rw[hl,y1.1];trivial) (z zs hz)) z
end Go.Eng
namespace Go.Eng
open Go Go.RowKit
theorem St.ext'{a b:St}(h1:a.env=b.env)(h2:a.L=b.L)(h3:a.ids=b.ids)(h4:a.tok=b.tok)(h5:a.tkeys=b.tkeys)(h6:a.gh=b.gh):a=b:=by
 cases a;cases b;simp at *;exact⟨h1,h2,h3,h4,h5,h6⟩
structure Ind (ops:Array Oper)(c d:DOp)(oc od:Oper):Prop where
 hc:ops.toList[c.i]?=some oc
 hd:ops.toList[d.i]?=some od
 cd:∀t,ZfW oc t=true→mem (od.looksAt ops) t=false
 dc:∀t,ZfW od t=true→mem (oc.looksAt ops) t=false
 ne:∀t,ZfW oc t=true→ZfW od t=false
 lcd:∀id,mem c.ws id=true→mem d.rs id=false
 ldc:∀id,mem d.ws id=true→mem c.rs id=false
 tk:∀k,ZrG c.tk k=true→ZrG d.tk k=false
 vcd:c.i ∉ d.vw
 vdc:d.i ∉ c.vw
 i:c.i≠d.i
theorem ZnO{a b:List Nat}(h:Zxk a b=true):∀i,mem a i=true→mem b i=false:=fun i hi=>by
 have:=List.all_eq_true.1 h i (ZaX.1 hi)
 simpa using this
theorem Zhy{a b:List Nat}(h:Zw9 a b=true):∀i,i∈a→i∈b:=fun i hi=>ZaX.1 (List.all_eq_true.1 h i hi)
theorem Zjy{o:Oper}{l:List Nat}(h:ZnK o l=true):∀t,ZfW o t=true→mem l t=false:=fun t ht=>by
 have:=ZbM.1 ht
 simpa[ZnK,this]using h
theorem Zpw{a b:Oper}(h:Zv6 a b=true):∀t,ZfW a t=true→ZfW b t=false:=fun t ht=>by
 have:=ZbM.1 ht
 simpa[Zv6,this]using h
theorem ZrO{a b:Option Nat}(h:Zxw a b=true):∀t,ZrG a t=true→ZrG b t=false:=fun t ht=>by
 have:=ZbM.1 ht
 simpa[Zxw,this]using h
theorem ZlB{ops:Array Oper}{c d:DOp}(h:Zqt ops c d=true):∃oc od,Ind ops c d oc od:=by
 unfold Zqt at h
 split at h
 ·rename_i oc od hc hd
  simp only[Bool.and_eq_true,Bool.not_eq_true']at h
  obtain⟨⟨⟨⟨h1,h2⟩,h3⟩,⟨h4,h5⟩,h6⟩,⟨h7,h8⟩,h9⟩:=h
  refine⟨oc,od,hc,hd,Zjy h1,Zjy h2,Zpw h3,ZnO h4,ZnO h5,ZrO h6,?_,?_,?_⟩
  ·intro hm;rw[ZaX.2 hm]at h7;cases h7
  ·intro hm;rw[ZaX.2 hm]at h8;cases h8
  ·intro e;rw[e,Zcl]at h9;cases h9
 ·cases h
theorem Ind.symm'{ops:Array Oper}{c d:DOp}{oc od:Oper}(h:Ind ops c d oc od):Ind ops d c od oc:=by
 refine⟨h.hd,h.hc,h.dc,h.cd,?_,h.ldc,h.lcd,?_,h.vdc,h.vcd,h.i.symm⟩
 ·intro t ht
  cases hh:ZfW oc t with
  | false=>rfl
  | true=>rw[h.ne t hh]at ht;cases ht
 ·intro k hk
  cases hh:ZrG c.tk k with
  | false=>rfl
  | true=>rw[h.tk k hh]at hk;cases hk
section
variable {E:Env} {ops:Array Oper} {m0:Mem} {f:Fx} {c d:DOp} {oc od:Oper}
theorem ZtH(h:Ind ops c d oc od)(S S':St):Zpr ops d od (ZnJ c oc S S')=Zpr ops d od S:=by
 refine St.ext' (funext fun t=>?_) (funext fun id=>?_) rfl (funext fun k=>?_) rfl rfl
 ·simp only[Zpr,ZnJ]
  cases ht:ZfW oc t with
  | true=>simp[h.cd t ht]
  | false=>simp
 ·simp only[Zpr,ZnJ]
  cases ht:mem c.ws id with
  | true=>simp[h.lcd id ht]
  | false=>simp
 ·simp only[Zpr,ZnJ]
  cases ht:ZrG c.tk k with
  | true=>simp[h.tk k ht]
  | false=>simp
theorem ZtI(h:Ind ops c d oc od)(hw:∀id,id∈d.ws→id∈d.rs)(S Sc Sd:St):ZnJ c oc (ZnJ d od S Sd) Sc=ZnJ d od (ZnJ c oc S Sc) Sd:=by
 refine St.ext' (funext fun t=>?_) (funext fun id=>?_) rfl (funext fun k=>?_) rfl rfl
 ·simp only[ZnJ]
  cases ht:ZfW oc t with
  | true=>simp[h.ne t ht]
  | false=>simp
 ·simp only[ZnJ]
  cases ht:mem c.ws id with
  | true=>
   have:mem d.ws id=false:=by
    cases hh:mem d.ws id with
    | false=>rfl
    | true=>
     have h1:=h.lcd id ht
     rw[ZaX.2 (hw id (ZaX.1 hh))]at h1;cases h1
   simp[this]
  | false=>simp
 ·simp only[ZnJ]
  cases ht:ZrG c.tk k with
  | true=>simp[h.tk k ht]
  | false=>simp
theorem ZtJ{μ:Nat→Mem}{i j:Nat}(h:i≠j)(a b:Mem):upd (upd μ i a) j b=upd (upd μ j b) i a:=by
 funext k
 simp only[upd]
 by_cases hk:k=j
 ·subst hk;simp[Zar (Ne.symm h)]
 ·simp[Zar hk]
theorem Zit(h:Ind ops c d oc od)(S S':St)(μ:Nat→Mem)(m':Mem)(K:St→Mem→Prop):ZsP E ops m0 f d (Zps ops c S S') (upd μ c.i m') K=ZsP E ops m0 f d S μ K:=by
 unfold ZsP Zps
 simp only[h.hd,h.hc,ZtH h,ZrJ h.vcd]
theorem ZnP(S:St)(μ:Nat→Mem)(K:St→(Nat→Mem)→Prop):Zkm E ops m0 f d S μ K=ZsP E ops m0 f d S μ fun S' m'=>K (Zps ops d S S') (upd μ d.i m'):=rfl
def ZxF(E:Env)(ops:Array Oper)(m0:Mem)(f:Fx)(d:DOp)(S:St)(μ:Nat→Mem)(S':St)(m':Mem):Prop:=∀K:St→Mem→Prop,ZsP E ops m0 f d S μ K→K S' m'
theorem Zqw{K:St→(Nat→Mem)→Prop}{S':St}{m':Mem}(hw:∀id,id∈d.ws→id∈d.rs):∀{r1 r2:List DOp} {S:St} {μ:Nat→Mem},(∀c∈r1,Zqt ops c d=true)→ZiO E ops m0 f (r1++d::r2) K S μ→ZxF E ops m0 f d S μ S' m'→
  ZiO E ops m0 f (r1++r2) K (Zps ops d S S') (upd μ d.i m')
 | [],r2,S,μ,_,h,ho=>ho _ h
 | c::r1,r2,S,μ,hi,h,ho=>by
  obtain⟨oc,od,gQ⟩:=ZlB (hi c (by simp))
  simp only[List.cons_append,ZiO,ZnP]at h ⊢
  rw[Zit gQ.symm']
  refine ZeJ (fun Sc mc y=>?_) h
  have ih:=Zqw (S':=S') (m':=m') hw (r1:=r1) (r2:=r2) (fun c hc=>hi c (by simp[hc])) y (fun K hK=>by rw[Zit gQ]at hK;exact ho K hK)
  rw[ZtJ gQ.i]at ih
  have e:Zps ops c (Zps ops d S S') Sc=Zps ops d (Zps ops c S Sc) S':=by
   simp only[Zps,gQ.hc,gQ.hd]
   exact ZtI gQ hw S Sc S'
  rw[e];exact ih
end
theorem Zpx{F:Fence}(hF:FOk F){n:Nat}{P:Program}{o:Oper}{a:Act}{w:World}{p:Prop}(h:o.wpIn F n P a w (fun _ _=>p) (fun _ _ _=>p)):p:=by
 have cY:∀k,F.room k:=fun k d hd=>by rw[hF.depth]at hd;cases hd
 have h:=h.2
 generalize (o.semAt F.round a.eval).run P w=r at h
 cases r with
 | ok x w'=>
  cases x <;> simp only[Oper.uponIn]at h
  all_goals first
   | exact h
   | exact h.elim
   | (obtain⟨e,w'',fr,h,_⟩:=h.2.2 [] (cY _)
      cases e <;> first
       | exact h
       | (obtain⟨_,_,h⟩:=h;exact h))
   | (obtain⟨v,w'',h,_⟩:=h.2 default [] (cY _)
      exact h)
   | (obtain⟨e,w'',h,_⟩:=h.2.2 default [] (cY _)
      cases e <;> first
       | exact h
       | (obtain⟨_,_,h⟩:=h;exact h))
 | halt x w'=>
  cases x <;> simp only[Oper.uponIn]at h
  all_goals first
   | exact h
   | exact h.elim
end Go.Eng
namespace Go.Eng
open Go Go.RowKit
theorem ZrP{a b:St}(h:∀id,a.L id=b.L id)(sv:SV):a.den sv=b.den sv:=by
 cases sv <;> simp only[St.den,h]
section
variable {C:Ctx} {E:Env} {ops:Array Oper} {m0:Mem} {f:Fx} {d:DOp} {o:Oper} {S:St} {μ:Nat→Mem} {A:Mem} {a:Act} {w:World}
theorem Zu1(rT:∀i,i∈ZnI d.rs o→i∈d.ws)(lk:∀i,i∈d.ws→i∈d.rs)(eB:∀i,i∈d.ws→i∈S.ids)(ig:∀k,d.tk=some k→k∈S.tkeys)(hr:Rel C S A a w)
  {S2:St} {A2:Mem} {a':Act} {w':World} {y:St×Mem} {g:Bool} {m M:Mem} (h:Rel C S2 A2 a' w') (ho:Out (ZnI d.rs o) d.tk g m M o.dst (Zpr ops d o S) S y (S2,A2)):Rel C (ZnJ d o S y.1) A2 a' w':=by
 have hL:∀id,(ZnJ d o S y.1).L id=S2.L id:=by
  intro id
  simp only[ZnJ]
  cases hm:mem d.ws id with
  | true=>
   simp only[cond_true]
   rcases ho.L id with⟨_,e⟩|⟨e1,e2⟩
   ·exact e
   ·rw[e1,e2]
    simp[Zpr,ZaX.2 (lk id (ZaX.1 hm))]
  | false=>
   simp only[cond_false]
   rcases ho.L id with⟨hc,_⟩|⟨e1,e2⟩
   ·rw[ZaX.2 (rT id hc)]at hm;cases hm
   ·exact e2.symm
 have hT:∀k,(ZnJ d o S y.1).tok k=S2.tok k:=by
  intro k
  simp only[ZnJ]
  cases hm:ZrG d.tk k with
  | true=>
   simp only[cond_true]
   rcases ho.tok k with⟨_,e⟩|⟨e1,e2⟩
   ·exact e
   ·rw[e1,e2]
    simp[Zpr,hm]
  | false=>
   simp only[cond_false]
   rcases ho.tok k with⟨hc,_⟩|⟨e1,e2⟩
   ·rw[ZbM.2 hc]at hm;cases hm
   ·exact e2.symm
 refine h.restrict ho.gh2.symm (fun id x hx=>by rw[←hL];exact hx) (fun k t ht=>.inl (by rw[←hT];exact ht)) ?_ ?_ ?_
 ·intro i sv he
  have he':S2.env i=some sv:=by
   simp only[ZnJ]at he
   cases hd:ZfW o i with
   | true=>
    simp only[hd,cond_true]at he
    exact ho.env1 i sv (ZbM.1 hd) he
   | false=>
    simp only[hd,cond_false]at he
    have:o.dst≠some i:=fun e=>by rw[show ZfW o i=true from ZbM.2 e]at hd;cases hd
    exact(ho.env2 i this).trans he
  obtain⟨v,h1,h2⟩:=h.env i sv he'
  exact⟨v,by rw[ZrP hL];exact h1,h2⟩
 ·intro id x hx
  show id∈S.ids
  cases hm:mem d.ws id with
  | true=>exact eB id (ZaX.1 hm)
  | false=>simp only[ZnJ,hm,cond_false]at hx;exact hr.ids id x hx
 ·intro k t ht
  show k∈S.tkeys
  cases hm:ZrG d.tk k with
  | true=>exact ig k (ZbM.1 hm)
  | false=>simp only[ZnJ,hm,cond_false]at ht;exact hr.tkeys k t ht
structure DOk (E:Env)(ops:Array Oper)(d:DOp)(o:Oper):Prop where
 at_:ops.toList[d.i]?=some o
 fp:ZtE E d.rs d.tk o=true
 chg:∀i,i∈ZnI d.rs o→i∈d.ws
 ws:∀i,i∈d.ws→i∈d.rs
theorem Zqx(hE:E.ok){F:Fence}(hF:FOk F)(hY:YOk E C)(bK:Zlm C.n ops.toList=true)(ip:E.fix=none)(hd:DOk E ops d o)(eB:∀i,i∈d.ws→i∈S.ids)(ig:∀k,d.tk=some k→k∈S.tkeys)
  (hr:Rel C S A a w) (h0:m0.le A) (hv:∀j,j∈d.vw→(μ j).le A) (h:ZsP E ops m0 f d S μ (fun _ _=>True)) {n:Nat} {Q:Exit→Act→World→Prop} {next:Act→World→Prop}
  (hK:∀S' m' A' a' w',ZxF E ops m0 f d S μ S' m'→Rel C (Zps ops d S S') A' a' w'→A.le A'→m'.le A'→(ZdZ o=false→A'=A)→next a' w'):wpOpIn F n E.P ops Q d.i next a w:=by
 unfold ZsP at h
 simp only[hd.at_]at h
 obtain⟨V,vV,hV⟩:=Zpu (l:=d.vw) h0 hv
 have pc:Less (Zpr ops d o S) S:=⟨fun t sv ht=>by
  simp only[Zpr]at ht
  cases hm:mem (o.looksAt ops) t <;> simp[hm]at ht;exact ht,fun id x hx=>by
  simp only[Zpr]at hx
  cases hm:mem d.rs id <;> simp[hm]at hx;exact hx⟩
 have h2:opG E ops o S A (fun S2 A2=>∃y1:St×Mem,(∀K:St×Mem→Prop,opG (E.fixed (f d.i)) ops o (Zpr ops d o S) V (fun S' m'=>K (S',m'))→K y1)∧Out (ZnI d.rs o) d.tk (ZdZ o) V A o.dst (Zpr ops d o S) S y1 (S2,A2)):=
  Zwq (rs:=d.rs) (tk:=d.tk) w ip pc (fun id x hx=>by
   simp only[Zpr]at hx
   cases hm:mem d.rs id with
   | true=>exact ZaX.1 hm
   | false=>simp[hm]at hx) (fun id cW=>by simp[Zpr,ZaX.2 cW]) (fun k hk=>by simp[Zpr,ZbM.2 hk]) vV hd.fp (hV _ h)
 have h3:=Zgw (th:=false) (.inr (Zlw hd.fp)) (K':=fun S2 A2=>A.le A2∧∃y1:St×Mem,(∀K:St×Mem→Prop,opG (E.fixed (f d.i)) ops o (Zpr ops d o S) V (fun S' m'=>K (S',m'))→K y1)∧Out (ZnI d.rs o) d.tk (ZdZ o) V A o.dst (Zpr ops d o S) S y1 (S2,A2)) (fun S' m' _ hm y=>⟨hm,y⟩) h2
 have ho':ops[d.i]?=some o:=by simpa using hd.at_
 have:=ZdM hE hF hY (Zc1 bK d.i o hd.at_) hr h3 (n:=n) (Q:=Q) (next:=next) (fun S2 A2 a' w' ⟨hA,y1,g1,g2⟩ bL=>by
  refine hK y1.1 y1.2 A2 a' w' ?_ ?_ hA g2.le (fun hg=>(g2.same hg).2)
  ·intro K rU
   unfold ZsP at rU
   simp only[hd.at_]at rU
   exact g1 (fun y=>K y.1 y.2) (hV _ rU)
  ·simp only[Zps,hd.at_]
   exact Zu1 hd.chg hd.ws eB ig hr bL g2)
 unfold wpOpIn
 simp only[ho']
 exact this
end
theorem Zkr(ops:Array Oper)(d:DOp)(S S':St):(Zps ops d S S').ids=S.ids∧(Zps ops d S S').tkeys=S.tkeys:=by
 unfold Zps
 cases ops.toList[d.i]? <;> exact⟨rfl,rfl⟩
theorem Zqy(μ:Nat→Mem)(i:Nat)(m:Mem):upd μ i m i=m:=by simp[upd]
theorem Zu2{μ:Nat→Mem}{i j:Nat}(h:j≠i)(m:Mem):upd μ i m j=μ j:=by simp[upd,Zar h]
def Zv9:(Nat→Prop)→List DOp→Prop
 | _,[]=>True
 | D,c::r=>(∀j,j∈c.vw→D j)∧Zv9 (fun j=>D j∨j=c.i) r
theorem extract{C:Ctx}{E:Env}(hE:E.ok){F:Fence}(hF:FOk F)(hY:YOk E C){ops:Array Oper}(bK:Zlm C.n ops.toList=true)(ip:E.fix=none){m0:Mem}{f:Fx}{d:DOp}{r2:List DOp}{K:St→(Nat→Mem)→Prop}:
  ∀{r1:List DOp} {D:Nat→Prop} {S:St} {μ:Nat→Mem} {A:Mem} {a:Act} {w:World},Rel C S A a w→m0.le A→(∀j,D j→(μ j).le A)→Zv9 D r1→(∀c∈r1,(∃o,DOk E ops c o)∧(∀i,i∈c.ws→i∈S.ids)∧(∀k,c.tk=some k→k∈S.tkeys))→(∀c∈r1,Zqt ops c d=true)→
   ZiO E ops m0 f (r1++d::r2) K S μ→ZsP E ops m0 f d S μ (fun _ _=>True)
 | [],D,S,μ,A,a,w,hr,h0,hD,ht,hc,hi,h=>ZeJ (fun _ _ _=>trivial) h
 | c::r1,D,S,μ,A,a,w,hr,h0,hD,ht,hc,hi,h=>by
  obtain⟨oc,od,gQ⟩:=ZlB (hi c (by simp))
  obtain⟨⟨o,cK⟩,eB,ig⟩:=hc c (by simp)
  simp only[List.cons_append,ZiO,ZnP]at h
  have key:=Zqx (n:=0) (next:=fun _ _=>ZsP E ops m0 f d S μ (fun _ _=>True)) (Q:=fun _ _ _=>ZsP E ops m0 f d S μ (fun _ _=>True)) hE hF hY bK ip cK eB ig hr h0 (fun j hj=>hD j (ht.1 j hj)) (ZeJ (fun _ _ _=>trivial) h) (fun S' m' A' a' w' gp bL hA hm _=>by
   have:=extract hE hF hY bK ip (r1:=r1) (D:=fun j=>D j∨j=c.i) bL (Mem.le_trans h0 hA) (fun j hj=>by
    by_cases e:j=c.i
    ·subst e;rw[Zqy];exact hm
    ·rw[Zu2 e];exact Mem.le_trans (hD j (hj.resolve_right e)) hA) ht.2 (fun c' hc'=>by
     obtain⟨h1,h2,h3⟩:=hc c' (by simp[hc'])
     exact⟨h1,fun i hi=>by rw[(Zkr ops c S S').1];exact h2 i hi,fun k hk=>by rw[(Zkr ops c S S').2];exact h3 k hk⟩) (fun c' hc'=>hi c' (by simp[hc'])) (gp _ h)
   rwa [Zit gQ]at this)
  unfold wpOpIn at key
  have ho':ops[c.i]?=some o:=by simpa using cK.at_
  simp only[ho']at key
  split at key
  ·exact Zpx hF key
  ·exact key.2
end Go.Eng
namespace Go.Eng
open Go Go.RowKit
theorem ZcL{l:Array Bool}{i:Nat}(h:i < l.size):(l.setIfInBounds i true).getD i false=true:=by simp[Array.getD,h]
theorem Zqz{E:Env}(hE:E.ok){F:Fence}(hF:FOk F){C:Ctx}(hY:YOk E C){ops:Array Oper}(bK:Zlm C.n ops.toList=true){n:Nat}{Q:Exit→Act→World→Prop}{K:St→Mem→Prop}{i0:Nat}
  (over:∀(fuel:Nat)(listed:Array Bool)(S':St)(m':Mem)(a':Act)(w':World),listed.size=ops.size→(∀j,j < ops.size→listed.getD j false=true)→K S' m'→Rel C S' m' a' w'→wpAnyIn F n E.P .any ops Q fuel listed a' w')
  (gL:∀i,i0≤i→i < ops.size→∃o,ops[i]?=some o∧(∀j,i0≤j→j < i→j∈Zbn o)∧(∀j∈Zbn o,j < i)):
  ∀(r:List Oper)(i:Nat),ops.toList.drop i=r→i0≤i→i≤ops.size→∀(fuel:Nat)(listed:Array Bool)(S':St)(m':Mem)(a':Act)(w':World),r.length≤fuel→listed.size=ops.size→(∀j,j < i→listed.getD j false=true)→(∀j,i≤j→listed.getD j false=false)→Zjv E ops K r S' m'→Rel C S' m' a' w'→wpAnyIn F n E.P .any ops Q fuel listed a' w':=by
 intro r
 induction r with
 | nil=>
  intro i hi h1 h2 fuel listed S' m' a' w' _ cN bS _ hk bL
  have:ops.size≤i:=by
   have:=congrArg List.length hi
   simp at this
   omega
  exact over fuel listed S' m' a' w' cN (fun j hj=>bS j (by omega)) hk bL
 | cons o r ih=>
  intro i hi h1 h2 fuel listed S' m' a' w' kZ cN bS dV hk bL
  have dY:i < ops.size:=by
   have:=congrArg List.length hi
   simp at this
   omega
  obtain⟨o',ho',iG,dM⟩:=gL i h1 dY
  have l7:ops.toList[i]?=some o:=by
   have:=congrArg (fun l=>l[0]?) hi
   simpa using this
  have rV:o'=o:=by
   have:ops.toList[i]?=some o':=by simpa using ho'
   rw[l7]at this;cases this;rfl
  subst rV
  have rW:ops.toList.drop (i+1)=r:=by
   have:=congrArg (List.drop 1) hi
   simpa[List.drop_drop,Nat.add_comm]using this
  obtain⟨fuel,rfl⟩:∃k,fuel=k+1:=⟨fuel - 1,by simp at kZ;omega⟩
  have i4:listed.getD i false=false:=dV i (Nat.le_refl _)
  have dK:i < listed.size:=by omega
  refine⟨fun cO=>?_,fun q hq=>?_⟩
  ·exfalso
   have:i∈Region.ready .any ops listed:=mem_ready.2 ⟨by simpa[Array.getD,dK]using i4,o',ho',fun e he hb=>?_⟩
   ·rw[cO]at this;simp at this
   ·have hm:e.on∈Zbn o':=by
     simp only[Zbn,List.mem_map,List.mem_filter]
     exact⟨e,⟨by simpa using he,hb⟩,rfl⟩
    exact bS _ (dM _ hm)
  ·obtain⟨pd,o2,gB,gR⟩:=mem_ready.1 hq
   have hq':q < ops.size:=(Array.getElem?_eq_some_iff.1 gB).1
   have:q=i:=by
    by_cases h3:q < i
    ·have h4:=bS q h3
     have hl:q < listed.size:=by omega
     simp[Array.getD,hl]at pd h4
     rw[pd]at h4;cases h4
    ·by_cases h4:q=i
     ·exact h4
     ·exfalso
      obtain⟨o3,mT,lA,_⟩:=gL q (by omega) hq'
      rw[mT]at gB;cases gB
      have:=lA i h1 (by omega)
      simp only[Zbn,List.mem_map,List.mem_filter]at this
      obtain⟨e,⟨he,hb⟩,h5⟩:=this
      have:=gR e (by simpa using he) hb
      rw[h5,i4]at this;cases this
   subst this
   simp only[Zjv]at hk
   have:=Zio hE hF hY (Zc1 bK _ o' l7) bL hk (n:=n) (Q:=Q) (next:=wpAnyIn F n E.P .any ops Q fuel (listed.setIfInBounds q true)) (fun S2 m2 a2 w2 gt gT=>ih (q+1) rW (by omega) (by omega) fuel _ S2 m2 a2 w2 (by simp at kZ;omega) (by simpa using cN) (fun j hj=>by
    by_cases e:j=q
    ·subst e;simp[Array.getD,dK]
    ·rw[getD_set_ne false (Ne.symm e)]
     exact bS j (by omega)) (fun j hj=>by
    rw[getD_set_ne false (by omega)]
    exact dV j (by omega)) gt gT)
   unfold wpOpIn
   simp only[ho']
   exact this
def St.wenv(S:St)(e:Nat→Option SV):St:={ S with env:=e }
theorem Zhz(S:St)(e:Nat→Option SV):∀ids,Zbm (S.wenv e) ids=Zbm S ids
 | []=>rfl
 | id::l=>by simp only[Zbm,Zhz S e l];rfl
theorem Zjz(S:St)(e:Nat→Option SV):∀ks,Zd5 (S.wenv e) ks=Zd5 S ks
 | []=>rfl
 | q::l=>by simp only[Zd5,Zjz S e l];rfl
theorem ZqA(S:St)(e:Nat→Option SV)(b:Nat)(k:Prop):∀l,nfz (S.wenv e) b l k=nfz S b l k
 | []=>rfl
 | id::l=>by simp only[nfz,ZqA S e b k l];rfl
theorem ZqB(S:St)(e:Nat→Option SV)(b:Nat)(ks:List Nat):∀l,ntk (S.wenv e) b ks l=ntk S b ks l
 | []=>rfl
 | k::l=>by simp only[ntk,ZqB S e b ks l];rfl
theorem ZlC(S:St)(e:Nat→Option SV):∀(ids:List Nat)(bxs:List Box) (css:List (List Value)),Zc6 (S.wenv e) ids bxs css=(Zc6 S ids bxs css).wenv e
 | [],_,_=>by simp[Zc6]
 | id::ids,[],_=>by simp[Zc6]
 | id::ids,x::xs,[]=>by simp[Zc6]
 | id::ids,x::xs,cs::css=>by simp only[Zc6,ZlC S e ids xs css];rfl
theorem ZtK{S:St}{e:Nat→Option SV}{x:Operand}(h:∀t,x=.tmp t→e t=S.env t):(S.wenv e).val x=S.val x:=by
 unfold St.val
 have:(S.wenv e).ev x=S.ev x:=by
  cases x with
  | tmp t=>exact h t rfl
  | _=>rfl
 rw[this]
 cases S.ev x with
 | none=>rfl
 | some sv=>cases sv <;> rfl
theorem Zu3{S:St}{e:Nat→Option SV}{x:Operand}(h:∀t,x=.tmp t→e t=S.env t):(S.wenv e).ev x=S.ev x:=by
 cases x with
 | tmp t=>exact h t rfl
 | _=>rfl
theorem ZqC{S:St}{e:Nat→Option SV}{k:List Value→Prop}:∀{l:List Operand},(∀x∈l,∀t,x=.tmp t→e t=S.env t)→wvs (S.wenv e) l k=wvs S l k
 | [],_=>rfl
 | x::l,h=>by
  simp only[wvs,wv]
  rw[ZtK (h x (by simp))]
  cases S.val x with
  | none=>rfl
  | some v=>exact ZqC fun y hy=>h y (by simp[hy])
theorem ZjA{S:St}{e:Nat→Option SV}:∀{l:List Operand},(∀x∈l,∀t,x=.tmp t→e t=S.env t)→Zdc (S.wenv e) l=Zdc S l
 | [],_=>rfl
 | x::l,h=>by
  simp only[Zdc]
  rw[Zu3 (h x (by simp)),ZjA fun y hy=>h y (by simp[hy])]
  rfl
theorem ZlD:∀{n:Nat} {k k':List (List Value)→Prop},(∀v,v.length=n→k v→k' v)→allL n k→allL n k'
 | 0,k,k',h,hx=>h _ rfl hx
 | n+1,k,k',h,hx=>fun cs=>ZlD (fun l hl hx=>h _ (by simp[hl]) hx) (hx cs)
theorem ZnQ{E:Env}{S:St}{e:Nat→Option SV}{m:Mem}{rt:TypeId}{g:FuncId}{args:List Value}{ids:List Nat}{ks:List (Nat×Nat)}{K:Value→St→Mem→Prop}
  (h:ZiS E (S.wenv e) m rt g args ids ks K):ZiS E S m rt g args ids ks fun v S' m'=>K v (S'.wenv e) m'∧S'.env=S.env∧∀id,id ∉ ids→S'.L id=S.L id:=by
 unfold ZiS at *
 rw[Zhz]at h
 cases hb:Zbm S ids with
 | none=>simp[hb]at h
 | some bxs=>
  simp only[hb]at h ⊢
  cases hm:E.m0 with
  | none=>simp[hm]at h
  | some m0=>
   simp only[hm]at h ⊢
   obtain⟨h1,Y,R,h2,h3,h4,h5,h6⟩:=Zaf h
   rw[Zjz]at h2 h3 h4 h6
   refine Zaa h1 ⟨Y,R,h2,h3,fun b hb=>?_,h5,?_⟩
   ·rcases h4 b hb with q|⟨q1,q2,q3⟩
    ·exact .inl q
    ·have e1:∀k,nfz (S.wenv e) b S.ids k=nfz S b S.ids k:=fun k=>ZqA S e b k S.ids
     have e2:ntk (S.wenv e) b (ks.map (·.1)) S.tkeys=ntk S b (ks.map (·.1)) S.tkeys:=ZqB S e b _ S.tkeys
     refine .inr ⟨q1,q2,?_⟩
     have q3:nfz (S.wenv e) b S.ids (ntk (S.wenv e) b (ks.map (·.1)) S.tkeys):=q3
     rw[e1,e2]at q3;exact q3
   ·simp only[Bool.and_eq_true]at h1
    have eH:=ZaG h1.2.1
    have bN:=(Zcb hb).1
    refine Shape.all_mono _ (fun v z m' hm' hn=>?_) h6
    refine ZlD (fun css hc z=>Zin (fun tvs z hR=>⟨?_,?_,fun id cW=>?_⟩) z) (z m' hm' hn)
    ·have:=z hR
     rw[ZlC]at this;exact this
    ·rw[Zdb]
    ·rcases ZeE (S:=S) eH bN hc id with⟨_,q⟩|⟨i,x,cs,q,_⟩
     ·exact q
     ·exact absurd (List.mem_of_getElem? q) cW
theorem ZtL{l:List Value}{n:Nat}{k:Value→Prop}(h:ZsM l n k):∃v,k v∧ZsM l n (·=v):=by
 obtain⟨v,h1,h2⟩:=Zhd h
 exact⟨v,h2,Zas h1 rfl⟩
theorem ZnR{i:TI}{x:Box}{off:Nat}{k:Value→Prop}(h:ZcH i x off k):∃v,k v∧ZcH i x off (·=v):=by
 unfold ZcH at *
 cases ha:i.agg with
 | true=>
  simp only[ha,cond_true]at *
  cases hf:(x.full&&(Nat.beq x.cap i.size&&Nat.beq off 0))with
  | true=>
   simp only[hf,cond_true]at *
   exact⟨_,h,rfl⟩
  | false=>
   simp only[hf,cond_false]at *
   obtain⟨h1,h2⟩:=Zaf h
   exact⟨_,h2,Zaa h1 rfl⟩
 | false=>
  simp only[ha,cond_false]at *
  exact ZtL h
theorem ZnS{i:TI}{m:Mem}{b o:Nat}{k:Value→Prop}(h:Zda i m b o k):∃v,k v∧∀m':Mem,m.le m'→Zda i m' b o (·=v):=by
 unfold Zda at *
 cases ha:i.agg with
 | false=>
  simp only[ha,cond_false]at *
  obtain⟨v,h1,h2⟩:=h
  exact⟨v,h2,fun m' hm=>⟨v,hm _ _ _ h1,rfl⟩⟩
 | true=>
  simp only[ha,cond_true]at *
  cases hb:Nat.ble i.size 16 with
  | true=>
   simp only[hb,cond_true]at *
   obtain⟨vs,h1,h2,h3⟩:=Zik h
   exact⟨_,h3,fun m' hm=>Zj8 vs h1 ⟨fun j v hv=>hm _ _ _ (h2 j v hv),rfl⟩⟩
  | false=>
   simp only[hb,cond_false]at *
   obtain⟨vs,h1,h2,h3⟩:=h
   exact⟨_,h3,fun m' hm=>⟨vs,h1,fun j v hv=>hm _ _ _ (h2 j v hv),rfl⟩⟩
def ZxG(E:Env)(S:St)(ids:List Nat)(o:Oper)(X:St):Prop:=
 ∃T x d v,o.op=.load T x∧o.dst=some d∧X.env d=some (.v v)∧∀(S':St)(m':Mem),(∀t,x=.tmp t→S'.env t=S.env t)→(∀id,id ∉ ids→S'.L id=S.L id)→(∀mm:Mem,E.m0=some mm→mm.le m')→ZfO E S' m' T x (·=v)
theorem ZrQ{E:Env}{S:St}{ids:List Nat}{T:TypeId}{x:Operand}{k:Value→Prop}(h:Zs0 E S ids T x k):
  ∃v,k v∧∀(S':St)(m':Mem),(∀t,x=.tmp t→S'.env t=S.env t)→(∀id,id ∉ ids→S'.L id=S.L id)→(∀mm:Mem,E.m0=some mm→mm.le m')→ZfO E S' m' T x (·=v):=by
 have ka:∀S':St,(∀t,x=.tmp t→S'.env t=S.env t)→S'.ev x=S.ev x:=fun S' h=>by
  cases x with
  | tmp t=>exact h t rfl
  | _=>rfl
 unfold Zs0 at h
 cases ht:E.tt T with
 | none=>simp[ht]at h
 | some i=>
  simp only[ht]at h
  split at h
  ·rename_i id off he
   cases hL:S.L id with
   | none=>simp[hL]at h
   | some bx=>
    simp only[hL]at h
    obtain⟨h1,h2⟩:=Zaf h
    obtain⟨v,h3,h4⟩:=ZnR h2
    refine⟨v,h3,fun S' m' q1 q2 q3=>?_⟩
    have cW:id ∉ ids:=fun hm=>by rw[ZaX.2 hm]at h1;cases h1
    unfold ZfO
    simp only[ht,ka S' q1,he,q2 id cW,hL]
    exact h4
  ·rename_i v0 he
   cases hm:E.m0 with
   | none=>simp[hm]at h
   | some m0=>
    simp only[hm]at h
    obtain⟨h1,h2⟩:=Zaf h
    simp only[Bool.and_eq_true,Option.isNone_iff_eq_none]at h1
    obtain⟨v,h3,h4⟩:=ZnS h2
    refine⟨v,h3,fun S' m' q1 q2 q3=>?_⟩
    unfold ZfO
    simp only[ht,ka S' q1,he,h1.2]
    exact Zaa h1.1 (h4 m' (q3 m0 rfl))
  ·exact h.elim
theorem ZjB{E:Env}{S:St}{ids:List Nat}:∀{r:List Oper} {S1:St} {k:St→Prop},Zba (Zau r)=true→(∀o∈r,o.dst.isSome=true)→Zmm E S ids r S1 k→
  ∃e:Nat→Option SV,k (S1.wenv e)∧(∀o∈r,ZxG E S ids o (S1.wenv e))∧∀t,t ∉ Zau r→e t=S1.env t
 | [],S1,k,_,_,h=>⟨S1.env,h,by simp,fun _ _=>rfl⟩
 | o::r,S1,k,hn,hd,h=>by
  have pg:=hd o (by simp)
  obtain⟨d,ph⟩:=Option.isSome_iff_exists.1 pg
  unfold Zmm at h
  split at h
  ·rename_i T x ho
   obtain⟨v,h1,h2⟩:=ZrQ h
   have hn':=ZaG hn
   simp only[Zau,ph,List.nodup_cons]at hn'
   have lO:Zba (Zau r)=true:=by
    simp only[Zau,ph,Zba,Bool.and_eq_true]at hn
    exact hn.2
   obtain⟨e,g1,g2,g3⟩:=ZjB lO (fun o ho=>hd o (by simp[ho])) h1
   rw[ph]at g1 g2 g3
   refine⟨e,g1,fun o' ho'=>?_,fun t ht=>?_⟩
   ·rcases List.mem_cons.1 ho' with rfl|ho'
    ·refine⟨T,x,d,v,ho,ph,?_,h2⟩
     show e d=_
     rw[g3 d hn'.1]
     simp[St.put,Zcl]
    ·exact g2 o' ho'
   ·simp only[Zau,ph,List.mem_cons,not_or]at ht
    rw[g3 t ht.2]
    simp[St.put,Zar ht.1]
  ·exact h.elim
theorem Ziu{α:Type}{l:List α}(h:ZrI l=true):l=[]:=by
 cases l with
 | nil=>rfl
 | cons=>cases h
theorem ZnT{E:Env}{ops:Array Oper}{o:Oper}{q:Go.Call}{f:Operand}{S:St}{e:Nat→Option SV}{m:Mem}{K:St→Mem→Prop}(hg:o.guard=none)(hq:o.op=.call q)(hf:q.callee=.value f)(jc:(ZeF E o.dst).isSome=true)(j8:ZdY E o.dst=[])
  (pg:o.dst.isSome=true) {g0:FuncId} (vW:f=.func g0) (ha:∀x∈q.args.toList,∀t,x=.tmp t→e t=S.env t) (hl:Zdc (S.wenv e) q.args.toList=[]) (h:opG E ops o (S.wenv e) m K):
  opG E ops o S m fun S' m'=>∃S2,K S2 m'∧S'.wenv S2.env=S2∧(∀t,o.dst≠some t→S2.env t=e t∧S'.env t=S.env t)∧(∀t,o.dst=some t→S'.env t=S2.env t)∧∀id,id ∉ ZdG E o.dst→S2.L id=S.L id:=by
 unfold opG at *
 simp only[hg]at h ⊢
 unfold opW at *
 simp only[hq,hf]at h ⊢
 unfold ZuC at *
 simp only[j8]at h ⊢
 obtain⟨ks,lq⟩:=Option.isSome_iff_exists.1 jc
 obtain⟨d,hd⟩:=Option.isSome_iff_exists.1 pg
 unfold Zuq at *
 subst vW
 simp only[St.ev]at h ⊢
 have hl':Zdc S q.args.toList=[]:=by rw[←ZjA (e:=e) ha];exact hl
 simp only[lq]at h ⊢
 cases cR:E.fix with
 | some f=>simp[cR]at h
 | none=>
  simp only[cR,Option.isSome_none,cond_false]at h ⊢
  rw[ZqC ha]at h
  refine ZcF (fun vs y=>?_) h
  rw[hl]at y
  rw[hl']
  refine Zjo (fun v S' m' _ z=>?_) (ZnQ y)
  obtain⟨z1,z2,z3⟩:=z
  rw[hd]at z1 ⊢
  refine⟨_,z1,rfl,fun t ht=>?_,fun t ht=>?_,fun id cW=>?_⟩
  ·have:t≠d:=fun e=>ht (by rw[e])
   simp[St.put,Zar this,St.wenv,z2]
  ·cases ht
   simp[St.put,Zcl,St.wenv]
  ·exact z3 id (by simpa[hd]using cW)
theorem ZjC{p q:Nat→Bool}{i:Nat}(hp:p i=true)(hq:∀j,q j=(p j&&!Nat.beq j i)):∀{l:List Nat},l.Nodup→i∈l→l.countP q+1=l.countP p
 | [],_,h=>by cases h
 | x::l,hn,hi=>by
  rw[List.nodup_cons]at hn
  rw[List.countP_cons,List.countP_cons]
  by_cases e:x=i
  ·subst e
   have:l.countP q=l.countP p:=List.countP_congr fun j hj=>by
    have:j≠x:=fun e=>hn.1 (e ▸ hj)
    rw[hq,Zar this];simp
   rw[this,hq,Zcl,hp];simp
  ·have ih:=ZjC hp hq hn.2 ((List.mem_cons.1 hi).resolve_left fun h=>e h.symm)
   rw[hq x,Zar e]
   simp only[Bool.not_false,Bool.and_true]
   omega
def unl(ops:Array Oper)(c:Nat)(listed:Array Bool)(t:Nat):Bool:=(List.range c).any fun j=>!listed.getD j false&&match ops.toList[j]? with
 | none=>false
 | some o=>ZfW o t
def Zrg(ops:Array Oper)(c:Nat)(listed:Array Bool)(S X:St):St:=X.wenv fun t=>bif unl ops c listed t then S.env t else X.env t
theorem ZlE:∀{l:List Oper},(Zau l).Nodup→∀{i j:Nat} {o o':Oper} {t:Nat},l[i]?=some o→l[j]?=some o'→o.dst=some t→o'.dst=some t→i=j
 | [],_,i,j,o,o',t,h,_,_,_=>by simp at h
 | x::l,hn,0,0,_,_,_,_,_,_,_=>rfl
 | x::l,hn,0,j+1,o,o',t,h1,h2,h3,h4=>by
  simp at h1 h2;subst h1
  simp only[Zau,h3,List.nodup_cons]at hn
  exact absurd (ZaZ h2 h4) hn.1
 | x::l,hn,i+1,0,o,o',t,h1,h2,h3,h4=>by
  simp at h1 h2;subst h2
  simp only[Zau,h4,List.nodup_cons]at hn
  exact absurd (ZaZ h1 h3) hn.1
 | x::l,hn,i+1,j+1,o,o',t,h1,h2,h3,h4=>by
  simp at h1 h2
  have:(Zau l).Nodup:=by
   unfold Zau at hn
   split at hn
   ·exact hn
   ·exact(List.nodup_cons.1 hn).2
  rw[ZlE this h1 h2 h3 h4]
theorem Zu4{E:Env}(hE:E.ok){F:Fence}(hF:FOk F){C:Ctx}(hY:YOk E C){ops:Array Oper}(bK:Zlm C.n ops.toList=true){id n:Nat}{Q:Exit→Act→World→Prop}{K:St→Mem→Prop}
  (over:∀(fuel:Nat)(listed:Array Bool)(S':St)(m':Mem)(a':Act)(w':World),listed.size=ops.size→(∀j,j < ops.size→listed.getD j false=true)→K S' m'→Rel C S' m' a' w'→wpAnyIn F n E.P .any ops Q fuel listed a' w')
  {S:St} {m:Mem} {a:Act} {w:World} (hr:Rel C S m a w) (h:ZwO E id ops K S m):wpAnyIn F n E.P .any ops Q ops.size (Array.replicate ops.size false) a w:=by
 unfold ZwO at h
 obtain⟨h1,h2⟩:=Zaf h
 generalize E.lastK id=k at *
 simp only[Bool.and_eq_true]at h1
 have cK:=h1.2
 unfold Zv8 at cK
 simp only[Bool.and_eq_true,List.all_eq_true]at cK
 obtain⟨⟨jM,gt,jh⟩,rX,eH,dS,jF⟩:=cK
 have jM:=Nat.le_of_ble_eq_true jM
 have gt:=Nat.le_of_ble_eq_true gt
 have rY:=ZaG eH
 generalize hc:ops.size - k=c at *
 have uq:c < ops.size:=by omega
 split at h2
 ·exact h2.elim
 rename_i oc r oA
 have mL:ops.toList[c]?=some oc:=by
  have:=congrArg (fun l=>l[0]?) oA
  simpa using this
 have pi:ops[c]?=some oc:=by simpa using mL
 rw[mL]at dS
 simp only at dS
 split at h2
 rotate_left
 ·exact h2.elim
 rename_i q hq
 unfold ZnM at dS
 simp only[hq,Bool.and_eq_true]at dS
 obtain⟨rZ,dS⟩:=dS
 cases lB:q.callee with
 | builtin b=>simp[lB]at dS
 | invoke _ _=>simp[lB]at dS
 | value f=>
 simp only[lB,Bool.and_eq_true,List.all_eq_true]at dS
 obtain⟨⟨jc,r5,pj,mU,vX,vY⟩,pk⟩:=dS
 have rZ:=Option.isNone_iff_eq_none.1 rZ
 obtain⟨g0,k7⟩:∃g0,f=.func g0:=by
  cases f <;> simp[ZwN]at vX
  exact⟨_,rfl⟩
 obtain⟨dc,pm⟩:=Option.isSome_iff_exists.1 pj
 have ldAt:∀j,j < c→∃o,ops[j]?=some o∧(ops.toList.take c)[j]?=some o:=fun j hj=>by
  have:j < ops.toList.length:=by simp;omega
  refine⟨ops[j]'(by omega),by simp[show j < ops.size by omega],?_⟩
  rw[List.getElem?_take_of_lt hj];simp[show j < ops.size by omega]
 have ldOk:∀o∈ops.toList.take c,o.guard=none∧Zbn o=[]∧∃T x d,o.op=.load T x∧o.dst=some d∧Zqj E o.dst=none∧∀t,x=.tmp t→t ∉ Zau ops.toList:=fun o ho=>by
  have:=rX o ho
  unfold Zs1 at this
  simp only[Bool.and_eq_true]at this
  obtain⟨q1,q2,q3⟩:=this
  split at q3
  ·rename_i T x mr
   simp only[Bool.and_eq_true]at q3
   obtain⟨q4,q5,q6⟩:=q3
   obtain⟨d,hd⟩:=Option.isSome_iff_exists.1 q5
   refine⟨Option.isNone_iff_eq_none.1 q1,Ziu q2,T,x,d,mr,hd,Option.isNone_iff_eq_none.1 q4,fun t e hm=>?_⟩
   subst e
   simp only[ZnL,Bool.not_eq_true']at q6
   rw[ZaX.2 hm]at q6;cases q6
  ·cases q3
 have po:dc ∉ Zau (ops.toList.take c):=fun hm=>by
  simp only[ZnK,pm,Bool.not_eq_true']at mU
  rw[ZaX.2 hm]at mU;cases mU
 obtain⟨e,h3,hV,he⟩:=ZjB eH (fun o ho=>by
  obtain⟨_,_,_,_,d,_,hd,_⟩:=ldOk o ho
  simp[hd]) h2
 obtain⟨h4,h5⟩:=Zaf h3
 have h4:=Ziu h4
 have unl_mem:∀{listed:Array Bool} {t:Nat},unl ops c listed t=true→t∈Zau (ops.toList.take c):=fun {listed t} hu=>by
  unfold unl at hu
  simp only[List.any_eq_true,Bool.and_eq_true,List.mem_range]at hu
  obtain⟨j,hj,_,hu⟩:=hu
  obtain⟨o,ho,ho'⟩:=ldAt j hj
  have:ops.toList[j]?=some o:=by simpa using ho
  rw[this]at hu
  exact ZaZ ho' (ZbM.1 hu)
 have takeSub:∀t,t∈Zau (ops.toList.take c)→t∈Zau ops.toList:=by
  have:∀(l:List Oper)(k t:Nat),t∈Zau (l.take k)→t∈Zau l:=by
   intro l
   induction l with
   | nil=>intro k t h;simp[Zau]at h
   | cons x l ih=>
    intro k t h
    cases k with
    | zero=>simp[Zau]at h
    | succ k=>
     simp only[List.take_succ_cons,Zau]at h ⊢
     cases hx:x.dst with
     | none=>simp only[hx]at h ⊢;exact ih k t h
     | some d=>
      simp only[hx,List.mem_cons]at h ⊢
      exact h.imp (fun h=>h) (ih k t)
  exact this _ c
 have gL:∀i,c+1≤i→i < ops.size→∃o,ops[i]?=some o∧(∀j,c≤j→j < i→j∈Zbn o)∧(∀j∈Zbn o,j < i)∧(i=c+1→∀j,j < c→j∈Zbn o∨j∈Zbn oc):=by
  intro i iS iU
  have:=jF (i - c) (List.mem_range.2 (by omega))
  have cM:Nat.beq (i - c) 0=false:=Zar (by omega)
  rw[cM,cond_false,show c+(i - c)=i by omega,mL]at this
  split at this
  ·rename_i o oc' ho r6
   cases r6
   simp only[Bool.and_eq_true,List.all_eq_true]at this
   refine⟨o,by simpa using ho,fun j vZ hj=>?_,fun j hj=>Nat.le_of_ble_eq_true (this.2.1 j hj),fun hi j hj=>?_⟩
   ·have h3:=ZaX.1 (this.1 (j - c) (List.mem_range.2 (by omega)))
    rw[show c+(j - c)=j by omega]at h3
    exact h3
   ·have h3:=this.2.2
    rw[hi,show c+1 - c=1 by omega]at h3
    simp only[show Nat.beq 1 1=true from rfl,cond_true,List.all_eq_true,Bool.or_eq_true,List.mem_range]at h3
    exact(h3 j hj).imp ZaX.1 ZaX.1
  ·cases this
 have mV:ops.toList.drop (c+1)=r:=by
  have:=congrArg (List.drop 1) oA
  simpa[List.drop_drop,Nat.add_comm]using this
 have lC:r.length=ops.size - (c+1):=by rw[←mV];simp
 have memo:∀mm:Mem,E.m0=some mm→C.m0=mm:=fun mm hm=>(hY.m0 mm hm).1
 have prd:∀{o:Oper} {listed:Array Bool},(∀e∈o.after,Region.binds .any e=true→listed.getD e.on false=true)→∀j∈Zbn o,listed.getD j false=true:=fun {o listed} gR j hj=>by
  simp only[Zbn,List.mem_map,List.mem_filter]at hj
  obtain⟨e,⟨he,hb⟩,rfl⟩:=hj
  exact gR e (by simpa using he) hb
 have prd':∀{o:Oper} {listed:Array Bool},(∀j∈Zbn o,listed.getD j false=true)→∀e∈o.after,Region.binds .any e=true→listed.getD e.on false=true:=fun {o listed} gR e he hb=>gR e.on (by
  simp only[Zbn,List.mem_map,List.mem_filter]
  exact⟨e,⟨by simpa using he,hb⟩,rfl⟩)
 have main:∀(fuel:Nat)(listed:Array Bool)(X:St)(m':Mem)(a':Act)(w':World),listed.size=ops.size→(∀j,c+1≤j→listed.getD j false=false)→
   ((List.range (c+1)).countP fun j=>!listed.getD j false)+r.length≤fuel→(∀o∈ops.toList.take c,ZxG E S (ZdG E oc.dst) o X)→(∀id,id ∉ ZdG E oc.dst→X.L id=S.L id)→SameOut (Zau ops.toList) S X→
   (listed.getD c false=false→m'=m∧X=S.wenv e)→(listed.getD c false=true→Zjv E ops K r X m'∧∀p∈Zbn oc,listed.getD p false=true)→
   Rel C (Zrg ops c listed S X) m' a' w'→wpAnyIn F n E.P .any ops Q fuel listed a' w':=by
  intro fuel
  induction fuel with
  | zero=>
   intro listed X m' a' w' cN jk kZ hX qE qF hA hB bL
   have hz:((List.range (c+1)).countP fun j=>!listed.getD j false)=0:=by omega
   have bS:∀j,j < c+1→listed.getD j false=true:=fun j hj=>by
    have:=List.countP_eq_zero.1 hz j (List.mem_range.2 hj)
    simpa using this
   have iW:Zrg ops c listed S X=X:=by
    have:∀t,unl ops c listed t=false:=fun t=>by
     cases hu:unl ops c listed t with
     | false=>rfl
     | true=>
      exfalso
      unfold unl at hu
      simp only[List.any_eq_true,Bool.and_eq_true,List.mem_range]at hu
      obtain⟨j,hj,hu,_⟩:=hu
      rw[bS j (by omega)]at hu;cases hu
    unfold Zrg
    simp only[this,cond_false];rfl
   rw[iW]at bL
   exact Zqz hE hF hY bK over (i0:=c+1) (fun i h1 h2=>by
    obtain⟨o,q1,q2,q3,_⟩:=gL i h1 h2
    exact⟨o,q1,fun j hj=>q2 j (by omega),q3⟩) r (c+1) mV (Nat.le_refl _) (by omega) 0 listed X m' a' w' (by omega) cN bS jk (hB (bS c (by omega))).1 bL
  | succ fuel ih=>
   intro listed X m' a' w' cN jk kZ hX qE qF hA hB bL
   by_cases bS:∀j,j < c+1→listed.getD j false=true
   ·have iW:Zrg ops c listed S X=X:=by
     have:∀t,unl ops c listed t=false:=fun t=>by
      cases hu:unl ops c listed t with
      | false=>rfl
      | true=>
       exfalso
       unfold unl at hu
       simp only[List.any_eq_true,Bool.and_eq_true,List.mem_range]at hu
       obtain⟨j,hj,hu,_⟩:=hu
       rw[bS j (by omega)]at hu;cases hu
     unfold Zrg
     simp only[this,cond_false];rfl
    rw[iW]at bL
    exact Zqz hE hF hY bK over (i0:=c+1) (fun i h1 h2=>by
     obtain⟨o,q1,q2,q3,_⟩:=gL i h1 h2
     exact⟨o,q1,fun j hj=>q2 j (by omega),q3⟩) r (c+1) mV (Nat.le_refl _) (by omega) _ listed X m' a' w' (by omega) cN bS jk (hB (bS c (by omega))).1 bL
   have dec:∀{i:Nat},i < c+1→listed.getD i false=false→((List.range (c+1)).countP fun j=>!(listed.setIfInBounds i true).getD j false)+1=((List.range (c+1)).countP fun j=>!listed.getD j false):=fun {i} hi i4=>
    ZjC (p:=fun j=>!listed.getD j false) (q:=fun j=>!(listed.setIfInBounds i true).getD j false) (i:=i) (by simp[i4]) (fun j=>by
     by_cases e:j=i
     ·subst e;rw[ZcL (by omega),Zcl];simp
     ·rw[getD_set_ne false (Ne.symm e),Zar e];simp) List.nodup_range (List.mem_range.2 hi)
   refine⟨fun cO=>?_,fun i hi=>?_⟩
   ·exfalso
    apply bS
    have hl:∀j,j < c→listed.getD j false=true:=fun j hj=>by
     cases hb:listed.getD j false with
     | true=>rfl
     | false=>
      exfalso
      obtain⟨o,ho,ho'⟩:=ldAt j hj
      obtain⟨_,hp,_⟩:=ldOk o (List.mem_of_getElem? ho')
      have dK:j < listed.size:=by omega
      have:j∈Region.ready .any ops listed:=mem_ready.2 ⟨by simpa[Array.getD,dK]using hb,o,ho,prd' (by rw[hp];intro j hj;cases hj)⟩
      rw[cO]at this;simp at this
    intro j hj
    by_cases e:j=c
    ·subst e
     cases hb:listed.getD j false with
     | true=>rfl
     | false=>
      exfalso
      have dK:j < listed.size:=by omega
      have:j∈Region.ready .any ops listed:=mem_ready.2 ⟨by simpa[Array.getD,dK]using hb,oc,pi,prd' fun p hp=>hl p (Nat.le_of_ble_eq_true (pk p hp))⟩
      rw[cO]at this;simp at this
    ·exact hl j (by omega)
   obtain⟨i4,o,ho,gR⟩:=mem_ready.1 hi
   have hi':i < ops.size:=(Array.getElem?_eq_some_iff.1 ho).1
   have hl:i < listed.size:=by omega
   have kB:listed.getD i false=false:=by simp[Array.getD,hl]at i4 ⊢;exact i4
   have gR:=prd gR
   have l7:ops.toList[i]?=some o:=by simpa using ho
   have im:∀j,c+1≤j→(i < c+1)→(listed.setIfInBounds i true).getD j false=false:=fun j hj hi=>by
    rw[getD_set_ne false (by omega)];exact jk j hj
   have gf:∀mm:Mem,E.m0=some mm→mm.le m':=fun mm hm=>by rw[←memo mm hm];exact bL.le
   unfold wpOpIn
   simp only[ho]
   rcases Nat.lt_trichotomy i c with qG|qG|qG
   ·
    obtain⟨o',kd,gB⟩:=ldAt i qG
    rw[ho]at kd;cases kd
    have gd:=List.mem_of_getElem? gB
    obtain⟨hg,_,T,x,d,mr,hd,v4,v5⟩:=ldOk o gd
    obtain⟨T',x',d',v,q1,q2,q3,q4⟩:=hX o gd
    rw[mr]at q1;cases q1
    rw[hd]at q2;cases q2
    have pp:opG E ops o (Zrg ops c listed S X) m' fun S' m''=>S'=(Zrg ops c listed S X).put (some d) (some (.v v))∧m''=m':=by
     unfold opG
     simp only[hg]
     unfold opW
     simp only[mr,v4]
     refine ZfR (fun u hu=>?_) (q4 (Zrg ops c listed S X) m' (fun t ht=>?_) (fun id cW=>qE id cW) gf)
     ·subst hu;rw[hd];first|exact⟨rfl,rfl⟩|exact⟨rfl,trivial⟩
     ·have v6:=v5 t ht
      show(bif unl ops c listed t then S.env t else X.env t)=S.env t
      cases unl ops c listed t with
      | true=>rfl
      | false=>exact(qF t v6)
    refine ZdM hE hF hY (Zc1 bK _ o l7) bL pp (n:=n) (Q:=Q) (next:=wpAnyIn F n E.P .any ops Q fuel (listed.setIfInBounds i true)) (fun S2 m2 a2 w2 gt gT=>?_)
    obtain⟨rfl,rfl⟩:=gt
    have uz:(listed.setIfInBounds i true).getD c false=listed.getD c false:=getD_set_ne false (by omega)
    refine ih _ X m2 a2 w2 (by simpa using cN) (fun j hj=>im j hj (by omega)) (by have:=dec (i:=i) (by omega) kB;omega) hX qE qF (fun hb=>hA (uz ▸ hb)) (fun hb=>?_) ?_
    ·obtain⟨q5,q6⟩:=hB (uz ▸ hb)
     refine⟨q5,fun p hp=>?_⟩
     by_cases e:p=i
     ·subst e;exact ZcL hl
     ·rw[getD_set_ne false (Ne.symm e)];exact q6 p hp
    ·have:(Zrg ops c listed S X).put (some d) (some (.v v))=Zrg ops c (listed.setIfInBounds i true) S X:=by
      have mW:∀t,unl ops c (listed.setIfInBounds i true) t=(unl ops c listed t&&!Nat.beq t d):=fun t=>by
       by_cases ht:t=d
       ·subst ht
        rw[Zcl]
        simp only[Bool.not_true,Bool.and_false]
        cases hu:unl ops c (listed.setIfInBounds i true) t with
        | false=>rfl
        | true=>
         exfalso
         unfold unl at hu
         simp only[List.any_eq_true,Bool.and_eq_true,List.mem_range]at hu
         obtain⟨j,hj,gI,jl⟩:=hu
         obtain⟨oj,r7,r8⟩:=ldAt j hj
         have:ops.toList[j]?=some oj:=by simpa using r7
         rw[this]at jl
         have:j=i:=ZlE rY r8 gB (ZbM.1 jl) hd
         subst this
         rw[ZcL hl]at gI;cases gI
       ·rw[Zar ht]
        simp only[Bool.not_false,Bool.and_true]
        unfold unl
        rw[Bool.eq_iff_iff]
        simp only[List.any_eq_true,Bool.and_eq_true,List.mem_range]
        constructor
        ·rintro⟨j,hj,gI,jl⟩
         refine⟨j,hj,?_,jl⟩
         by_cases e:j=i
         ·subst e;rw[ZcL hl]at gI;cases gI
         ·rw[getD_set_ne false (Ne.symm e)]at gI;exact gI
        ·rintro⟨j,hj,gI,jl⟩
         refine⟨j,hj,?_,jl⟩
         by_cases e:j=i
         ·subst e
          rw[l7]at jl
          have:=ZbM.1 jl
          rw[hd]at this;cases this
          exact absurd rfl ht
         ·rw[getD_set_ne false (Ne.symm e)];exact gI
      unfold Zrg St.wenv St.put
      simp only[mW]
      congr 1
      funext t
      by_cases ht:t=d
      ·subst ht;simp[Zcl,q3]
      ·simp[Zar ht]
     rw[←this];exact gT
   ·
    subst qG
    rw[pi]at ho;cases ho
    obtain⟨rfl,rfl⟩:=hA kB
    have v7:S.wenv e=(Zrg ops i listed S (S.wenv e)).wenv e:=rfl
    have my:∀x∈q.args.toList,∀t,x=.tmp t→e t=(Zrg ops i listed S (S.wenv e)).env t:=fun x hx t ht=>by
     show e t=(bif unl ops i listed t then S.env t else e t)
     cases hu:unl ops i listed t with
     | false=>rfl
     | true=>
      exfalso
      unfold unl at hu
      simp only[List.any_eq_true,Bool.and_eq_true,List.mem_range]at hu
      obtain⟨j,hj,gI,jl⟩:=hu
      have:=vY j (List.mem_range.2 hj)
      simp only[Bool.or_eq_true]at this
      rcases this with h6|h6
      ·rw[gR j (ZaX.1 h6)]at gI;cases gI
      ·split at h6
       ·cases h6
       ·rename_i oj r7
        rw[r7]at jl
        have v8:=ZbM.1 jl
        simp only[v8,List.all_eq_true]at h6
        have:=h6 x hx
        subst ht
        simp[ZnL,mem,Zcl]at this
    rw[v7]at h5 h4
    have h6:=ZnT rZ hq lB jc (Ziu r5) pj k7 my h4 h5
    refine ZdM hE hF hY (Zc1 bK _ _ mL) bL h6 (n:=n) (Q:=Q) (next:=wpAnyIn F n E.P .any ops Q fuel (listed.setIfInBounds i true)) (fun S2 m2 a2 w2 gt gT=>?_)
    obtain⟨X2,z1,z2,z3,z4,z5⟩:=gt
    have sd:∀t,t≠dc→X2.env t=e t:=fun t ht=>(z3 t (by rw[pm];exact fun h=>ht (Option.some.inj h).symm)).1
    refine ih _ X2 m2 a2 w2 (by simpa using cN) (fun j hj=>im j hj (by omega)) (by have:=dec (i:=i) (by omega) kB;omega) (fun o' ho'=>?_) (fun id cW=>(z5 id cW).trans (qE id cW)) (fun t ht=>?_) (fun hb=>?_) (fun _=>⟨z1,fun p hp=>?_⟩) ?_
    ·obtain⟨T',x',d',v,q1,q2,q3,q4⟩:=hX o' ho'
     refine⟨T',x',d',v,q1,q2,?_,q4⟩
     obtain⟨j,hj⟩:=List.getElem?_of_mem ho'
     rw[sd d' (fun e=>po (e ▸ ZaZ hj q2))];exact q3
    ·have:t≠dc:=fun e=>ht (e ▸ ZaZ mL pm)
     rw[sd t this];exact qF t ht
    ·rw[ZcL hl]at hb;cases hb
    ·have:=gR p hp
     by_cases e:p=i
     ·subst e;exact ZcL hl
     ·rw[getD_set_ne false (Ne.symm e)];exact this
    ·have:S2=Zrg ops i (listed.setIfInBounds i true) S X2:=by
      have mW:∀t,unl ops i (listed.setIfInBounds i true) t=unl ops i listed t:=fun t=>by
       unfold unl
       rw[Bool.eq_iff_iff]
       simp only[List.any_eq_true,Bool.and_eq_true,List.mem_range]
       constructor
       ·rintro⟨j,hj,gI,jl⟩
        rw[getD_set_ne false (by omega)]at gI
        exact⟨j,hj,gI,jl⟩
       ·rintro⟨j,hj,gI,jl⟩
        exact⟨j,hj,by rw[getD_set_ne false (by omega)];exact gI,jl⟩
      have hs:S2=X2.wenv S2.env:=by rw[←z2];rfl
      rw[hs]
      unfold Zrg
      congr 1
      funext t
      rw[mW]
      by_cases ht:t=dc
      ·subst ht
       have:unl ops i listed t=false:=by
        cases hu:unl ops i listed t with
        | false=>rfl
        | true=>exact absurd (unl_mem hu) po
       rw[this,cond_false]
       exact z4 t pm
      ·rw[(z3 t (by rw[pm];exact fun h=>ht (Option.some.inj h).symm)).2,sd t ht]
       rfl
     rw[←this];exact gT
   ·exfalso
    obtain⟨o3,mT,lA,_,se⟩:=gL i (by omega) hi'
    rw[mT]at ho;cases ho
    by_cases sg:i=c+1
    ·apply bS
     intro j hj
     by_cases e:j=c
     ·subst e;exact gR _ (lA _ (Nat.le_refl _) (by omega))
     ·rcases se sg j (by omega)with h6|h6
      ·exact gR j h6
      ·exact(hB (gR c (lA c (Nat.le_refl _) (by omega)))).2 j h6
    ·have:=gR (c+1) (lA (c+1) (by omega) (by omega))
     rw[jk (c+1) (Nat.le_refl _)]at this;cases this
 have none0:∀j,(Array.replicate ops.size false).getD j false=false:=fun j=>by simp[Array.getD]
 refine main ops.size _ (S.wenv e) m a w (by simp) (fun j _=>none0 j) ?_ hV (fun _ _=>rfl) (fun t ht=>he t (fun hm=>ht (takeSub t hm))) (fun _=>⟨rfl,rfl⟩) (fun hb=>?_) ?_
 ·have:=List.countP_le_length (p:=fun j=>!(Array.replicate ops.size false).getD j false) (l:=List.range (c+1))
  simp only[List.length_range]at this
  omega
 ·rw[none0]at hb;cases hb
 ·have:Zrg ops c (Array.replicate ops.size false) S (S.wenv e)=S:=by
   have:∀t,(bif unl ops c (Array.replicate ops.size false) t then S.env t else e t)=S.env t:=fun t=>by
    cases hu:unl ops c (Array.replicate ops.size false) t with
    | true=>rfl
    | false=>
     refine he t fun hm=>?_
     have:unl ops c (Array.replicate ops.size false) t=true:=by
      have v9:∀{l:List Oper} {t:Nat},t∈Zau l→∃(j:Nat)(o:Oper),l[j]?=some o∧o.dst=some t:=by
       intro l
       induction l with
       | nil=>intro t h;simp[Zau]at h
       | cons x l ih=>
        intro t h
        unfold Zau at h
        split at h
        ·obtain⟨j,o,h1,h2⟩:=ih h
         exact⟨j+1,o,by simpa using h1,h2⟩
        ·rename_i d hd
         rcases List.mem_cons.1 h with rfl|h
         ·exact⟨0,x,by simp,hd⟩
         ·obtain⟨j,o,h1,h2⟩:=ih h
          exact⟨j+1,o,by simpa using h1,h2⟩
      obtain⟨j,o,hj,hd⟩:=v9 hm
      have uA:j < c:=by
       have:=(List.getElem?_eq_some_iff.1 hj).1
       simp at this;omega
      have hj':ops.toList[j]?=some o:=by rw[List.getElem?_take_of_lt uA]at hj;exact hj
      unfold unl
      simp only[List.any_eq_true,Bool.and_eq_true,List.mem_range]
      refine⟨j,uA,by rw[none0];rfl,?_⟩
      rw[hj'];exact ZbM.2 hd
     rw[hu]at this;cases this
   unfold Zrg St.wenv
   cases S
   simp only at this ⊢
   congr 1
   funext t;exact this t
  rw[this];exact hr
end Go.Eng
namespace Go.Eng
open Go Go.RowKit
theorem Zks:∀{l:List DOp} {p j:Nat},j∈ZwM l p→∃c∈l,c.i=p∧j∈c.an
 | [],p,j,h=>by simp[ZwM]at h
 | d::l,p,j,h=>by
  simp only[ZwM]at h
  cases hb:Nat.beq d.i p with
  | true=>simp only[hb,cond_true]at h;exact⟨d,by simp,Nat.eq_of_beq_eq_true hb,h⟩
  | false=>
   simp only[hb,cond_false]at h
   obtain⟨c,hc,h1⟩:=Zks h
   exact⟨c,by simp[hc],h1⟩
theorem ZnU{E:Env}{ops:Array Oper}:∀{r before l1:List DOp} {d:DOp} {l2:List DOp},ZiU E ops r before=true→r=l1++d::l2→Zv7 E ops d (l1.reverse++before)=true
 | [],before,l1,d,l2,h,e=>by simp at e
 | x::r,before,[],d,l2,h,e=>by
  simp only[ZiU,Bool.and_eq_true]at h
  simp at e
  rw[←e.1];exact h.1
 | x::r,before,y::l1,d,l2,h,e=>by
  simp only[ZiU,Bool.and_eq_true]at h
  simp at e
  obtain⟨rfl,e⟩:=e
  have:=ZnU h.2 e
  simpa using this
structure Fact (E:Env)(ops:Array Oper)(ds:List DOp)(d:DOp)(o:Oper):Prop where
 ok:DOk E ops d o
 vw:∀j,j∈d.vw→j∈d.an
 an:∀j,j∈d.an→j∈Zbn o∨∃p∈Zbn o,∃c∈ds,c.i=p∧j∈c.an
theorem Zkt{E:Env}{ops:Array Oper}{ds:List DOp}(h:ZiU E ops ds []=true){l1 l2:List DOp}{d:DOp}(e:ds=l1++d::l2):
  ∃o,Fact E ops ds d o∧(∀p∈Zbn o,∃c∈l1,c.i=p)∧(∀c∈l1,(c.i∈d.an∨Zqt ops c d=true)∧c.i≠d.i):=by
 have h1:=ZnU h e
 simp only[List.append_nil]at h1
 unfold Zv7 at h1
 split at h1
 ·cases h1
 ·rename_i o ho
  simp only[Bool.and_eq_true,List.all_eq_true,Bool.or_eq_true,List.any_eq_true]at h1
  obtain⟨⟨⟨⟨⟨⟨g1,g2⟩,g3⟩,g4,g5⟩,g6⟩,g7⟩,g8⟩:=h1
  have gd:∀c∈l1.reverse,c∈ds:=fun c hc=>by rw[e];simp at hc ⊢;exact .inl hc
  refine⟨o,⟨⟨ho,g1,Zhy g2,Zhy g3⟩,Zhy g4,fun j hj=>?_⟩,fun p hp=>?_,fun c hc=>⟨?_,?_⟩⟩
  ·rcases g6 j hj with h2|⟨p,hp,h2⟩
   ·exact .inl (ZaX.1 h2)
   ·obtain⟨c,hc,h3,h4⟩:=Zks (ZaX.1 h2)
    exact .inr ⟨p,hp,c,gd c hc,h3,h4⟩
  ·have:=Zhy g5 p hp
   obtain⟨c,hc,h2⟩:=List.mem_map.1 this
   exact⟨c,by simpa using hc,h2⟩
  ·exact(g7 c (by simpa using hc)).imp ZaX.1 id
  ·have:=g8 c (by simpa using hc)
   intro e;rw[e,Zcl]at this;simp at this
theorem ZgB{α:Type}{R:α→α→Prop}:∀{l:List α},(∀l1 d l2,l=l1++d::l2→∀c∈l1,R c d)→l.Pairwise R
 | [],_=>List.Pairwise.nil
 | x::l,h=>by
  refine List.Pairwise.cons (fun y hy=>?_) (ZgB fun l1 d l2 e c hc=>h (x::l1) d l2 (by simp[e]) c (by simp[hc]))
  obtain⟨s,t,rfl⟩:=List.append_of_mem hy
  exact h (x::s) y t (by simp) x (by simp)
structure Inv (ds:List DOp)(dn:Nat→Bool)(rem:List DOp):Prop where
 rem:rem=ds.filter fun c=>!dn c.i
 closed:∀d∈ds,dn d.i=true→∀j,j∈d.an→dn j=true
section
variable {E:Env} {ops:Array Oper} {ds:List DOp} {dn:Nat→Bool}
theorem Inv.an_of{rem:List DOp}(h:Inv ds dn rem){d:DOp}{o:Oper}(hd:Fact E ops ds d o)(hp:∀p,p∈Zbn o→dn p=true):∀j,j∈d.an→dn j=true:=fun j hj=>by
 rcases hd.an j hj with h1|⟨p,h1,c,h2,h3,h4⟩
 ·exact hp j h1
 ·exact h.closed c h2 (h3 ▸ hp p h1) j h4
theorem Inv.step{r1 r2:List DOp}{d:DOp}(hp:ds.Pairwise fun c d=>c.i≠d.i)(h:Inv ds dn (r1++d::r2))(hd:∀j,j∈d.an→dn j=true):Inv ds (fun j=>dn j||Nat.beq j d.i) (r1++r2):=by
 have gR:(r1++d::r2).Pairwise fun c d=>c.i≠d.i:=by rw[h.rem];exact hp.sublist List.filter_sublist
 refine⟨?_,fun c hc pj j hj=>?_⟩
 ·have e:(ds.filter fun c=>!(dn c.i||Nat.beq c.i d.i))=(r1++d::r2).filter fun c=>!Nat.beq c.i d.i:=by
   rw[h.rem,List.filter_filter]
   congr 1;funext c
   cases dn c.i <;> simp
  rw[e,List.filter_append,List.filter_cons]
  simp only[Zcl,Bool.not_true,Bool.false_eq_true,if_false]
  rw[List.pairwise_append]at gR
  obtain⟨_,h2,h3⟩:=gR
  rw[List.pairwise_cons]at h2
  rw[List.filter_eq_self.2,List.filter_eq_self.2]
  ·intro c hc
   have:=h2.1 c hc
   simp[Zar (Ne.symm this)]
  ·intro c hc
   have:=h3 c hc d (by simp)
   simp[Zar this]
 ·simp only[Bool.or_eq_true]at pj ⊢
  rcases pj with h1|h1
  ·exact .inl (h.closed c hc h1 j hj)
  ·have:c=d:=by
    have l8:d∈ds:=by
     have:d∈ds.filter fun c=>!dn c.i:=by rw[←h.rem];simp
     exact(List.mem_filter.1 this).1
    have hi:=Nat.eq_of_beq_eq_true h1
    by_cases e:c=d
    ·exact e
    ·exfalso
     obtain⟨s,t,rfl⟩:=List.append_of_mem hc
     rw[List.pairwise_append,List.pairwise_cons]at hp
     simp only[List.mem_append,List.mem_cons]at l8
     rcases l8 with l8|l8|l8
     ·exact hp.2.2 d l8 c (by simp) hi.symm
     ·exact e l8.symm
     ·exact hp.2.1.1 d l8 hi
   subst this
   exact .inl (hd j hj)
theorem Inv.head{d:DOp}{r:List DOp}(cK:ZiU E ops ds []=true)(h:Inv ds dn (d::r)):∃o,Fact E ops ds d o∧∀p,p∈Zbn o→dn p=true:=by
 obtain⟨l1,l2,h1,h2,h3,_⟩:=List.filter_eq_cons_iff.1 h.rem.symm
 obtain⟨o,hf,hp,_⟩:=Zkt cK h1
 refine⟨o,hf,fun p lm=>?_⟩
 obtain⟨c,hc,rfl⟩:=hp p lm
 have:=h2 c hc
 simpa using this
theorem Inv.topo(cK:ZiU E ops ds []=true)(hp:ds.Pairwise fun c d=>c.i≠d.i):∀{r1 r2:List DOp} {dn:Nat→Bool},Inv ds dn (r1++r2)→Zv9 (fun j=>dn j=true) r1
 | [],r2,dn,h=>trivial
 | c::r1,r2,dn,h=>by
  obtain⟨o,hf,gR⟩:=h.head cK
  have oB:=h.an_of hf gR
  refine⟨fun j hj=>oB j (hf.vw j hj),?_⟩
  have:=Inv.topo cK hp (r1:=r1) (r2:=r2) (Inv.step (r1:=[]) hp h oB)
  have e:(fun j=>(dn j||Nat.beq j c.i)=true)=(fun j=>dn j=true∨j=c.i):=by
   funext j
   rw[Bool.or_eq_true]
   exact propext ⟨fun h=>h.imp id Nat.eq_of_beq_eq_true,fun h=>h.imp id fun e=>by rw[e];exact Zcl _⟩
  rw[e]at this
  exact this
end
theorem ZhA{ops:Array Oper}:∀{ds:List DOp} {j:Nat},j∈ZiQ ops ds→∃d∈ds,d.i=j
 | [],j,h=>by simp[ZiQ]at h
 | d::r,j,h=>by
  simp only[ZiQ]at h
  split at h
  ·obtain⟨c,hc,e⟩:=ZhA h;exact⟨c,by simp[hc],e⟩
  ·rename_i o _
   cases hg:ZdZ o with
   | true=>
    simp only[hg,cond_true,List.mem_cons]at h
    rcases h with h|h
    ·exact⟨d,by simp,h.symm⟩
    ·obtain⟨c,hc,e⟩:=ZhA h;exact⟨c,by simp[hc],e⟩
   | false=>
    simp only[hg,cond_false]at h
    obtain⟨c,hc,e⟩:=ZhA h;exact⟨c,by simp[hc],e⟩
theorem Zku{ops:Array Oper}:∀{ds:List DOp},ZiQ ops ds=[]→∀d∈ds,∀o,ops.toList[d.i]?=some o→ZdZ o=false
 | [],_,d,hd=>by simp at hd
 | c::r,h,d,hd=>fun o ho=>by
  simp only[ZiQ]at h
  rcases List.mem_cons.1 hd with rfl|hd
  ·simp only[ho]at h
   cases hg:ZdZ o with
   | false=>rfl
   | true=>simp[hg]at h
  ·split at h
   ·exact Zku h d hd o ho
   ·rename_i oc _
    cases hg:ZdZ oc with
    | true=>simp[hg]at h
    | false=>simp only[hg,cond_false]at h;exact Zku h d hd o ho
theorem ZnV{C:Ctx}{E:Env}(hE:E.ok){F:Fence}(hF:FOk F)(hY:YOk E C){ops:Array Oper}(bK:Zlm C.n ops.toList=true)(ip:E.fix=none){m0:Mem}{f:Fx}{ds:List DOp}(cK:ZiU E ops ds []=true)
  {n e:Nat} {Q:Exit→Act→World→Prop} {K:St→Mem→Prop}
  (mX:∀(listed:Array Bool)(rem:List DOp) i,Inv ds (fun j=>listed.getD j false) rem→(∀j,listed.getD j false=true→∃d∈ds,d.i=j)→listed.size=ops.size→i∈Region.ready .any ops listed→(∃d∈ds,d.i=i)∨∀d∈ds,listed.getD d.i false=true)
  (ky:∀(fuel:Nat)(listed:Array Bool)(S':St)(m':Mem)(a':Act)(w':World),e≤fuel→listed.size=ops.size→(∀d∈ds,listed.getD d.i false=true)→(∀j,listed.getD j false=true→∃d∈ds,d.i=j)→K S' m'→Rel C S' m' a' w'→wpAnyIn F n E.P .any ops Q fuel listed a' w'):
  ∀(fuel:Nat){listed:Array Bool}{rem:List DOp}{S:St}{μ:Nat→Mem}{A:Mem}{a:Act}{w:World},listed.size=ops.size→Inv ds (fun j=>listed.getD j false) rem→rem.length+e≤fuel→Rel C S A a w→m0.le A→
   (∀j,listed.getD j false=true→(μ j).le A)→(∀j,listed.getD j false=true→∃d∈ds,d.i=j)→(ZiQ ops ds=[]→A=m0)→(∀d∈ds,(∀i,i∈d.ws→i∈S.ids)∧∀k,d.tk=some k→k∈S.tkeys)→
   ZiO E ops m0 f rem (fun S' μ=>Zv5 m0 μ (ZiQ ops ds) fun M=>K S' M) S μ→wpAnyIn F n E.P .any ops Q fuel listed a w:=by
 have lV:ds.Pairwise fun c d=>(c.i∈d.an∨Zqt ops c d=true)∧c.i≠d.i:=ZgB fun l1 d l2 e c hc=>by
  obtain⟨o,_,_,h⟩:=Zkt cK e
  exact h c hc
 have kX:ds.Pairwise fun c d=>c.i≠d.i:=lV.imp fun h=>h.2
 have factOf:∀d∈ds,∃o,Fact E ops ds d o:=fun d hd=>by
  obtain⟨s,t,e⟩:=List.append_of_mem hd
  obtain⟨o,h,_⟩:=Zkt cK e
  exact⟨o,h⟩
 have allOf:∀{listed:Array Bool} {rem:List DOp},Inv ds (fun j=>listed.getD j false) rem→rem=[]→∀d∈ds,listed.getD d.i false=true:=fun dF he d hd=>by
  subst he
  have:=List.filter_eq_nil_iff.1 dF.rem.symm d hd
  simpa using this
 have fin:∀{fuel:Nat} {listed:Array Bool} {rem:List DOp} {S:St} {μ:Nat→Mem} {A:Mem} {a:Act} {w:World},listed.size=ops.size→Inv ds (fun j=>listed.getD j false) rem→Rel C S A a w→m0.le A→(∀j,listed.getD j false=true→(μ j).le A)→(∀j,listed.getD j false=true→∃d∈ds,d.i=j)→(ZiQ ops ds=[]→A=m0)→
   ZiO E ops m0 f rem (fun S' μ=>Zv5 m0 μ (ZiQ ops ds) fun M=>K S' M) S μ→rem=[]→e≤fuel→wpAnyIn F n E.P .any ops Q fuel listed a w:=by
  intro fuel listed rem S μ A a w cN dF hr h0 hμ hl hg hn he kZ
  have bS:=allOf dF he
  subst he
  refine ky fuel listed S A a w kZ cN bS hl (ZrK hn h0 hg fun j hj=>?_) hr
  obtain⟨d,hd,rfl⟩:=ZhA hj
  exact hμ _ (bS d hd)
 have stuck:∀{listed:Array Bool} {rem:List DOp},listed.size=ops.size→Inv ds (fun j=>listed.getD j false) rem→Region.ready .any ops listed=[]→rem=[]:=by
  intro listed rem cN dF cO
  cases rem with
  | nil=>rfl
  | cons d r=>
   exfalso
   obtain⟨o,hf,hp⟩:=dF.head cK
   have cX:d∈ds.filter fun c=>!listed.getD c.i false:=by rw[←dF.rem];simp
   have h1:=(List.mem_filter.1 cX).2
   have ho':ops[d.i]?=some o:=by simpa using hf.ok.at_
   have aY:d.i < ops.size:=(Array.getElem?_eq_some_iff.1 ho').1
   have:d.i∈Region.ready .any ops listed:=mem_ready.2 ⟨by
    have hl:d.i < listed.size:=by omega
    simpa[Array.getD,hl]using h1,o,ho',fun e he hb=>hp e.on (by
     simp only[Zbn,List.mem_map,List.mem_filter]
     exact⟨e,⟨by simpa using he,hb⟩,rfl⟩)⟩
   rw[cO]at this;simp at this
 intro fuel
 induction fuel with
 | zero=>
  intro listed rem S μ A a w cN dF bN hr h0 hμ jQ hg eB hn
  have he:rem=[]:=List.eq_nil_of_length_eq_zero (by omega)
  exact fin cN dF hr h0 hμ jQ hg hn he (by omega)
 | succ fuel ih=>
  intro listed rem S μ A a w cN dF bN hr h0 hμ jQ hg eB hn
  by_cases mY:rem=[]
  ·exact fin cN dF hr h0 hμ jQ hg hn mY (by omega)
  refine⟨fun cO=>absurd (stuck cN dF cO) mY,fun i hi=>?_⟩
  rcases mX listed rem i dF jQ cN hi with⟨d,hd,rfl⟩|pq
  rotate_left
  ·exfalso
   apply mY
   rw[dF.rem,List.filter_eq_nil_iff]
   intro d hd
   simp[pq d hd]
  obtain⟨i4,o,ho,bS⟩:=mem_ready.1 hi
  have aY:d.i < ops.size:=(Array.getElem?_eq_some_iff.1 ho).1
  have hl:d.i < listed.size:=by omega
  have kB:listed.getD d.i false=false:=by simp[Array.getD,hl]at i4 ⊢;exact i4
  obtain⟨o',hf⟩:=factOf d hd
  have:o'=o:=by
   have h1:=hf.ok.at_
   have h2:ops.toList[d.i]?=some o:=by simpa using ho
   rw[h1]at h2;exact Option.some.inj h2
  subst this
  have gR:∀p,p∈Zbn o'→listed.getD p false=true:=fun p hp=>by
   simp only[Zbn,List.mem_map,List.mem_filter]at hp
   obtain⟨e,⟨he,hb⟩,rfl⟩:=hp
   exact bS e (by simpa using he) hb
  have oB:=dF.an_of hf gR
  have oA:d∈rem:=by rw[dF.rem];exact List.mem_filter.2 ⟨hd,by simp[kB]⟩
  obtain⟨r1,r2,rfl⟩:=List.append_of_mem oA
  have dT:(r1++d::r2).Sublist ds:=by rw[dF.rem];exact List.filter_sublist
  have pr:=lV.sublist dT
  have gQ:∀c∈r1,Zqt ops c d=true:=fun c hc=>by
   rw[List.pairwise_append]at pr
   rcases(pr.2.2 c hc d (by simp)).1 with h1|h1
   ·have h2:=oB _ h1
    have wb:c∈ds.filter fun c=>!listed.getD c.i false:=by rw[←dF.rem];simp[hc]
    have h3:=(List.mem_filter.1 wb).2
    rw[h2]at h3;cases h3
   ·exact h1
  have gd:∀c∈r1++d::r2,c∈ds:=fun c hc=>dT.subset hc
  have hT:=extract hE hF hY bK ip (r1:=r1) (D:=fun j=>listed.getD j false=true) hr h0 hμ (dF.topo cK kX) (fun c hc=>by
   obtain⟨oc,lR⟩:=factOf c (gd c (by simp[hc]))
   exact⟨⟨oc,lR.ok⟩,eB c (gd c (by simp[hc]))⟩) gQ hn
  refine Zqx hE hF hY bK ip hf.ok (eB d hd).1 (eB d hd).2 hr h0 (fun j hj=>hμ j (oB j (hf.vw j hj))) hT ?_
  intro S' m' A' a' w' gp bL hA hm wd
  have pu:(fun j=>(listed.setIfInBounds d.i true).getD j false)=fun j=>listed.getD j false||Nat.beq j d.i:=by
   funext j
   by_cases hj:j=d.i
   ·subst hj;simp[Array.getD,hl]
   ·have:Nat.beq j d.i=false:=Zar hj
    rw[getD_set_ne false (Ne.symm hj),this,Bool.or_false]
  refine ih (rem:=r1++r2) (S:=Zps ops d S S') (μ:=upd μ d.i m') (A:=A') (by simpa using cN) ?_ (by simp at bN ⊢;omega) bL (Mem.le_trans h0 hA) ?_ ?_ ?_ ?_ (Zqw hf.ok.ws gQ hn gp)
  ·rw[pu];exact dF.step kX oB
  ·intro j hj
   have hj':(listed.getD j false||Nat.beq j d.i)=true:=by rw[←hj];exact(congrFun pu j).symm
   by_cases e:j=d.i
   ·subst e;rw[Zqy];exact hm
   ·rw[Zu2 e]
    rw[Zar e,Bool.or_false]at hj'
    exact Mem.le_trans (hμ j hj') hA
  ·intro j hj
   have hj':(listed.getD j false||Nat.beq j d.i)=true:=by rw[←hj];exact(congrFun pu j).symm
   rw[Bool.or_eq_true]at hj'
   rcases hj' with h|h
   ·exact jQ j h
   ·exact⟨d,hd,(Nat.eq_of_beq_eq_true h).symm⟩
  ·intro uB
   rw[wd (Zku uB d hd o' hf.ok.at_)]
   exact hg uB
  ·intro c hc
   rw[(Zkr ops d S S').1,(Zkr ops d S S').2]
   exact eB c hc
theorem ZnW:∀{ds:List DOp} {d:DOp} {i:Nat},d∈ds→i∈d.ws→i∈ZuW ds
 | [],d,i,hd,_=>by simp at hd
 | c::r,d,i,hd,hi=>by
  simp only[ZuW,List.mem_append]
  rcases List.mem_cons.1 hd with rfl|hd
  ·exact .inl hi
  ·exact .inr (ZnW hd hi)
theorem ZnX:∀{ds:List DOp} {d:DOp} {k:Nat},d∈ds→d.tk=some k→k∈Zuv ds
 | [],d,k,hd,_=>by simp at hd
 | c::r,d,k,hd,hk=>by
  simp only[Zuv]
  rcases List.mem_cons.1 hd with rfl|hd
  ·simp[hk]
  ·have:=ZnX hd hk
   cases c.tk <;> simp[this]
theorem ZnY{C:Ctx}{S:St}{m:Mem}{a:Act}{w:World}(h:Rel C S m a w)(ds:List DOp):Rel C (Zkn ds S) m a w:=
 h.restrict rfl (fun _ _ hx=>hx) (fun _ _ ht=>.inl ht) (fun i sv he=>by
  obtain⟨v,h1,h2⟩:=h.env i sv he
  exact⟨v,by cases sv <;> exact h1,h2⟩) (fun id x hx=>by simp only[Zkn];exact List.mem_append_right _ (h.ids id x hx)) (fun k t ht=>by simp only[Zkn];exact List.mem_append_right _ (h.tkeys k t ht))
theorem ZlF{E:Env}(hE:E.ok)(eD:E.P.follows .mixedOrders=true):ZdQ E (Zko E):=by
 intro C F hF hY n id ops K S m a w Q bK hr h hK
 have over:∀(fuel:Nat)(listed:Array Bool)(S':St)(m':Mem)(a':Act)(w':World),listed.size=ops.size→(∀j,j < ops.size→listed.getD j false=true)→K S' m'→Rel C S' m' a' w'→wpAnyIn F n E.P .any ops Q fuel listed a' w':=by
  intro fuel listed S' m' a' w' cN bS hk bL
  have jk:Region.ready .any ops listed=[]:=by
   cases cO:Region.ready .any ops listed with
   | nil=>rfl
   | cons i l=>
    exfalso
    have hi:i∈Region.ready .any ops listed:=by rw[cO];simp
    obtain⟨i4,o,ho,_⟩:=mem_ready.1 hi
    have aY:i < ops.size:=(Array.getElem?_eq_some_iff.1 ho).1
    have h1:=bS i aY
    have hl:i < listed.size:=by omega
    simp[Array.getD,hl]at i4 h1
    rw[i4]at h1;cases h1
  cases fuel with
  | zero=>exact⟨jk,hK _ _ _ _ hk bL⟩
  | succ fuel=>exact⟨fun _=>hK _ _ _ _ hk bL,fun i hi=>by rw[jk]at hi;simp at hi⟩
 unfold Zko at h
 cases hh:E.hot id with
 | true=>
  simp only[hh,cond_true]at h
  exact wpIn_region_any eD (Zu4 hE hF hY bK over hr.drew h)
 | false=>
 simp only[hh,cond_false]at h
 obtain⟨h1,h2⟩:=Zaf h
 obtain⟨f,h2⟩:=ZtF h2
 have h2:ZiO E ops m f (E.dr id) (fun S' μ=>Zv5 m μ (ZiQ ops (E.dr id)) fun M=>bif E.last id then ZrH E ops (E.lastK id) K S' M else K S' M) (Zkn (E.dr id) S) (fun _=>m):=by
  cases pb:E.gb with
  | false=>simp only[pb,cond_false]at h2;exact h2
  | true=>simp only[pb,cond_true]at h2;exact Zjw h2
 simp only[ZuX,Bool.and_eq_true,List.all_eq_true,List.any_eq_true]at h1
 obtain⟨⟨⟨⟨mX,bN⟩,cK⟩,ip⟩,dB⟩:=h1
 refine wpIn_region_any eD ?_
 have iD:∀i,i < (bif E.last id then ops.size - E.lastK id else ops.size)→∃d∈E.dr id,d.i=i:=fun i hi=>by
  obtain⟨d,hd,e⟩:=mX i (List.mem_range.2 hi)
  exact⟨d,hd,Nat.eq_of_beq_eq_true e⟩
 have bN:(E.dr id).length≤ops.size:=Nat.le_of_ble_eq_true bN
 have inv0:Inv (E.dr id) (fun j=>(Array.replicate ops.size false).getD j false) (E.dr id):=by
  refine⟨(List.filter_eq_self.2 fun c hc=>?_).symm,fun d hd pu=>?_⟩
  ·simp[Array.getD]
  ·simp[Array.getD]at pu
 have none0:∀j,(Array.replicate ops.size false).getD j false=true→False:=fun j hj=>by simp[Array.getD]at hj
 have ids0:∀d∈E.dr id,(∀i,i∈d.ws→i∈(Zkn (E.dr id) S).ids)∧∀k,d.tk=some k→k∈(Zkn (E.dr id) S).tkeys:=fun d hd=>
  ⟨fun i hi=>List.mem_append_left _ (ZnW hd hi),fun k hk=>List.mem_append_left _ (ZnX hd hk)⟩
 cases hl:E.last id with
 | false=>
  simp only[hl,cond_false]at h2 iD
  refine ZnV hE hF hY bK (by simpa using ip) cK (e:=0) (fun listed _ i _ _ _ hi=>.inl ?_) (fun fuel listed S' m' a' w' _ cN bS _ hk bL=>over fuel listed S' m' a' w' cN (fun j hj=>by obtain⟨d,hd,rfl⟩:=iD j hj;exact bS d hd) hk bL) ops.size (rem:=E.dr id) (A:=m) (by simp) inv0 (by omega) ((ZnY hr.drew (E.dr id))) (Mem.le_refl m) (fun j hj=>(none0 j hj).elim) (fun j hj=>(none0 j hj).elim) (fun _=>rfl) ids0 h2
  obtain⟨_,o,ho,_⟩:=mem_ready.1 hi
  exact iD i (Array.getElem?_eq_some_iff.1 ho).1
 | true=>
  simp only[hl,cond_true]at h2 iD dB
  generalize E.lastK id=k at *
  unfold ZuY at dB
  simp only[Bool.and_eq_true,List.all_eq_true]at dB
  obtain⟨⟨lq,si⟩,pg⟩:=dB
  have lq:=Nat.le_of_ble_eq_true lq
  have gL:∀i,ops.size - k≤i→i < ops.size→∃o,ops[i]?=some o∧(∀j,ops.size - k≤j→j < i→j∈Zbn o)∧(∀j∈Zbn o,j < i)∧(i=ops.size - k→∀j,j < ops.size - k→j∈Zbn o∨∃p∈Zbn o,∃c∈E.dr id,c.i=p∧j∈c.an):=by
   intro i h1 h2
   have:=si (i - (ops.size - k)) (List.mem_range.2 (by omega))
   rw[show ops.size - k+(i - (ops.size - k))=i by omega]at this
   split at this
   ·cases this
   ·rename_i o ho
    simp only[Bool.and_eq_true,List.all_eq_true]at this
    refine⟨o,by simpa using ho,fun j vZ hj=>?_,fun j hj=>Nat.le_of_ble_eq_true (this.2.1 j hj),fun hi j hj=>?_⟩
    ·have h3:=ZaX.1 (this.1 (j - (ops.size - k)) (List.mem_range.2 (by omega)))
     rw[show ops.size - k+(j - (ops.size - k))=j by omega]at h3
     exact h3
    ·have h3:=this.2.2
     rw[hi,Nat.sub_self]at h3
     simp only[show Nat.beq 0 0=true from rfl,cond_true,List.all_eq_true,Bool.or_eq_true,List.any_eq_true]at h3
     rcases h3 j (List.mem_range.2 hj)with h4|⟨p,hp,h4⟩
     ·exact .inl (ZaX.1 h4)
     ·obtain⟨c,hc,h5,h6⟩:=Zks (ZaX.1 h4)
      exact .inr ⟨p,hp,c,hc,h5,h6⟩
  have lD:∀d∈E.dr id,d.i < ops.size - k:=fun d hd=>Nat.le_of_ble_eq_true (pg d hd)
  have xE:(E.dr id).length+k≤ops.size:=by
   have kX:(E.dr id).Pairwise fun c d=>c.i≠d.i:=ZgB fun l1 d l2 e c hc=>by
    obtain⟨o,_,_,h⟩:=Zkt cK e
    exact(h c hc).2
   have eH:((E.dr id).map (·.i)).Nodup:=by
    unfold List.Nodup
    rw[List.pairwise_map]
    exact kX
   have:=List.Nodup.length_le_of_subset eH (l₂:=List.range (ops.size - k)) (fun j hj=>by
    obtain⟨d,hd,rfl⟩:=List.mem_map.1 hj
    exact List.mem_range.2 (lD d hd))
   simp at this
   omega
  have tail:∀(r:List Oper)(i:Nat),ops.toList.drop i=r→ops.size - k≤i→i≤ops.size→∀(fuel:Nat)(listed:Array Bool)(S':St)(m':Mem)(a':Act)(w':World),r.length≤fuel→listed.size=ops.size→(∀j,j < i→listed.getD j false=true)→(∀j,i≤j→listed.getD j false=false)→Zjv E ops K r S' m'→Rel C S' m' a' w'→wpAnyIn F n E.P .any ops Q fuel listed a' w':=by
   intro r
   induction r with
   | nil=>
    intro i hi h1 h2 fuel listed S' m' a' w' _ cN bS _ hk bL
    have:ops.size≤i:=by
     have:=congrArg List.length hi
     simp at this
     omega
    exact over fuel listed S' m' a' w' cN (fun j hj=>bS j (by omega)) hk bL
   | cons o r ih=>
    intro i hi h1 h2 fuel listed S' m' a' w' kZ cN bS dV hk bL
    have dY:i < ops.size:=by
     have:=congrArg List.length hi
     simp at this
     omega
    obtain⟨o',ho',iG,dM,_⟩:=gL i h1 dY
    have l7:ops.toList[i]?=some o:=by
     have:=congrArg (fun l=>l[0]?) hi
     simpa using this
    have rV:o'=o:=by
     have:ops.toList[i]?=some o':=by simpa using ho'
     rw[l7]at this;cases this;rfl
    subst rV
    have rW:ops.toList.drop (i+1)=r:=by
     have:=congrArg (List.drop 1) hi
     simpa[List.drop_drop,Nat.add_comm]using this
    obtain⟨fuel,rfl⟩:∃k,fuel=k+1:=⟨fuel - 1,by simp at kZ;omega⟩
    have i4:listed.getD i false=false:=dV i (Nat.le_refl _)
    have dK:i < listed.size:=by omega
    refine⟨fun cO=>?_,fun q hq=>?_⟩
    ·exfalso
     have:i∈Region.ready .any ops listed:=mem_ready.2 ⟨by simpa[Array.getD,dK]using i4,o',ho',fun e he hb=>?_⟩
     ·rw[cO]at this;simp at this
     ·have hm:e.on∈Zbn o':=by
       simp only[Zbn,List.mem_map,List.mem_filter]
       exact⟨e,⟨by simpa using he,hb⟩,rfl⟩
      exact bS _ (dM _ hm)
    ·obtain⟨pd,o2,gB,gR⟩:=mem_ready.1 hq
     have hq':q < ops.size:=(Array.getElem?_eq_some_iff.1 gB).1
     have:q=i:=by
      by_cases h3:q < i
      ·have h4:=bS q h3
       have hl:q < listed.size:=by omega
       simp[Array.getD,hl]at pd h4
       rw[pd]at h4;cases h4
      ·by_cases h4:q=i
       ·exact h4
       ·exfalso
        obtain⟨o3,mT,lA,_⟩:=gL q (by omega) hq'
        rw[mT]at gB;cases gB
        have:=lA i h1 (by omega)
        simp only[Zbn,List.mem_map,List.mem_filter]at this
        obtain⟨e,⟨he,hb⟩,h5⟩:=this
        have:=gR e (by simpa using he) hb
        rw[h5,i4]at this;cases this
     subst this
     simp only[Zjv]at hk
     have:=Zio hE hF hY (Zc1 bK _ o' l7) bL hk (n:=n) (Q:=Q) (next:=wpAnyIn F n E.P .any ops Q fuel (listed.setIfInBounds q true)) (fun S2 m2 a2 w2 gt gT=>ih (q+1) rW (by omega) (by omega) fuel _ S2 m2 a2 w2 (by simp at kZ;omega) (by simpa using cN) (fun j hj=>by
      by_cases e:j=q
      ·subst e;simp[Array.getD,dK]
      ·rw[getD_set_ne false (Ne.symm e)]
       exact bS j (by omega)) (fun j hj=>by
      rw[getD_set_ne false (by omega)]
      exact dV j (by omega)) gt gT)
     unfold wpOpIn
     simp only[ho']
     exact this
  refine ZnV hE hF hY bK (by simpa using ip) cK (e:=k) (fun listed rem i dF jQ cN hi=>?_) (fun fuel listed S' m' a' w' kZ cN bS jQ hk bL=>?_) ops.size (rem:=E.dr id) (A:=m) (by simp) inv0 (by omega) ((ZnY hr.drew (E.dr id))) (Mem.le_refl _) (fun j hj=>(none0 j hj).elim) (fun j hj=>(none0 j hj).elim) (fun _=>rfl) ids0 h2
  ·obtain⟨_,o2,gB,bS⟩:=mem_ready.1 hi
   have hi':i < ops.size:=(Array.getElem?_eq_some_iff.1 gB).1
   by_cases iU:i < ops.size - k
   ·exact .inl (iD i iU)
   ·right
    obtain⟨o3,mT,lA,_,se⟩:=gL i (by omega) hi'
    have we:o2=o3:=by rw[mT]at gB;cases gB;rfl
    subst we
    have sj:∀j∈Zbn o2,listed.getD j false=true:=fun j hj=>by
     simp only[Zbn,List.mem_map,List.mem_filter]at hj
     obtain⟨e,⟨he,hb⟩,h3⟩:=hj
     have:=bS e (by simpa using he) hb
     rw[h3]at this
     exact this
    intro d hd
    by_cases sg:i=ops.size - k
    ·rcases se sg d.i (lD d hd)with h3|⟨p,hp,c,hc,h3,h4⟩
     ·exact sj _ h3
     ·exact dF.closed c hc (h3 ▸ sj p hp) d.i h4
    ·exfalso
     have h3:=sj _ (lA (ops.size - k) (Nat.le_refl _) (by omega))
     obtain⟨d',hd',h4⟩:=jQ _ h3
     have:=lD d' hd'
     omega
  ·unfold ZrH at hk
   refine tail _ (ops.size - k) rfl (Nat.le_refl _) (Nat.sub_le _ _) fuel listed S' m' a' w' (by simp;omega) cN (fun j hj=>?_) (fun j hj=>?_) hk bL
   ·obtain⟨d,hd,rfl⟩:=iD j hj
    exact bS d hd
   ·cases hb:listed.getD j false with
    | false=>rfl
    | true=>
     obtain⟨d,hd,h3⟩:=jQ _ hb
     have:=lD d hd
     omega
theorem Rel.ptrS{C:Ctx}{S:St}{m:Mem}{a:Act}{w:World}(h:Rel C S m a w)(ts:List Nat):Rel C (ptrS S ts) m a w:=by
 refine h.restrict rfl (fun _ _ hx=>hx) (fun _ _ ht=>.inl ht) (fun t sv he=>?_) h.ids h.tkeys
 have den:∀sv,(Eng.ptrS S ts).den sv=S.den sv:=fun sv=>by cases sv <;> rfl
 rw[den]
 have he:(bif mem ts t then Zxa S (S.env t)else S.env t)=some sv:=he
 cases hm:mem ts t with
 | false=>rw[hm]at he;exact h.env t sv he
 | true=>
  rw[hm,cond_true]at he
  unfold Zxa at he
  split at he
  ·rename_i i off hi
   cases hx:S.L i with
   | none=>simp[hx]at he
   | some x=>
    simp only[hx,Option.some.injEq]at he
    subst he
    obtain⟨v,h1,h2⟩:=h.env t _ hi
    simp only[St.den,hx]at h1
    cases h1
    exact⟨_,rfl,h2⟩
  ·exact h.env t sv he
theorem ZqD{E:Env}(hE:E.ok)(eD:E.P.follows .mixedOrders=true){C:Ctx}{F:Fence}(hF:FOk F)(hY:YOk E C)(n:Nat)(id:Nat)(ops:Array Oper){K:St→Mem→Prop}{S2:St}{m2:Mem}{a:Act}{w:World}{Q:Exit→Act→World→Prop}
  (bK:Zlm C.n ops.toList=true) (gJ:Rel C S2 m2 a w) (h2:ZwP (E.ptrAt id) (Zau ops.toList) (Zko E id ops) K S2 m2) (hK:∀S' m' a' w',K S' m'→Rel C S' m' a' w'→Q .normal a' w'):(Code.region id ops true).wpIn F n E.P Q a w:=by
 unfold ZwP at h2
 split at h2
 ·exact ZlF hE eD hF hY n id ops bK gJ h2 hK
 ·rename_i t0 tl lr
  obtain⟨h3,h4⟩:=Zaf h2
  generalize E.ptrAt id=ts at *
  have h5:=Zkp E id ops _ (fun S' m'=>SameOut (Zau ops.toList) (ptrS S2 ts) S'∧ZiV S2 S' ts (K (ZuZ S2 S' ts) m')) _ m2 (fun S' m' hs _ y=>⟨hs,y⟩) h4
  refine ZlF hE eD hF hY n id ops bK (gJ.ptrS ts) h5 (fun S' m' a' w' hk bL=>?_)
  obtain⟨hs,hk⟩:=hk
  obtain⟨hk,hp⟩:=ZgA hk
  refine hK _ m' a' w' hk (bL.restrict rfl (fun _ _ hx=>hx) (fun _ _ ht=>.inl ht) (fun t sv he=>?_) bL.ids bL.tkeys)
  have den:∀sv,(ZuZ S2 S' ts).den sv=S'.den sv:=fun sv=>by cases sv <;> rfl
  rw[den]
  have he:(bif mem ts t then S2.env t else S'.env t)=some sv:=he
  cases hm:mem ts t with
  | false=>rw[hm]at he;exact bL.env t sv he
  | true=>
   rw[hm,cond_true]at he
   have qA:=ZaX.1 hm
   have eH:t ∉ Zau ops.toList:=fun hd=>by
    have:=List.all_eq_true.1 h3 t qA
    simp[ZaX.2 hd]at this
   have h6:=hs t eH
   have h7:(ptrS S2 ts).env t=Zxa S2 (S2.env t):=by show(bif mem ts t then _ else _)=_;rw[hm];rfl
   rcases hp t qA with⟨i,off,q1,q2⟩|⟨v,q1⟩
   ·rw[q1]at he;cases he
    obtain⟨v,r1,r2⟩:=gJ.env t _ q1
    simp only[St.den]at r1
    cases hx:S2.L i with
    | none=>simp[hx]at r1
    | some x=>
     rw[q1]at h7
     simp only[Zxa,hx]at h7
     obtain⟨u,r3,r4⟩:=bL.env t _ (h6.trans h7)
     simp only[St.den]at r3;cases r3
     refine⟨_,?_,r4⟩
     simp only[St.den,q2,hx]
   ·rw[q1]at he;cases he
    rw[q1]at h7
    exact bL.env t _ (h6.trans h7)
theorem ZhB{E:Env}(hE:E.ok)(eD:E.P.follows .mixedOrders=true):ZdQ E (Za0 E):=by
 intro C F hF hY n id ops K S m a w Q bK hr h hK
 obtain⟨S2,m2,gJ,h2⟩:=Zil hr h
 unfold ZuL at h2
 split at h2
 ·exact ZqD hE eD hF hY n id ops bK gJ h2 hK
 ·rename_i key esz _
  obtain⟨h3,h4⟩:=Zaf h2
  cases gf:E.m0 with
  | none=>simp[gf]at h4
  | some mm=>
   simp only[gf]at h4
   obtain⟨p,n',c,z1,z2,z3⟩:=h4
   refine ZqD hE eD hF hY n id ops bK (gJ.acq hY gf z1 z2) z3 (fun S' m' a' w' hk bL=>?_)
   split at hk
   ·exact hk.elim
   ·rename_i t ht
    obtain⟨jM,gt⟩:=Zaf hk
    obtain⟨zs,rC,ji⟩:=bL.unacq ht
    exact hK _ _ _ _ (gt zs rC) ji
def ZhC(fn:Func):Code:=match fn.body with
 | some c=>c
 | none=>.skip
def Env.at(E:Env)(m:Mem):Env:={ E with m0:=some m }
def FW(E:Env)(fn:Func)(svs:List SV)(xs:List Box)(m:Mem)(R:Value→Mem→List (List Value)→Prop):Prop:=
 W (E.at m) (Za0 (E.at m)) (ZhC fn) (ZxE (E.at m) fn.results.toList m xs R) (S0 svs xs) m
def ZwQ(E:Env)(fn:Func)(svs:List SV)(xs:List Box):Bool:=
 !(fn.name == "runtime.NumGoroutine")&&fn.body.isSome&&Zav E (ZhC fn)&&ZbB fn.ntmps (ZhC fn)&&Zuu E.frz&&E.yl.isNone&&Nat.ble svs.length fn.ntmps&&Zlt xs svs
theorem ZeK{fn:Func}(h:fn.body.isSome=true):fn.body=some (ZhC fn):=by
 unfold ZhC
 cases hb:fn.body with
 | none=>rw[hb]at h;cases h
 | some c=>rfl
theorem Zbj(E:Env)(m:Mem):∀c:Code,Zav (E.at m) c=Zav E c
 | .region _ _ _=>rfl
 | .seq a b=>by simp only[Zav,Zbj E m a,Zbj E m b];rfl
 | .cond _ a b=>by simp only[Zav,Zbj E m a,Zbj E m b]
 | .block _ a=>by simp only[Zav,Zbj E m a]
 | .loop a=>by simp only[Zav,Zbj E m a];rfl
 | .rangeFunc _ _ a b=>by simp only[Zav,Zbj E m a,Zbj E m b]
 | .scope a=>by simp only[Zav,Zbj E m a]
 | .skip=>rfl
 | .label _=>rfl
 | .goto _=>rfl
 | .exit _=>rfl
 | .ret=>rfl
 | .refuse _=>rfl
theorem Zaj{E:Env}(hE:E.ok)(eD:E.P.follows .mixedOrders=true){g:FuncId}{fn:Func}(hf:E.P.funcs[g]?=some fn){m:Mem}{R:Value→Mem→List (List Value)→Prop}(svs:List SV)(xs:List Box)
  (cK:ZwQ E fn svs xs=true) (h:FW E fn svs xs m R):CX E.P g (svs.map (Zpn xs)).toArray m xs R:=by
 simp only[ZwQ,Bool.and_eq_true,Bool.not_eq_true']at cK
 obtain⟨⟨⟨⟨⟨⟨⟨h1,h2⟩,h3⟩,h4⟩,h5⟩,h8⟩,h6⟩,h7⟩:=cK
 exact ZuP (E:=E.at m) hE (Zkq _) (ZhB (E:=E.at m) hE eD) hf h1 (ZeK h2) (by rw[Zbj];exact h3) h4 h5 (show E.yl=none by simpa using h8) (fun mm fM=>Option.some.inj fM) svs xs h6 h7 h
theorem ZaO(E:Env)(l:Nat)(xs:List (List Value)):∀c:Code,Zav (E.yields l xs) c=Zav E c
 | .region _ _ _=>rfl
 | .seq a b=>by simp only[Zav,ZaO E l xs a,ZaO E l xs b];rfl
 | .cond _ a b=>by simp only[Zav,ZaO E l xs a,ZaO E l xs b]
 | .block _ a=>by simp only[Zav,ZaO E l xs a]
 | .loop a=>by simp only[Zav,ZaO E l xs a];rfl
 | .rangeFunc _ _ a b=>by simp only[Zav,ZaO E l xs a,ZaO E l xs b]
 | .scope a=>by simp only[Zav,ZaO E l xs a]
 | .skip=>rfl
 | .label _=>rfl
 | .goto _=>rfl
 | .exit _=>rfl
 | .ret=>rfl
 | .refuse _=>rfl
def FWI(E:Env)(fn:Func)(first captured:List Value)(m:Mem)(xs:List (List Value)):Prop:=
 ∀l,W (E.yields l xs) (Za0 (E.yields l xs)) (ZhC fn) (ZwL E fn.results.toList xs.length) (S0 ((first++.func (.yield l) #[] #[]::captured).map .v) []) m
def ZwR(E:Env)(fn:Func)(k:Nat):Bool:=
 !(fn.name == "runtime.NumGoroutine")&&fn.body.isSome&&Zav E (ZhC fn)&&ZbB fn.ntmps (ZhC fn)&&Nat.ble (k+1) fn.ntmps
theorem ZnZ{E:Env}(hE:E.ok)(eD:E.P.follows .mixedOrders=true){g:FuncId}{fn:Func}(hf:E.P.funcs[g]?=some fn){m:Mem}(first captured:List Value)(xs:List (List Value))
  (cK:ZwR E fn (first.length+captured.length)=true) (h:FWI E fn first captured m xs):IX E.P g first captured m xs:=by
 simp only[ZwR,Bool.and_eq_true,Bool.not_eq_true']at cK
 obtain⟨⟨⟨⟨h1,h2⟩,h3⟩,h4⟩,h5⟩:=cK
 exact ZuQ (Za0:=Za0) hE hf h1 (ZeK h2) h4 first captured xs h5 fun l=>
  ⟨Zkq _,ZhB (E:=E.yields l xs) hE eD,by rw[ZaO];exact h3,h l⟩
end Go.Eng
set_option linter.unusedSectionVars false
namespace Go.Eng
open Go Go.RowKit
set_option maxRecDepth 100000
def Zu5:List ResultVar→Nat
 | [.tmp d]=>d
 | _=>0
def Zxx(E:Env)(rs:List ResultVar)(m0:Mem)(esz:Nat)(R:Value→Mem→List (List Value)→Prop)(S:St)(m:Mem):Prop:=
 Zv3 E S m rs fun vs=>(match S.tok (E.tokOf (Zu5 rs))with
  | none=>ZsO vs=.slice none 0 0
  | some t=>some t=some ⟨ZsO vs,esz⟩)∧R (ZsO vs) m []
def ZwS(E:Env)(rs:List ResultVar)(m0:Mem)(esz:Nat)(R:Value→Mem→List (List Value)→Prop):KT:=fun e S m=>match e with
 | .normal=>Zxx E rs m0 esz R S m
 | .ret=>Zxx E rs m0 esz R S m
 | _=>False
theorem ZtM{E:Env}(hE:E.ok){Za0:Nat→Array Oper→(St→Mem→Prop)→St→Mem→Prop}(hD:Zel E Za0)(io:ZdQ E Za0){g:FuncId}{fn:Func}{c:Code}
  (hf:E.P.funcs[g]?=some fn) (hn:(fn.name == "runtime.NumGoroutine")=false) (hb:fn.body=some c) (hc:Zav E c=true) (hl:ZbB fn.ntmps c=true) (dG:E.yl=none)
  {m:Mem} (gf:∀mm,E.m0=some mm→m=mm) {esz:Nat} {R:Value→Mem→List (List Value)→Prop} (svs:List SV) (bN:Nat.ble svs.length fn.ntmps=true) (cK:Zlt [] svs=true)
  (h:W E Za0 c (ZwS E fn.results.toList m esz R) (S0 svs []) m):CXT E.P g (svs.map (Zpn [])).toArray m esz R:=by
 refine⟨Zhf hf hn (by simp[hb]),fun w hs=>?_⟩
 have bL:=ZnG (n:=fn.ntmps) (xs:=[]) hs (fun x hx=>by cases hx) List.nodup_nil cK (Nat.le_of_ble_eq_true bN)
 refine callsIn_wide.1 (callsIn_of_wp_marks (F:=Fence.wide) (n:=0) hf hb trivial ?_)
 refine Zcv hE hD io c hc (.inl rfl) (YOk.none dG (fun mm fM=>⟨gf mm fM,fun g M w' hp k hk=>ZsX (fun k hk=>by cases hk) hp k hk⟩)) (fun l hl=>by cases hl) 0 hl bL h ?_
 have key:∀S' m' a' w',Zxx E fn.results.toList m esz R S' m'→Rel (Zw8 fn.ntmps m w (([]:List Box).map (·.b))) S' m' a' w'→LeavesInM Fence.wide 0 E.P fn a'.tmps (fun e w'=>
   ∃v m',e=Ending.returned v∧m.le m'∧Sub m' w'∧Zhc m m' w.heap.size∧Keep w.heap.size [] w w'∧TokOk m' w' ⟨v,esz⟩∧(∀b,(Tok.mk v esz).blk=some b→w.heap.size≤b)∧R v m' []) a'.defers .returning w':=by
  intro S' m' a' w' hk hr
  obtain⟨ms,q1,_,_⟩:=hr.defers
  refine Rel.leave ?_ ms a' w' rfl q1 hr
  clear hr q1
  intro a2 w2 ht hr
  rw[←ht]
  obtain⟨vs,⟨bW,hk⟩,bP⟩:=Zew hE hr hk
  obtain⟨M,hd⟩:=hr.dom
  have iT:∀b o v,m' b o=some v→m b o=some v∨w.heap.size≤b:=fun b o v hv=>by
   rcases hd.new b o v hv with h6|h6
   ·exact .inl h6
   ·rcases hd.p.2 b h6 with h6|h6
    ·exact .inr h6
    ·cases h6
  split at bW
  ·refine⟨ZsO vs,Zdv bP,ZsO vs,m',rfl,hr.le,hr.sub,iT,hd.p.1,.inl bW,fun b hb=>?_,hk⟩
   rw[bW]at hb;simp[Tok.blk]at hb
  ·rename_i t ht
   cases bW
   refine⟨ZsO vs,Zdv bP,ZsO vs,m',rfl,hr.le,hr.sub,iT,hd.p.1,(hr.toks _ _ ht).1,fun b hb=>?_,hk⟩
   rcases hd.p.2 b (hd.tok _ _ _ ht hb)with h6|h6
   ·exact h6
   ·cases h6
 intro e S' m' a' w' hk hr
 cases e with
 | normal=>exact key S' m' a' w' hk hr
 | ret=>exact key S' m' a' w' hk hr
 | exit _=>exact hk.elim
 | goto _=>exact hk.elim
 | panic _=>exact hk.elim
 | outgrown=>exact hk.elim
def FWT(E:Env)(fn:Func)(svs:List SV)(m:Mem)(esz:Nat)(R:Value→Mem→List (List Value)→Prop):Prop:=
 W (E.at m) (Za0 (E.at m)) (ZhC fn) (ZwS (E.at m) fn.results.toList m esz R) (S0 svs []) m
theorem ZfX{E:Env}(hE:E.ok)(eD:E.P.follows .mixedOrders=true){g:FuncId}{fn:Func}(hf:E.P.funcs[g]?=some fn){m:Mem}{esz:Nat}{R:Value→Mem→List (List Value)→Prop}(svs:List SV)
  (cK:ZwQ E fn svs []=true) (h:FWT E fn svs m esz R):CXT E.P g (svs.map (Zpn [])).toArray m esz R:=by
 simp only[ZwQ,Bool.and_eq_true,Bool.not_eq_true']at cK
 obtain⟨⟨⟨⟨⟨⟨⟨h1,h2⟩,h3⟩,h4⟩,h5⟩,h8⟩,h6⟩,h7⟩:=cK
 exact ZtM (E:=E.at m) hE (Zkq _) (ZhB (E:=E.at m) hE eD) hf h1 (ZeK h2) (by rw[Zbj];exact h3) h4 (show E.yl=none by simpa using h8) (fun mm fM=>Option.some.inj fM) svs h6 h7 h
theorem CXT.toCX{P:Program}{g:FuncId}{args:Array Value}{m:Mem}{esz:Nat}{R:Value→Mem→List (List Value)→Prop}(h:CXT P g args m esz R):CX P g args m [] R:=
 ⟨h.1,fun w h1 _ _=>(h.2 w h1).mono fun _ _ ⟨v,m',a1,a2,a3,a4,a5,_,_,a8⟩=>⟨v,m',[],a1,a2,a3,a4,a5,rfl,fun i x cs hi=>by simp at hi,a8⟩⟩
theorem CXT.mono{P:Program}{g:FuncId}{args:Array Value}{m:Mem}{esz:Nat}{R R':Value→Mem→List (List Value)→Prop}(h:CXT P g args m esz R)(k:∀v m' css,m.le m'→R v m' css→R' v m' css):CXT P g args m esz R':=
 ⟨h.1,fun w h1=>(h.2 w h1).mono fun _ _ ⟨v,m',a1,a2,a3,a4,a5,a6,a7,a8⟩=>⟨v,m',a1,a2,a3,a4,a5,a6,a7,k _ _ _ a2 a8⟩⟩
def Zu6(m m':Mem)(esz:Nat)(v:Value):Prop:=v=.slice none 0 0∨∃b o n c,v=.slice (some ⟨b,o,none⟩) n c∧n≤c∧m.free b∧∀q,n*esz≤q→q < c*esz→∃u,m' b (o+q)=some u
theorem CXT.room{P:Program}{g:FuncId}{args:Array Value}{m:Mem}{esz:Nat}{R:Value→Mem→List (List Value)→Prop}(h:CXT P g args m esz R):CX P g args m [] (fun v m' _=>∃m1:Mem,m.le m1∧m1.le m'∧R v m1 []∧Zu6 m m' esz v):=by
 refine⟨h.1,fun w h1 _ _=>(h.2 w h1).mono ?_⟩
 rintro e w' ⟨v,m',a1,a2,a3,a4,a5,a6,a7,a8⟩
 rcases a6 with h6|⟨b,o0,n,c,cur,T,fr,hv,ic,hh,cN,_,cY⟩
 ·exact⟨v,m',[],a1,a2,a3,a4,a5,rfl,fun i x cs hi=>by simp at hi,m',a2,Mem.le_refl _,a8,.inl h6⟩
 ·have hv:v=.slice (some ⟨b,o0,none⟩) n c:=hv
  have hb:w.heap.size≤b:=a7 b (by simp[Tok.blk,hv])
  have bQ:m.free b:=fun o=>by
   cases he:m b o with
   | none=>rfl
   | some u=>have:=h1.lt he;omega
  have vI:c*esz=n*esz+(c - n)*esz:=by rw[←Nat.add_mul];congr 1;omega
  have cY:∀o,o0+n*esz≤o→o < o0+c*esz→m' b o=none:=cY
  have cN:o0+c*esz≤cur.size:=cN
  obtain⟨P0,oP⟩:∃P0,P0=o0+n*esz:=⟨_,rfl⟩
  obtain⟨zs,l5⟩:∃zs,zs=(cur.toList.drop P0).take ((c - n)*esz):=⟨_,rfl⟩
  have ie:zs.length=(c - n)*esz:=by rw[l5];simp;omega
  have rB:∀q v,zs[q]?=some v→cur[P0+q]?=some v:=fun q v hq=>by
   rw[l5,List.getElem?_take]at hq
   split at hq
   ·rw[List.getElem?_drop]at hq;simpa using hq
   ·cases hq
  have cP:m'.le (m'.addAt b P0 zs):=fun b' o v hv'=>by
   simp only[Mem.addAt]
   split
   ·rename_i hc
    obtain⟨rfl,ho⟩:=hc
    cases hz:zs[o - P0]? with
    | none=>simp only[hz];exact hv'
    | some u=>
     have hq:=(List.getElem?_eq_some_iff.1 hz).1
     rw[cY o (by omega) (by omega)]at hv';cases hv'
   ·exact hv'
  have cS:∀b' o u,m'.addAt b P0 zs b' o=some u→m' b' o=some u∨(b'=b∧w'.cell? ⟨b',o,none⟩=some u):=fun b' o u hu=>by
   simp only[Mem.addAt]at hu
   split at hu
   ·rename_i hc
    obtain⟨rfl,ho⟩:=hc
    cases hz:zs[o - P0]? with
    | none=>simp only[hz]at hu;exact .inl hu
    | some x=>
     simp only[hz]at hu;cases hu
     have:=rB _ _ hz
     rw[show P0+(o - P0)=o by omega]at this
     refine .inr ⟨rfl,?_⟩
     simp only[World.cell?,hh]
     simpa using this
   ·exact .inl hu
  refine⟨v,m'.addAt b P0 zs,[],a1,Mem.le_trans a2 cP,fun b' o u hu=>(cS b' o u hu).elim (a3 b' o u) (·.2),fun b' o u hu=>(cS b' o u hu).elim (a4 b' o u) (fun h=>.inr (h.1 ▸ hb)),a5,rfl,fun i x cs hi=>by simp at hi,m',a2,cP,a8,.inr ⟨b,o0,n,c,hv,ic,bQ,fun q iC jy=>?_⟩⟩
  have bK:o0+q - P0 < zs.length:=by omega
  refine⟨zs[o0+q - P0],?_⟩
  simp only[Mem.addAt]
  rw[if_pos ⟨trivial,by omega⟩,List.getElem?_eq_getElem bK]
end Go.Eng
namespace Go.Eng
open Go Go.RowKit
set_option maxRecDepth 100000
def Zmn:List Nat→List Tok→Nat→Option Tok
 | k::ks,t::ts=>fun i=>bif Nat.beq i k then some t else Zmn ks ts i
 | _,_=>fun _=>none
theorem ZjD:∀{ks:List Nat} {ts:List Tok} {i:Nat} {t:Tok},Zmn ks ts i=some t→∃q:Nat,ks[q]?=some i∧ts[q]?=some t
 | [],ts,i,t,h=>by simp[Zmn]at h
 | k::ks,[],i,t,h=>by simp[Zmn]at h
 | k::ks,t0::ts,i,t,h=>by
  by_cases hi:i=k
  ·subst hi;simp[Zmn]at h;subst h;exact⟨0,rfl,rfl⟩
  ·simp only[Zmn,Zar hi,cond_false]at h
   obtain⟨q,h1,h2⟩:=ZjD h
   exact⟨q+1,by simpa using h1,by simpa using h2⟩
def S0Y(svs:List SV)(xs:List Box)(ks:List Nat)(ts:List Tok):St:={ S0 svs xs with tok:=Zmn ks ts,tkeys:=ks }
def Zkv(S:St):List Nat→List Tok→(List Value→Prop)→Prop
 | k::ks,t::ts,r=>match S.tok k with
  | none=>False
  | some t'=>chk (Nat.beq t'.esz t.esz) (Zkv S ks ts fun tvs=>r (t'.v::tvs))
 | [],[],r=>r []
 | _,_,_=>False
theorem ZfB{S:St}:∀{ks:List Nat} {ts:List Tok} {r:List Value→Prop},Zkv S ks ts r→∃tvs,tvs.length=ts.length∧ks.length=ts.length∧(∀(i:Nat)(t:Tok)(tv:Value),ts[i]?=some t→tvs[i]?=some tv→∃k:Nat,ks[i]?=some k∧S.tok k=some ⟨tv,t.esz⟩)∧r tvs
 | [],[],r,h=>⟨[],rfl,rfl,fun i t tv h=>by simp at h,h⟩
 | [],_::_,r,h=>h.elim
 | _::_,[],r,h=>h.elim
 | k::ks,t::ts,r,h=>by
  unfold Zkv at h
  cases ht:S.tok k with
  | none=>simp[ht]at h
  | some t'=>
   simp only[ht]at h
   obtain⟨h1,h2⟩:=Zaf h
   have he:=Nat.eq_of_beq_eq_true h1
   obtain⟨tvs,g1,g2,g3,g4⟩:=ZfB h2
   refine⟨t'.v::tvs,by simp[g1],by simp[g2],fun i t0 tv hi hv=>?_,g4⟩
   cases i with
   | zero=>
    simp at hi hv;subst hi hv
    exact⟨k,rfl,by rw[ht,←he]⟩
   | succ i=>simpa using g3 i t0 tv (by simpa using hi) (by simpa using hv)
def Zwa(E:Env)(rs:List ResultVar)(xs:List Box)(ks:List Nat)(ts:List Tok)(R:Value→Mem→List (List Value)→List Value→Prop)(S:St)(m:Mem):Prop:=
 Zv3 E S m rs fun vs=>Zut S 0 xs fun css=>Zkv S ks ts fun tvs=>R (ZsO vs) (ZsR S E.frz m) css tvs
def ZwT(E:Env)(rs:List ResultVar)(xs:List Box)(ks:List Nat)(ts:List Tok)(R:Value→Mem→List (List Value)→List Value→Prop):KT:=fun e S m=>match e with
 | .normal=>Zwa E rs xs ks ts R S m
 | .ret=>Zwa E rs xs ks ts R S m
 | _=>False
def Zwb(n:Nat)(m:Mem)(w:World)(B:Nat→Prop):Ctx where
 n:=n
 m0:=m
 p:=fun _ M w'=>Upd B w w'∧∀k,M k→w.heap.size≤k∨B k
 st:=by
  rintro g M M' w1 w2 ⟨h1,h2⟩ hu hg
  refine⟨⟨hu.os.trans h1.os,hu.tape.trans h1.tape,hu.output.trans h1.output,Nat.le_trans h1.size hu.size,fun k hk hn=>?_,fun k hk=>hu.wr k (h1.wr k hk)⟩,fun k hk=>?_⟩
  ·rw[hu.block k (Nat.lt_of_lt_of_le hk h1.size) fun hm=>?_,h1.block k hk hn]
   rcases h2 k hm with h|h
   ·omega
   ·exact hn h
  ·rcases hg k hk with h|h
   ·exact h2 k h
   ·have:=h1.size;exact .inl (by omega)
theorem Zpy{n:Nat}{w:World}{m:Mem}{Y:Nat→Prop}{xs:List Box}{svs:List SV}{ks:List Nat}{ts:List Tok}(hs:Sub m w)(hx:∀x∈xs,Own m w x∧x.fz=false∧¬Y x.b)(eH:(xs.map (·.b)).Nodup)(cK:Zlt xs svs=true)(hn:svs.length≤n)
  (ht:∀t∈ts,TokOk m w t∧∀b,t.blk=some b→Y b) (lV:Zup ts) (hY:∀b,Y b→b < w.heap.size∧Wr w b):
  Rel (Zwb n (m.off Y) w (fun k=>k∈xs.map (·.b)∨Y k)) (S0Y svs xs ks ts) m { tmps:=(svs.map (Zpn xs)).toArray++Array.replicate (n - (svs.map (Zpn xs)).toArray.size) undef,defers:=[] } w:=by
 have hL:∀id x,(S0Y svs xs ks ts).L id=some x→100000≤id∧xs[id - 100000]?=some x:=fun id x h=>by
  simp only[S0Y,S0]at h
  cases hb:Nat.ble 100000 id with
  | false=>simp[hb]at h
  | true=>simp only[hb,cond_true]at h;exact⟨Nat.le_of_ble_eq_true hb,h⟩
 have hT:∀k t,(S0Y svs xs ks ts).tok k=some t→∃q:Nat,ks[q]?=some k∧ts[q]?=some t:=fun k t h=>ZjD h
 refine⟨⟨[],rfl,List.nodup_nil,by simp⟩,by simp[Zwb];omega,?_,?_,?_,?_,?_,?_,?_,hs,Mem.off_le m Y,⟨fun k=>k∈xs.map (·.b)∨Y k,⟨Upd.refl _ _,fun k hk=>.inr hk⟩,fun k hk=>?_,fun id x hx=>?_,fun k t b h1 h2=>?_,by simp,fun b o v hv=>?_⟩⟩
 ·intro i sv he
  simp only[S0Y,S0]at he
  have bK:=(List.getElem?_eq_some_iff.1 he).1
  have h1:=Ziq cK i sv he
  refine⟨Zpn xs sv,?_,?_⟩
  ·cases sv with
   | v x=>rfl
   | loc id off=>
    simp only[Zwo,Bool.and_eq_true]at h1
    have h2:id - 100000 < xs.length:=Zml h1.2
    simp[St.den,S0Y,S0,Zpn,h1.1,List.getElem?_eq_getElem h2]
   | sl id n c=>
    simp only[Zwo,Bool.and_eq_true]at h1
    have h2:id - 100000 < xs.length:=Zml h1.2
    simp[St.den,S0Y,S0,Zpn,h1.1,List.getElem?_eq_getElem h2]
  ·rw[Array.getElem?_append_left (by simpa using bK)]
   simp[he]
 ·intro id x hx'
  exact(hx x (List.mem_of_getElem? (hL id x hx').2)).1
 ·intro id id' x x' h1 h2 hb
  obtain⟨g1,g2⟩:=hL _ _ h1
  obtain⟨g3,g4⟩:=hL _ _ h2
  have hi:=(List.getElem?_eq_some_iff.1 g2).1
  have:=(List.getElem?_inj (l:=xs.map (·.b)) (i:=id - 100000) (j:=id' - 100000) (by simpa using hi) eH).1 (by simp[g2,g4,hb])
  omega
 ·intro id x h1
  obtain⟨g1,g2⟩:=hL _ _ h1
  have hi:=(List.getElem?_eq_some_iff.1 g2).1
  simp only[S0Y,S0,List.mem_map,List.mem_range,bid]
  exact⟨id - 100000,hi,by omega⟩
 ·intro k t h1
  obtain⟨q,_,h2⟩:=hT k t h1
  obtain⟨g1,g2⟩:=ht t (List.mem_of_getElem? h2)
  exact⟨g1,fun b hb=>⟨fun id x jP e=>(hx x (List.mem_of_getElem? (hL id x jP).2)).2.2 (e ▸ g2 b hb),Mem.off_free (g2 b hb)⟩⟩
 ·intro k t h1
  obtain⟨q,h2,_⟩:=hT k t h1
  exact List.mem_of_getElem? h2
 ·intro k k' t t' b h1 h2 h3 h4
  obtain⟨q,g1,g2⟩:=hT k t h1
  obtain⟨q',g3,g4⟩:=hT k' t' h2
  have:=lV q q' t t' b g2 g4 h3 h4
  subst this
  rw[g1]at g3;exact Option.some.inj g3
 ·rcases hk with hk|hk
  ·obtain⟨x,h1,h2⟩:=List.mem_map.1 hk
   exact h2 ▸ (hx x h1).1.lt
  ·exact(hY k hk).1
 ·exact .inl (List.mem_map.2 ⟨x,List.mem_of_getElem? (hL id x hx).2,rfl⟩)
 ·obtain⟨q,_,g2⟩:=hT k t h1
  exact .inr ((ht t (List.mem_of_getElem? g2)).2 b h2)
 ·by_cases ia:Y b
  ·exact .inr (.inr ia)
  ·exact .inl (by show m.off Y b o=some v;rw[Mem.off_at ia];exact hv)
theorem TokOk.sl{m:Mem}{w:World}{t:Tok}(h:TokOk m w t):Zc8 t.v=true:=by
 rcases h with h|⟨b,o0,n,c,_,_,_,h,_⟩
 ·rw[h];rfl
 ·rw[h];rfl
theorem ZtN{E:Env}(hE:E.ok){Za0:Nat→Array Oper→(St→Mem→Prop)→St→Mem→Prop}(hD:Zel E Za0)(io:ZdQ E Za0){g:FuncId}{fn:Func}{c:Code}
  (hf:E.P.funcs[g]?=some fn) (hn:(fn.name == "runtime.NumGoroutine")=false) (hb:fn.body=some c) (hc:Zav E c=true) (hl:ZbB fn.ntmps c=true) (hz:Zuu E.frz=true) (dG:E.yl=none)
  {m:Mem} {Y:Nat→Prop} (gf:∀mm,E.m0=some mm→m.off Y=mm) {R:Value→Mem→List (List Value)→List Value→Prop} (svs:List SV) (xs:List Box) (ks:List Nat) (ts:List Tok) (lq:Zba ks=true) (bN:Nat.ble svs.length fn.ntmps=true) (cK:Zlt xs svs=true)
  (h:W E Za0 c (ZwT E fn.results.toList xs ks ts R) (S0Y svs xs ks ts) m):CXY E.P g (svs.map (Zpn xs)).toArray m Y xs ts R:=by
 refine⟨Zhf hf hn (by simp[hb]),fun w hs hx eH ht lV hY=>?_⟩
 have bL:=Zpy (n:=fn.ntmps) (ks:=ks) hs hx eH cK (Nat.le_of_ble_eq_true bN) ht lV hY
 refine callsIn_wide.1 (callsIn_of_wp_marks (F:=Fence.wide) (n:=0) hf hb trivial ?_)
 refine Zcv hE hD io c hc (.inl rfl) (YOk.none dG (fun mm fM=>⟨gf mm fM,fun g M w' hp k hk=>?_⟩)) (fun l hl=>by cases hl) 0 hl bL h ?_
 ·rcases hp.2 k hk with h1|h1|h1
  ·exact hp.1.wr k (Wr.of_none h1)
  ·obtain⟨x,h2,rfl⟩:=List.mem_map.1 h1
   exact hp.1.wr _ (hx x h2).1.wr
  ·exact hp.1.wr k (hY k h1).2
 have key:∀S' m' a' w',Zwa E fn.results.toList xs ks ts R S' m'→Rel (Zwb fn.ntmps (m.off Y) w (fun k=>k∈xs.map (·.b)∨Y k)) S' m' a' w'→LeavesInM Fence.wide 0 E.P fn a'.tmps (fun e w'=>
   ∃v m' css tvs,e=.returned v∧(m.off Y).le m'∧Sub m' w'∧(∀b o u,m' b o=some u→m b o=some u∨Y b∨w.heap.size≤b)∧Upd (fun k=>k∈xs.map (·.b)∨Y k) w w'∧
   css.length=xs.length∧(∀(i:Nat)(x:Box)(cs:List Value),xs[i]?=some x→css[i]?=some cs→Own m' w' { x with cs:=cs })∧
   tvs.length=ts.length∧(∀(i:Nat)(t:Tok)(tv:Value),ts[i]?=some t→tvs[i]?=some tv→Zc8 tv=true∧TokOk m' w' ⟨tv,t.esz⟩∧∀b,(Tok.mk tv t.esz).blk=some b→(Y b∨w.heap.size≤b)∧b ∉ xs.map (·.b))∧
   Zup ((ts.zip tvs).map fun q=>⟨q.2,q.1.esz⟩)∧R v m' css tvs) a'.defers .returning w':=by
  intro S' m' a' w' hk hr
  obtain⟨ms,q1,_,_⟩:=hr.defers
  refine Rel.leave ?_ ms a' w' rfl q1 hr
  clear hr q1
  intro a2 w2 wg hr
  rw[←wg]
  obtain⟨vs,hk,bP⟩:=Zew hE hr hk
  obtain⟨css,h1,h2,hk⟩:=Zgy hk
  obtain⟨tvs,k1,k2,k3,h5⟩:=ZfB hk
  obtain⟨M,hd⟩:=hr.dom
  simp only[Zuu,Bool.and_eq_true]at hz
  have rQ:=ZaG hz.1
  have lP:=ZaG lq
  obtain⟨f1,f2,f3⟩:=Zqo hr rQ
  have frzlt:∀id∈E.frz,id < 100000:=fun id cW=>Zml (List.all_eq_true.1 hz.2 id cW)
  have boxOf:∀b,b∈xs.map (·.b)→∃(i:Nat)(x:Box)(cs:List Value),xs[i]?=some x∧x.b=b∧S'.L (bid i)=some { x with cs:=cs }:=fun b hb=>by
   obtain⟨y,hy,ia⟩:=List.mem_map.1 hb
   obtain⟨i,hi⟩:=List.getElem?_of_mem hy
   obtain⟨cs,_,jD⟩:=h2 i y hi
   exact⟨i,y,cs,hi,ia,by rw[Nat.zero_add]at jD;exact jD⟩
  have tokY:∀(i:Nat)(t:Tok)(tv:Value),ts[i]?=some t→tvs[i]?=some tv→∃k:Nat,ks[i]?=some k∧S'.tok k=some ⟨tv,t.esz⟩:=k3
  have frzNb:∀id∈E.frz,∀x,S'.L id=some x→x.b ∉ xs.map (·.b):=fun id cW x jx hm=>by
   obtain⟨i,y,cs,_,ia,jD⟩:=boxOf _ hm
   have:=hr.apart _ _ _ _ jx jD ia.symm
   have:=frzlt id cW
   simp only[bid]at *
   omega
  refine⟨ZsO vs,Zdv bP,ZsO vs,ZsR S' E.frz m',css,tvs,rfl,Mem.le_trans hr.le f1,f2,?_,hd.p.1,h1,?_,k1,?_,?_,h5⟩
  ·intro b o u hu
   have inM:M b→m b o=some u∨Y b∨w.heap.size≤b∨b∈xs.map (·.b):=fun hm=>by
    rcases hd.p.2 b hm with h|h|h
    ·exact .inr (.inr (.inl h))
    ·exact .inr (.inr (.inr h))
    ·exact .inr (.inl h)
   rcases f3 b o u hu with hv|⟨id,cW,x,jx,iO⟩
   ·rcases hd.new b o u hv with h6|h6
    ·exact .inl (Mem.off_le m Y b o u h6)
    ·rcases inM h6 with h|h|h|h
     ·exact .inl h
     ·exact .inr (.inl h)
     ·exact .inr (.inr h)
     ·exfalso
      obtain⟨i,y,cs,hi,ia,jD⟩:=boxOf b h
      have:=(hr.own _ _ jD).free (hx y (List.mem_of_getElem? hi)).2.1 o
      simp only[ia]at this
      rw[this]at hv;cases hv
   ·subst iO
    rcases inM (hd.own id x jx)with h|h|h|h
    ·exact .inl h
    ·exact .inr (.inl h)
    ·exact .inr (.inr h)
    ·exact(frzNb id cW x jx h).elim
  ·intro i x cs hi bT
   obtain⟨cs',h6,h7⟩:=h2 i x hi
   rw[bT]at h6;cases h6
   have ho:=hr.own _ _ h7
   have o8:=(hx x (List.mem_of_getElem? hi)).2.1
   refine⟨ho.cells,fun _ o=>?_,fun hz'=>by simp[o8]at hz',ho.whole⟩
   show ZsR S' E.frz m' x.b o=none
   rw[Zex S' m' (fun id cW y hy e=>frzNb id cW y hy (e ▸ List.mem_map.2 ⟨x,List.mem_of_getElem? hi,rfl⟩))]
   exact ho.free o8 o
  ·intro i t tv hi hv
   obtain⟨k,g1,g2⟩:=tokY i t tv hi hv
   obtain⟨g3,g4⟩:=hr.toks k _ g2
   refine⟨g3.sl,g3.same (fun _ _=>rfl) (fun b o hb hn=>?_),fun b hb=>⟨?_,fun hm=>?_⟩⟩
   ·rw[Zex S' m' (fun id _ y hy e=>(g4 b hb).1 id y hy e)];exact hn
   ·rcases hd.p.2 b (hd.tok _ _ _ g2 hb)with h|h|h
    ·exact .inr h
    ·obtain⟨i,y,cs,_,ia,jD⟩:=boxOf b h
     exact((g4 b hb).1 _ _ jD ia).elim
    ·exact .inl h
   ·obtain⟨i,y,cs,_,ia,jD⟩:=boxOf b hm
    exact(g4 b hb).1 _ _ jD ia
  ·intro i j t t' b hi hj eL gN
   rw[List.getElem?_map]at hi hj
   obtain⟨⟨t0,tv⟩,iU,rfl⟩:=Option.map_eq_some_iff.1 hi
   obtain⟨⟨t0',tv'⟩,uC,rfl⟩:=Option.map_eq_some_iff.1 hj
   obtain⟨a1,a2⟩:=List.getElem?_zip_eq_some.1 iU
   obtain⟨a3,a4⟩:=List.getElem?_zip_eq_some.1 uC
   obtain⟨k,g1,g2⟩:=tokY i t0 tv a1 a2
   obtain⟨k',g3,g4⟩:=tokY j t0' tv' a3 a4
   have:=hr.tapart k k' _ _ b g2 g4 eL gN
   subst this
   have hi':=(List.getElem?_eq_some_iff.1 g1).1
   exact(List.getElem?_inj (l:=ks) (i:=i) (j:=j) hi' lP).1 (by rw[g1,g3])
 intro e S' m' a' w' hk hr
 cases e with
 | normal=>exact key S' m' a' w' hk hr
 | ret=>exact key S' m' a' w' hk hr
 | exit _=>exact hk.elim
 | goto _=>exact hk.elim
 | panic _=>exact hk.elim
 | outgrown=>exact hk.elim
def FWY(E:Env)(fn:Func)(svs:List SV)(xs:List Box)(ks:List Nat)(ts:List Tok)(m:Mem)(Y:Nat→Prop)(R:Value→Mem→List (List Value)→List Value→Prop):Prop:=
 W (E.at (m.off Y)) (Za0 (E.at (m.off Y))) (ZhC fn) (ZwT (E.at (m.off Y)) fn.results.toList xs ks ts R) (S0Y svs xs ks ts) m
theorem ZaL{E:Env}(hE:E.ok)(eD:E.P.follows .mixedOrders=true){g:FuncId}{fn:Func}(hf:E.P.funcs[g]?=some fn){m:Mem}{Y:Nat→Prop}{R:Value→Mem→List (List Value)→List Value→Prop}(svs:List SV)(xs:List Box)(ks:List Nat)(ts:List Tok)(lq:Zba ks=true)
  (cK:ZwQ E fn svs xs=true) (h:FWY E fn svs xs ks ts m Y R):CXY E.P g (svs.map (Zpn xs)).toArray m Y xs ts R:=by
 simp only[ZwQ,Bool.and_eq_true,Bool.not_eq_true']at cK
 obtain⟨⟨⟨⟨⟨⟨⟨h1,h2⟩,h3⟩,h4⟩,h5⟩,h8⟩,h6⟩,h7⟩:=cK
 exact ZtN (E:=E.at (m.off Y)) hE (Zkq _) (ZhB (E:=E.at (m.off Y)) hE eD) hf h1 (ZeK h2) (by rw[Zbj];exact h3) h4 h5 (show E.yl=none by simpa using h8) (fun mm fM=>Option.some.inj fM) svs xs ks ts lq h6 h7 h
theorem CX.frameY{P:Program}{g:FuncId}{args:Array Value}{m:Mem}{R:Value→Mem→List (List Value)→Prop}(h:CX P g args m [] R)(Y:Nat→Prop)(X:List Box)(ts:List Tok):
  CXY P g args m Y X ts (fun v m' css tvs=>m.le m'∧css=X.map (·.cs)∧tvs=ts.map (·.v)∧R v m' []):=by
 refine⟨h.1,fun w h1 h2 h3 h4 h5 h6=>(h.2 w h1 (by simp) (by simp)).mono ?_⟩
 rintro e w' ⟨v,m',css,a1,a2,a3,a4,a5,a6,a7,a8⟩
 obtain rfl:css=[]:=by simpa using a6
 have hb:∀k,k < w.heap.size→w'.heap[k]?=w.heap[k]?:=fun k hk=>a5.block k hk (by simp)
 have bQ:∀b,b < w.heap.size→∀o,m b o=none→m' b o=none:=fun b bK o ho=>by
  cases he:m' b o with
  | none=>rfl
  | some v=>
   rcases a4 _ _ _ he with he|he
   ·rw[ho]at he;cases he
   ·omega
 have lr:∀(i:Nat)(t:Tok)(tv:Value),ts[i]?=some t→(ts.map (·.v))[i]?=some tv→(Tok.mk tv t.esz)=t:=fun i t tv hi hv=>by
  rw[List.getElem?_map,hi]at hv
  cases hv;rfl
 refine⟨v,m',X.map (·.cs),ts.map (·.v),a1,Mem.le_trans (Mem.off_le _ _) a2,a3,fun b o u hu=>(a4 b o u hu).imp_right .inr,⟨a5.os,a5.tape,a5.output,a5.size,fun k hk _=>hb k hk,a5.wr⟩,by simp,fun i x cs hi bT=>?_,by simp,fun i t tv hi hv=>?_,fun i j t t' b hi hj=>?_,a2,rfl,rfl,a8⟩
 ·rw[List.getElem?_map,hi]at bT
  cases bT
  have ho:=(h2 x (List.mem_of_getElem? hi)).1
  exact ho.same (hb _ ho.lt) a2 (fun hz o=>bQ _ ho.lt o (ho.free hz o))
 ·have e:=lr i t tv hi hv
  obtain⟨g1,g2⟩:=h4 t (List.mem_of_getElem? hi)
  refine⟨?_,?_,fun b hb'=>?_⟩
  ·have:=congrArg Tok.v e;simp only at this;rw[this];exact g1.sl
  ·rw[e];exact g1.same (fun b dI=>hb _ (g1.lt dI)) (fun b o dI=>bQ _ (g1.lt dI) o)
  ·rw[e]at hb'
   refine⟨.inl (g2 b hb'),fun hm=>?_⟩
   obtain⟨x,hx,lg⟩:=List.mem_map.1 hm
   exact(h2 x hx).2.2 (lg ▸ g2 b hb')
 ·have e:((ts.zip (ts.map (·.v))).map fun q=>(⟨q.2,q.1.esz⟩:Tok))=ts:=by
   refine List.ext_getElem? fun i=>?_
   rw[List.getElem?_map]
   cases ht:ts[i]? with
   | none=>
    have:(ts.zip (ts.map (·.v)))[i]?=none:=by
     rw[List.getElem?_eq_none_iff]at ht ⊢;simp;omega
    rw[this];rfl
   | some t=>
    have:(ts.zip (ts.map (·.v)))[i]?=some (t,t.v):=List.getElem?_zip_eq_some.2 ⟨ht,by rw[List.getElem?_map,ht];rfl⟩
    rw[this];rfl
  rw[e]at hi hj
  exact h5 i j t t' b hi hj
theorem CXY.mono{P:Program}{g:FuncId}{args:Array Value}{m:Mem}{Y:Nat→Prop}{X:List Box}{ts:List Tok}{R R':Value→Mem→List (List Value)→List Value→Prop}(h:CXY P g args m Y X ts R)(k:∀v m' css tvs,(m.off Y).le m'→R v m' css tvs→R' v m' css tvs):CXY P g args m Y X ts R':=
 ⟨h.1,fun w h1 h2 h3 h4 h5 h6=>(h.2 w h1 h2 h3 h4 h5 h6).mono fun _ _ ⟨v,m',css,tvs,a1,a2,a3,a4,a5,a6,a7,a8,a9,a10,a11⟩=>⟨v,m',css,tvs,a1,a2,a3,a4,a5,a6,a7,a8,a9,a10,k _ _ _ _ a2 a11⟩⟩
end Go.Eng
namespace Go.Eng
open Go Go.RowKit
def zok(i:TI):Bool:=Nat.beq i.zero.cells.size i.size&&Zcu i.zero.cells.toList&&(i.agg||Nat.beq i.size 1)
structure TRow (P:Program)(t:TypeId)(i:TI):Prop where
 und:P.underlying t=some i.d
 info:(P.info? t).map (fun x=>(x.size,x.zero,x.bytes))=some (i.size,some i.zero,i.bytes)
 ok:zok i=true
theorem TRow.tok{P:Program}{t:TypeId}{i:TI}(h:TRow P t i):TOk P t i:=by
 have hz:=h.ok
 simp only[zok,Bool.and_eq_true,Bool.or_eq_true]at hz
 refine⟨h.und,?_,Nat.eq_of_beq_eq_true hz.1.1,ZfN hz.1.2,fun ha=>?_⟩
 ·obtain⟨x,hx,e⟩:=Option.map_eq_some_iff.1 h.info
  simp only[Prod.mk.injEq]at e
  exact⟨x,hx,e.1,e.2.1,e.2.2⟩
 ·rcases hz.2 with h1|h1
  ·rw[ha]at h1;cases h1
  ·exact Nat.eq_of_beq_eq_true h1
def Zuw:List (Nat×TI)→Nat→Option TI
 | [],_=>none
 | q::l,t=>bif Nat.beq t q.1 then some q.2 else Zuw l t
def Zwc(P:Program):List (Nat×TI)→Prop
 | []=>True
 | q::l=>TRow P q.1 q.2∧Zwc P l
theorem ZqE{P:Program}:∀{l:List (Nat×TI)},Zwc P l→∀t i,Zuw l t=some i→TOk P t i
 | [],_,t,i,h=>by simp[Zuw]at h
 | q::l,hl,t,i,h=>by
  simp only[Zuw]at h
  cases hb:Nat.beq t q.1 with
  | true=>
   simp only[hb,cond_true,Option.some.injEq]at h
   rw[Nat.eq_of_beq_eq_true hb,←h];exact hl.1.tok
  | false=>simp only[hb,cond_false]at h;exact ZqE hl.2 t i h
abbrev ZbQ(l:List (Option Box)):Prop:=l=l
end Go.Eng
namespace Go.Eng
open Go Go.RowKit
abbrev Ret(u:Value):Value→Mem→List (List Value)→Prop:=fun v _ _=>v=u
theorem Zag{m m':Mem}{R:Value→Mem→List (List Value)→Prop}{v:Value}(h:m.le m')(k:R v m []):∃m'':Mem,m.le m''∧m''.le m'∧R v m'' []:=⟨m,Mem.le_refl m,h,k⟩
section
variable {P:Program} {g:FuncId} {args:Array Value} {m:Mem}
theorem Zah{K:Bool→Mem→Prop}{x:Bool}(h:CX P g args m [] (Ret (.bool x)))(k:∀m',m.le m'→K x m'):
  ∃R:Value→Mem→List (List Value)→Prop,True∧CX P g args m [] R∧(∀(v:Value)(m':Mem) (css:List (List Value)),R v m' css→Shape.fits .bool v=true)∧∀(b:Bool)(m':Mem),m.le m'→R (.bool b) m' []→K b m':=
 ⟨_,trivial,h,fun v _ _ e=>by rw[e];rfl,fun b m' hm e=>by cases e;exact k m' hm⟩
theorem Zfh{kk:IntKind}{K:Int→Mem→Prop}{x:Int}(h:CX P g args m [] (Ret (.int kk x)))(k:∀m',m.le m'→K x m'):
  ∃R:Value→Mem→List (List Value)→Prop,True∧CX P g args m [] R∧(∀(v:Value)(m':Mem) (css:List (List Value)),R v m' css→Shape.fits (.int kk) v=true)∧∀(b:Int)(m':Mem),m.le m'→R (.int kk b) m' []→K b m':=
 ⟨_,trivial,h,fun v _ _ e=>by rw[e];simp[Shape.fits],fun b m' hm e=>by cases e;exact k m' hm⟩
theorem Zaq{s:Shape}{R:Value→Mem→List (List Value)→Prop}{Q:(Value→Mem→List (List Value)→Prop)→Prop}(h:CX P g args m [] R)(hs:∀(v:Value)(m':Mem) (css:List (List Value)),R v m' css→s.fits v=true)(k:Q R):
  ∃R:Value→Mem→List (List Value)→Prop,True∧CX P g args m [] R∧(∀(v:Value)(m':Mem) (css:List (List Value)),R v m' css→s.fits v=true)∧Q R:=⟨R,trivial,h,hs,k⟩
end
theorem ZrR{b:Bool}{p q:Prop}:br b p q↔(if b=true then p else q):=by cases b <;> simp[br]
theorem Zat{n:Int}(h1 : -9223372036854775808≤n)(h2:n≤9223372036854775807):IntKind.i64.wrap n=n:=by
 unfold IntKind.wrap
 simp only[IntKind.bits,IntKind.signed,Bool.true_and]
 have e:(2:Int) ^ 64=18446744073709551616:=by decide
 have e':(2:Int) ^ (64 - 1)=9223372036854775808:=by decide
 simp only[e,e']
 split
 ·rename_i h
  have:=of_decide_eq_true h
  omega
 ·rename_i h
  have:¬(n % 18446744073709551616 ≥ 9223372036854775808):=fun hh=>h (decide_eq_true hh)
  omega
theorem Zkw{f f':Nat}{a b a' b':List Value}(h:Value.func (.func f) a.toArray b.toArray=.func (.func f') a'.toArray b'.toArray):f=f'∧a=a'∧b=b':=by
 simpa using h
theorem Zbf{a b:Bool}(h:a=b):[Value.bool a]=[Value.bool b]:=by rw[h]
end Go.Eng
namespace Go.Eng
open Go Go.RowKit Go.ChangeShapes Go.WideShapes
def Zo5(W:World):Mem:=fun b o=>W.cell? ⟨b,o,none⟩
theorem ZgC{H:Type}{enc:TypeId×Value→H}{P:Program}(hl:laidOutB P=true){W W':World}{sp:Nat→Bool}:∀{ts:List TypeId} {vs:List Value} {ds:List (DataW H)} {ps:List MemPlace},(∀t∈ts,P.readableRec t=true∧t < P.types.size)→DataW.TrodAll enc P W 0 (fun _=>true) true ts vs ds ps→(∀p∈ps,W.sameAt W' p)→(∀p∈ps,sp p.block=true)→DataW.TrodAll enc P W' 0 sp true ts vs ds ps
 | [],[],[],ps,_,h,_,_=>h
 | t::ts,v::vs,d::ds,ps,ht,h,hs,qH=>by
  obtain⟨p,q,h1,h2,rfl⟩:=h
  exact⟨p,q,WideElems.Trod_stays hl (ht t (by simp)).1 (ht t (by simp)).2 h1 (fun x hx=>hs x (by simp[hx])) (fun x hx=>qH x (by simp[hx])),ZgC hl (fun t' h'=>ht t' (by simp[h'])) h2 (fun x hx=>hs x (by simp[hx])) (fun x hx=>qH x (by simp[hx])),rfl⟩
 | [],[],_::_,_,_,h,_,_=>h.elim
 | [],_::_,_,_,_,h,_,_=>by simp[DataW.TrodAll]at h
 | _::_,[],_,_,_,h,_,_=>by simp[DataW.TrodAll]at h
 | _::_,_::_,[],_,_,h,_,_=>h.elim
theorem ZrS{H:Type}{enc:TypeId×Value→H}{P:Program}{g:FuncId}{f:Func}{s:ChangeSpec}{W:World}{args:Array Value}{ds gs:List (DataW H)}{before:List MemPlace}{tb:TypeId}(hl:laidOutB P=true)
  (lr:∀t∈f.params.toList,P.readableRec t=true∧t < P.types.size) (hW:DataW.Whole enc P f.params.toList s.vars false W args.toList ds gs before) (hv:s.vars=[])
  (hr:(s.fn H (ds++gs)).results=[.lit (.bool true)]) (ha:(s.fn H (ds++gs)).args=ds) (hw:(s.fn H (ds++gs)).vars=[]) (lw:f.resultTypes=#[tb]) (wh:P.underlying tb=some .bool)
  (iA:CX P g args (Zo5 W) [] (Ret (.bool true))):
  Calls P g args W fun e W'=>∃v,e=.returned v∧s.post enc P f false true false false W args v W':=by
 refine(iA.2 W (fun _ _ _ h=>h) (by simp) (by simp)).mono ?_
 rintro e W' ⟨v,m',css,rfl,hm,dT,dN,hk,_,_,rfl⟩
 have hb:Below W.heap.size W W':=hk.below
 have bK:∀p∈before,p.block < W.heap.size:=fun p hp=>by simpa using hW.lt p hp
 have hW':=hW
 obtain⟨p,q,hA,hV,rfl,hz,hn⟩:=hW
 rw[hv]at hV
 obtain⟨rfl,rfl⟩:gs=[]∧q=[]:=by
  cases gs with
  | nil=>exact⟨rfl,hV⟩
  | cons g gs=>exact hV.elim
 refine⟨_,rfl,ds,[],p++[],[],p,[],hW',?_,?_,?_,hb.frame _,fun h=>by cases h⟩
 ·rw[hr,lw]
  exact trodAll_cons_mk (shut_bool wh _) trodAll_mk0
 ·rw[ha]
  exact ZgC hl lr hA (fun x hx=>hb.same (bK x (by simp[hx]))) (fun x hx=>by simpa using bK x (by simp[hx]))
 ·rw[hw,hv];rfl
end Go.Eng
