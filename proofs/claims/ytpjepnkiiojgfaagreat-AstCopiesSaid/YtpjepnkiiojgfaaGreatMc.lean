/- The engine: a reckoner over the code of a program in Lean, with its soundness; it names no program. No condition. -/
import Derived.Test.YtpjepnkiiojgfaaGreatMb
import Derived.OrdersIn
import Derived.ProofKit
import Derived.OpenShut
import Derived.JoinedCond
import Derived.Deep.Slices
set_option linter.unusedVariables false
set_option linter.unusedSimpArgs false
set_option linter.unusedSectionVars false
namespace Go.Eng
open Go Go.RowKit
theorem Zni{F:Fence}{n:Nat}{P:Program}{c:Code}{Q:Exit->Act->World->Prop}{a:Act}{w:World}(Inv:Nat->Act->World->Prop)(h0:∃q,Inv q a w)
  (round:∀q a w,Inv q a w->c.wpIn F n P (Exit.then (λa' w'=>∃q',q' < q/\Inv q' a' w') Q) a w):(Code.loop c).wpIn F n P Q a w:=by
 classical
 have iV:∀a w,(∃q,Inv q a w)->∃q,Inv q a w/\∀q',Inv q' a w->q<=q':=by
  intro a w ⟨q,hq⟩
  induction q using Nat.strongRecOn with
  | _ q ih=>
   by_cases hh:∃q',q' < q/\Inv q' a w
   ·obtain⟨q',h1,h2⟩:=hh;exact ih q' h1 h2
   ·exact⟨q,hq,λq' hq'=>Nat.le_of_not_lt λaB=>hh ⟨q',aB,hq'⟩⟩
 let μ:Act->World->Nat:=λa w=>if h:∃q,Inv q a w then Classical.choose (iV a w h)else 0
 have hμ:∀a w (h:∃q,Inv q a w),Inv (μ a w) a w/\∀q',Inv q' a w->μ a w<=q':=λa w h=>by
  have:=Classical.choose_spec (iV a w h)
  simp only[μ,h,dif_pos];exact this
 refine wpIn_loop (λa w=>∃q,Inv q a w) μ h0 λa w hI=>?_
 refine wpIn_mono (round _ a w (hμ a w hI).1) λe a' w' he=>?_
 cases e with
 | normal=>
  obtain⟨q',h1,h2⟩:=he
  exact⟨⟨q',h2⟩,Nat.lt_of_le_of_lt ((hμ a' w' ⟨q',h2⟩).2 q' h2) h1⟩
 | _=>exact he
theorem Zcw{P:Program}{b:Frame}{a:Act}{k:List Item}{cs:List Frame}{w:World}{c:Code}:step P (lone (b.atR a (.code (.scope c)::k)) cs w)=.next (lone (b.atR a (.code c::.inScope c::k)) cs w):=
 step_lone_go (by simp[stepG,stepG.exec,Frame.atR])
theorem ZiY{P:Program}{b:Frame}{a:Act}{k:List Item}{cs:List Frame}{w:World}{c:Code}:step P (lone (b.atR a (.inScope c::k)) cs w)=.next (lone (b.atR a k) cs w):=
 step_lone_go (by simp[stepG,stepG.exec,Frame.atR])
theorem Zpn{F:Fence}{n:Nat}{P:Program}{a:Act}{w:World}{Q:Exit->Act->World->Prop}{c:Code}(h:c.wpIn F n P (λe a w=>match e with
  | .goto _=>False
  | e=>Q e a w) a w):(Code.scope c).wpIn F n P Q a w:=by
 intro b k cs rx hb hr
 have h0:(lone (b.atR a (.code (.scope c)::k)) cs w).fenced P F:=fenced_calm hb hr rfl
 obtain⟨e,a₁,w₁,hq,dX⟩:=h b (.inScope c::k) cs rx hb hr
 cases e with
 | normal=>exact⟨.normal,a₁,w₁,hq,.head h0 Zcw (StepsIn.trans dX (.one (fenced_calm hb hr rfl) ZiY))⟩
 | exit id=>
  have hx:exitTo id (.inScope c::k)=exitTo id k:=by simp[exitTo]
  exact⟨.exit id,a₁,w₁,hq,λk' hk=>.head h0 Zcw (dX.1 k' (by rw[hx];exact hk)),
    λhr' hk=>let ⟨k₁,h1,h2⟩:=dX.2 hr' (by rw[hx];exact hk);⟨k₁,h1,.head h0 Zcw h2⟩⟩
 | goto l=>exact hq.elim
 | ret=>exact⟨_,a₁,w₁,hq,.of_steps (.one h0 Zcw) dX⟩
 | panic ch=>exact⟨_,a₁,w₁,hq,.of_steps (.one h0 Zcw) dX⟩
 | outgrown=>exact⟨_,a₁,w₁,hq,.of_steps (.one h0 Zcw) dX⟩
theorem YOk.cold{E:Env}{C:Ctx}(h:YOk E C):YOk E.cold C:=⟨h.y,h.m0⟩
def ZcO(E:Env)(Za1:Nat->Array Oper->(St->Mem->Prop)->St->Mem->Prop):Prop:=
 ∀{C:Ctx} {F:Fence} (_:FOk F) (_:YOk E C) (n:Nat) (id:Nat) (ops:Array Oper) {K:St->Mem->Prop} {S:St} {m:Mem} {a:Act} {w:World} {Q:Exit->Act->World->Prop},
  Zm3 C.n ops.toList=true->Rel C S m a w->Za1 id ops K S m->(∀S' m' a' w',K S' m'->Rel C S' m' a' w'->Q .normal a' w')->(Code.region id ops true).wpIn F n E.P Q a w
theorem Zcl{E:Env}(hE:E.ok){Za1:Nat->Array Oper->(St->Mem->Prop)->St->Mem->Prop}(hD:ZdG E Za1)(fW:ZcO E Za1):
  ∀(c:Code),Zat E c=true->∀{F:Fence} (_:FOk F) {C:Ctx} (_:YOk E C) (_:ROk F C) (n:Nat),Zbs C.n c=true->∀{S:St} {m:Mem} {a:Act} {w:World} {K:KT} {Q:Exit->Act->World->Prop},Rel C S m a w->W E Za1 c K S m->
   (∀e S' m' a' w',K e S' m'->Rel C S' m' a' w'->Q e a' w')->c.wpIn F n E.P Q a w
 | .skip,_,F,hF,C,hY,hR,n,_,S,m,a,w,K,Q,hr,h,hK=>wpIn_skip (hK _ _ _ _ _ h hr)
 | .label _,_,F,hF,C,hY,hR,n,_,S,m,a,w,K,Q,hr,h,hK=>wpIn_label (hK _ _ _ _ _ h hr)
 | .exit _,_,F,hF,C,hY,hR,n,_,S,m,a,w,K,Q,hr,h,hK=>wpIn_exit (hK _ _ _ _ _ h hr)
 | .ret,_,F,hF,C,hY,hR,n,_,S,m,a,w,K,Q,hr,h,hK=>wpIn_ret (hK _ _ _ _ _ h hr)
 | .region id ops draw,hc,F,hF,C,hY,hR,n,hl,S,m,a,w,K,Q,hr,h,hK=>by
  simp only[W]at h
  simp only[Zbs]at hl
  cases hj:E.joins id with
  | none=>
   simp only[hj]at h
   cases draw with
   | true=>exact fW hF hY n id ops hl hr (by simpa using h) (λS' m' a' w' hk aZ=>hK _ _ _ _ _ hk aZ)
   | false=>
    simp only[cond_false]at h
    have fin:∀S m,Rel C S m a w->Zmf E id (λS m=>Zwp E ops (List.range ops.size) (K .normal) S m) S m->(Code.region id ops false).wpIn F n E.P Q a w:=λS m hr h=>by
     unfold Zmf at h
     split at h
     ·exact wpIn_region (Ze2 hE hF hY hl _ hr h (λS2 m2 a2 w2 hk aZ=>hK _ _ _ _ _ hk aZ))
     ·split at h
      ·exact h.elim
      ·rename_i mm dQ
       obtain⟨c1,p,n',c,z1,z2,z3⟩:=Zag h
       simp only[zA7,Bool.not_eq_true']at c1
       exact wpIn_region (Ze2 hE hF hY hl _ (hr.acq hY dQ c1.2.2 z1 z2) z3 (λS2 m2 a2 w2 hk aZ=>hK _ _ _ _ _ hk aZ))
    unfold Zql at h
    split at h
    ·exact fin S m hr h
    ·split at h
     ·rename_i mm hL dQ
      obtain⟨c1,b,cs,y1,y2,y3,y4,y5⟩:=Zag h
      simp only[zA7,Bool.not_eq_true']at c1
      obtain⟨T,cap,je⟩:=hr.acqB hY dQ c1.2.2 hL y1 y2 y3 y4
      exact fin _ _ je (y5 T cap)
     ·exact h.elim
  | some outs=>
   simp only[hj]at h
   obtain⟨xs,_,h1,h2⟩:=Shape.exL_elim _ _ h
   have fin:∀S' m' a' w',((S'.gh=S.gh/\S'.fo=S.fo/\ZbU S' Zfz S.ids=ZbU S Zfz S.ids/\Za4 S' Zfz S.tkeys=Za4 S Zfz S.tkeys/\ZfX S' outs λxs'=>xs'=xs)/\SameOut (Za6 ops.toList) S S'/\m.le m')->Rel C S' m' a' w'->Q .normal a' w':=by
    rintro S' m' a' w' ⟨⟨g0,gf,g1,g2,g3⟩,g4,g5⟩ aZ
    obtain⟨xs',_,e2,e3,rfl⟩:=ZcD aZ g3
    refine hK _ _ _ _ _ h2 ?_
    have hz:=Zd4 (A:=⟨outs,[],[],false⟩) (css:=[]) (tvs:=[]) hr.ok aZ gf g4 (by simpa[ZbU,Zfz]using g1) (by simpa[Za4,Zfz]using g2) e2 rfl (by simp) rfl (by simp)
    have:ZbP S (Za6 ops.toList) ⟨outs,[],[],false⟩ S'.gh xs' [] []={ S with env:=ZbC (λi=>bif (Za6 ops.toList).any (Nat.beq i ·)then none else S.env i) outs xs' }:=by
     simp[ZbP,Zii,ZeN,g0]
    rw[this]at hz
    exact hz.forget g5 hr.le (λid x hx hf=>(hr.own id x hx).known hf)
   cases draw with
   | true=>
    simp only[cond_true]at h1
    cases eT:E.last id with
    | true=>simp only[eT,cond_true]at h1
    | false=>
    simp only[eT,cond_false]at h1
    have h1':=hD id ops _ (λS' m'=>(S'.gh=S.gh/\S'.fo=S.fo/\ZbU S' Zfz S.ids=ZbU S Zfz S.ids/\Za4 S' Zfz S.tkeys=Za4 S Zfz S.tkeys/\ZfX S' outs λxs'=>xs'=xs)/\SameOut (Za6 ops.toList) S S'/\m.le m') S m (λS' m' hs hm y=>⟨by have y':=ZdJ y;rw[ZcM,ZcN]at y';exact⟨y'.1 rfl,y'.2⟩,hs,hm.le eT⟩) h1
    exact fW hF hY n id ops hl hr h1' fin
   | false=>
    simp only[cond_false]at h1
    have h1':Zwp E.cold ops (List.range ops.size) (λS' m'=>(S'.gh=S.gh/\S'.fo=S.fo/\ZbU S' Zfz S.ids=ZbU S Zfz S.ids/\Za4 S' Zfz S.tkeys=Za4 S Zfz S.tkeys/\ZfX S' outs λxs'=>xs'=xs)/\SameOut (Za6 ops.toList) S S'/\m.le m') S m:=
     Zgy (E:=E.cold) (λS' m' hs hm y=>⟨by have y':=ZdJ y;rw[ZcM,ZcN]at y';exact⟨y'.1 rfl,y'.2⟩,hs,hm⟩) h1
    exact wpIn_region (Ze2 (E:=E.cold) hE hF hY.cold hl _ hr h1' fin)
 | .seq x y,hc,F,hF,C,hY,hR,n,hl,S,m,a,w,K,Q,hr,h,hK=>by
  simp only[Zat,Zbs,zA7]at hc hl
  simp only[W]at h
  cases jq:E.cuts (ZaV y)with
  | none=>
   simp only[jq]at h
   refine wpIn_seq (Zcl hE hD fW x hc.1.1 hF hY hR n hl.1 hr h λe S' m' a' w' hk aZ=>?_)
   cases e with
   | normal=>exact Zcl hE hD fW y hc.1.2 hF hY hR n hl.2 aZ hk hK
   | _=>exact hK _ _ _ _ _ hk aZ
  | some A=>
   simp only[jq]at h hc
   obtain⟨J,h1,h2⟩:=h
   have h1':=Zdx hD x hc.1.1 (K':=λe S' m'=>(match e with
    | .normal=>Zki A.gh S'.gh S.gh S'.fo S.fo (Zmd (ZbU S' A S.ids) (ZbU S A S.ids) (Zme (Za4 S' A S.tkeys) (Za4 S A S.tkeys) (ZfX S' A.slots λxs=>ZhM S' A.boxes λcss=>Ze0 S' A.toks λtvs=>J (ghs A.gh S'.gh xs) css tvs m')))
    | e=>K e S' m')/\SameOut (ZhF x) S S'/\leT E.thaw m m') (λe S' m' hs hm y=>⟨y,hs,hm⟩) h1
   refine wpIn_seq (Zcl hE hD fW x hc.1.1 hF hY hR n hl.1 hr h1' ?_)
   rintro e S' m' a' w' ⟨hk,hs,fw⟩ aZ
   cases e with
   | normal=>
    obtain⟨r0,rf,hk⟩:=ZdJ hk
    obtain⟨r1,hk⟩:=ZcM.1 hk
    obtain⟨r2,hk⟩:=ZcN.1 hk
    obtain⟨xs,f1,f2,f3,hk⟩:=ZcD aZ hk
    obtain⟨css,g1,g2,hk⟩:=Zc9 hk
    obtain⟨tvs,k1,k2,hJ⟩:=Zb9 hk
    have d5:∀v∈tvs,ZbQ v=true:=λv hv=>by
     obtain⟨i,hi⟩:=List.getElem?_of_mem hv
     have aB:=(zA0 hi).1
     obtain⟨qe,ju⟩:∃qe,A.toks[i]?=some qe:=⟨_,zA3 (by omega)⟩
     exact(k2 i qe.1 qe.2 v ju hi).1
    exact Zcl hE hD fW y hc.1.2 hF hY hR n hl.2 (Zd4 hr.ok aZ rf hs r1 r2 f2 g1 g2 k1 k2) (ZdO (ZdN (Shape.allL_fits _ _ (Zgw h2 r0) xs f1) css g1) tvs k1 d5 m' fw hJ) hK
   | _=>exact hK _ _ _ _ _ hk aZ
 | .cond c x y,hc,F,hF,C,hY,hR,n,hl,S,m,a,w,K,Q,hr,h,hK=>by
  simp only[Zat,Zbs,zA7]at hc hl
  obtain⟨v,hv,h⟩:=Zaw h
  obtain⟨h1,h2⟩:=Zag h
  obtain⟨b,rfl⟩:∃b,v=.bool b:=⟨_,ZbM h1⟩
  simp only[ZcJ]at h2
  refine wpIn_cond (hr.ev hv) ?_
  cases b
  ·exact Zcl hE hD fW y hc.2 hF hY hR n hl.2 hr h2 hK
  ·exact Zcl hE hD fW x hc.1 hF hY hR n hl.1 hr h2 hK
 | .block id x,hc,F,hF,C,hY,hR,n,hl,S,m,a,w,K,Q,hr,h,hK=>by
  simp only[Zat,Zbs]at hc hl
  simp only[W]at h
  refine wpIn_block (Zcl hE hD fW x hc hF hY hR n hl hr h λe S' m' a' w' hk aZ=>?_)
  cases e with
  | exit id'=>
   simp only at hk
   simp only[Exit.inBlock]
   cases hb:Nat.beq id' id with
   | true=>
    simp only[hb,cond_true]at hk
    rw[if_pos (Nat.eq_of_beq_eq_true hb)]
    exact hK _ _ _ _ _ hk aZ
   | false=>
    simp only[hb,cond_false]at hk
    rw[if_neg (λe=>by subst e;simp at hb)]
    exact hK _ _ _ _ _ hk aZ
  | _=>exact hK _ _ _ _ _ hk aZ
 | .loop x,hc,F,hF,C,hY,hR,n,hl,S,m,a,w,K,Q,hr,h,hK=>by
  simp only[Zat,Zbs,zA7]at hc hl
  simp only[W]at h
  obtain⟨I,h1,h2⟩:=h
  generalize hA:E.loops (ZaV x)=A at *
  obtain⟨xs,f1,f2,f3,h1⟩:=ZcD hr h1
  obtain⟨css,g1,g2,h1⟩:=Zc9 h1
  obtain⟨tvs,k1,k2,q,h1⟩:=Zb9 h1
  have cH:=hr.ok
  refine Zni (λq a w=>∃g xs css tvs m',(A.gh=false->g=S.gh)/\Shape.fitsL (A.slots.map (·.2)) xs=true/\css.length=A.boxes.length/\tvs.length=A.toks.length/\(∀v∈tvs,ZbQ v=true)/\leT E.thaw m m'/\I (ghs A.gh g xs) css tvs m' q/\Rel C (ZbP S (ZhF x) A g xs css tvs) m' a w) ?_ ?_
  ·refine⟨q,S.gh,xs,css,tvs,m,λ_=>rfl,f1,g1,k1,λv hv=>?_,leT.refl _ m,h1,?_⟩
   ·obtain⟨i,hi⟩:=List.getElem?_of_mem hv
    have aB:=(zA0 hi).1
    obtain⟨qe,ju⟩:∃qe,A.toks[i]?=some qe:=⟨_,zA3 (by omega)⟩
    exact(k2 i qe.1 qe.2 v ju hi).1
   ·exact Zd4 cH hr rfl (SameOut.refl _ _) rfl rfl f2 g1 g2 k1 k2
  ·rintro q a w ⟨g,xs,css,tvs,m',hg,f1,g1,k1,k2,hm,hI,aZ⟩
   have hb:=ZdO (ZdN (Shape.allL_fits _ _ (Zgw h2 hg) xs f1) css g1) tvs k1 k2 m' q hm hI
   have hb':=Zdx hD x hc.1 (K':=λe S' m''=>(match e with
    | .normal=>Zki A.gh S'.gh S.gh S'.fo S.fo (Zmd (ZbU S' A S.ids) (ZbU S A S.ids) (Zme (Za4 S' A S.tkeys) (Za4 S A S.tkeys) (ZfX S' A.slots λxs'=>ZhM S' A.boxes λcss'=>Ze0 S' A.toks λtvs'=>∃n',n' < q/\I (ghs A.gh S'.gh xs') css' tvs' m'' n')))
    | e=>K e S' m'')/\SameOut (ZhF x) (ZbP S (ZhF x) A g xs css tvs) S'/\leT E.thaw m' m'') (λe S' m'' hs hm y=>⟨y,hs,hm⟩) hb
   refine Zcl hE hD fW x hc.1 hF hY hR n hl aZ hb' ?_
   rintro e S' m'' a' w' ⟨hk,hs,fw⟩ jx
   cases e with
   | normal=>
    obtain⟨r0,rf,hk⟩:=ZdJ hk
    obtain⟨r1,hk⟩:=ZcM.1 hk
    obtain⟨r2,hk⟩:=ZcN.1 hk
    obtain⟨xs',f1',f2',f3',hk⟩:=ZcD jx hk
    obtain⟨css',g1',g2',hk⟩:=Zc9 hk
    obtain⟨tvs',k1',k2',q',aB,hI'⟩:=Zb9 hk
    have hm':leT E.thaw m m'':=leT.trans hm fw
    refine⟨q',aB,S'.gh,xs',css',tvs',m'',r0,f1',g1',k1',λv hv=>?_,hm',hI',?_⟩
    ·obtain⟨i,hi⟩:=List.getElem?_of_mem hv
     have aB:=(zA0 hi).1
     obtain⟨qe,ju⟩:∃qe,A.toks[i]?=some qe:=⟨_,zA3 (by omega)⟩
     exact(k2' i qe.1 qe.2 v ju hi).1
    ·have eQ:SameOut (ZhF x) S S':=SameOut.trans (Zdi (S':=ZbP S (ZhF x) A g xs css tvs) hc.2 rfl) hs
     exact Zd4 cH jx rf eQ r1 r2 f2' g1' g2' k1' k2'
   | _=>exact hK _ _ _ _ _ hk jx
 | .goto _,_,F,hF,C,hY,hR,n,_,S,m,a,w,K,Q,hr,h,hK=>by simp[W]at h
 | .scope x,hc,F,hF,C,hY,hR,n,hl,S,m,a,w,K,Q,hr,h,hK=>by
  simp only[Zat,Zbs]at hc hl
  simp only[W]at h
  refine Zpn (Zcl hE hD fW x hc hF hY hR n hl hr h λe S' m' a' w' hk aZ=>?_)
  cases e with
  | goto l=>exact hk.elim
  | _=>exact hK _ _ _ _ _ hk aZ
 | .rangeFunc f ps x y,hc,F,hF,C,hY,hR,n,hl,S,m,a,w,K,Q,hr,h,hK=>by
  simp only[Zat,Zbs,zA7]at hc hl
  simp only[W]at h
  exact Znh hF hY hR n (λhF' _ hY' hR' n' hl'=>Zcl hE hD fW x hc.1 hF' hY' hR' n' hl') (λhF' _ hY' hR' n' hl'=>Zcl hE hD fW y hc.2 hF' hY' hR' n' hl')
   (λhk=>Zdx hD x hc.1 (λe S' m' _ hm y=>⟨y,hm⟩) hk) (λhk=>Zdx hD y hc.2 (λe S' m' _ hm y=>⟨y,hm⟩) hk) hl.2.1 hl.2.2 hl.1 hr h hK
 | .refuse _,_,F,hF,C,hY,hR,n,_,S,m,a,w,K,Q,hr,h,hK=>by simp[W]at h
def bid(j:Nat):Nat:=100000+j
def Zpo(xs:List Box):SV->Value
 | .v x=>x
 | .loc id off=>match xs[id - 100000]? with
  | some x=>.pointer (some ⟨x.b,off,none⟩)
  | none=>undef
 | .sl id n c=>match xs[id - 100000]? with
  | some x=>.slice (some ⟨x.b,0,none⟩) n c
  | none=>undef
def Zzs(xs:List Box):SV->Bool
 | .v _=>true
 | .loc id _=>Nat.ble 100000 id&&Nat.blt (id - 100000) xs.length
 | .sl id _ _=>Nat.ble 100000 id&&Nat.blt (id - 100000) xs.length
def Zko(xs:List Box):List SV->Bool
 | []=>true
 | s::l=>Zzs xs s&&Zko xs l
def S0(svs:List SV)(xs:List Box):St:=
 {env:=λi=>svs[i]?
  L:=λid=>bif Nat.ble 100000 id then xs[id - 100000]? else none
  ids:=(List.range xs.length).map bid
  tok:=λ_=>none
  tkeys:=[]
  gh:=0
  fo:=false }
def ZtJ(E:Env)(S:St)(m:Mem):ResultVar->(Value->Prop)->Prop
 | .tmp t,k=>wv S (.tmp t) k
 | .cell t T,k=>ZeW E S m T (.tmp t) k
def Zpp(tmps:Array Value):ResultVar->Sem Value
 | .tmp t=>pure (tmps.getD t undef)
 | .cell a t=>do loadVar t (<-asAddr (tmps.getD a undef))
def Zy0(E:Env)(S:St)(m:Mem):List ResultVar->(List Value->Prop)->Prop
 | [],k=>k []
 | r::l,k=>ZtJ E S m r λv=>Zy0 E S m l λvs=>k (v::vs)
def Ztu:List Value->Value
 | [v]=>v
 | vs=>.tuple vs.toArray
def Zws(S:St):Nat->List Box->(List (List Value)->Prop)->Prop
 | _,[],k=>k []
 | j,x::xs,k=>match S.L (bid j)with
  | none=>False
  | some y=>{ y with cs:=x.cs }=x/\Zws S (j+1) xs λcss=>k (y.cs::css)
def Zwt(l:List Nat):Bool:=ZbT l&&l.all (λi=>Nat.blt i 100000)
def ZtK(S:St):List Nat->Mem->Prop->Prop
 | [],_,k=>k
 | id::l,m,k=>match S.L id with
  | none=>ZtK S l m k
  | some x=>bif x.fz then ZtK S l m k else(m.free x.b->m.k x.b=none->ZtK S l m k)
theorem Ze7{C:Ctx}{S:St}{m:Mem}{a:Act}{w:World}(hr:Rel C S m a w):∀{l:List Nat} {k:Prop},ZtK S l m k->k
 | [],k,h=>h
 | id::l,k,h=>by
  unfold ZtK at h
  cases hx:S.L id with
  | none=>simp only[hx]at h;exact Ze7 hr h
  | some x=>
   simp only[hx]at h
   cases hz:x.fz with
   | true=>simp only[hz,cond_true]at h;exact Ze7 hr h
   | false=>
    simp only[hz,cond_false]at h
    refine Ze7 hr (h ((hr.own id x hx).free hz) ?_)
    cases hk:m.k x.b with
    | none=>rfl
    | some e=>
     exfalso
     obtain⟨c0,T0,f0,h7⟩:=(hr.own _ _ hx).isC
     obtain⟨es,cl,h8,_⟩:=hr.sub.k x.b e hk
     rw[h7]at h8;cases h8
def ZwU(E:Env)(S:St)(m:Mem)(k:Prop):Prop:=bif E.kF then ZtK S E.frz m k else k
theorem Zkp{C:Ctx}{E:Env}{S:St}{m:Mem}{a:Act}{w:World}(hr:Rel C S m a w){k:Prop}(h:ZwU E S m k):k:=by
 unfold ZwU at h
 cases hk:E.kF with
 | true=>rw[hk]at h;exact Ze7 hr h
 | false=>rw[hk]at h;exact h
def ZBD(E:Env)(rs:List ResultVar)(m0:Mem)(xs:List Box)(R:Value->Mem->List (List Value)->Prop)(S:St)(m:Mem):Prop:=
 Zy0 E S m rs λvs=>Zws S 0 xs λcss=>ZwU E S m (∃m'',m0.le m''/\m''.le (ZrO S E.frz m)/\R (Ztu vs) m'' css)
def ZBQ(E:Env)(rs:List ResultVar)(m0:Mem)(xs:List Box)(R:Value->Mem->List (List Value)->Prop):KT:=λe S m=>match e with
 | .normal=>ZBD E rs m0 xs R S m
 | .ret=>ZBD E rs m0 xs R S m
 | _=>False
theorem Znj{P:Program}{T:TypeId}{x v:Value}{w:World}(h:(Instr.loadAt T x).run P w=.ok v w):(do loadVar T (<-asAddr x):Sem Value).run P w=.ok v w:=by
 cases x with
 | pointer p=>
  cases p with
  | none=>simp[Instr.loadAt,Instr.sureAddr]at h
  | some p=>simpa[Instr.loadAt,Instr.sureAddr,asAddr]using h
 | _=>simp[Instr.loadAt,Instr.sureAddr]at h
theorem Zlo{a b:Nat}(h:Nat.blt a b=true):a < b:=Nat.le_of_ble_eq_true h
section
variable {C:Ctx} {S:St} {m:Mem} {a:Act} {w:World}
theorem ZiZ{E:Env}(hE:E.ok)(hr:Rel C S m a w){r:ResultVar}{k:Value->Prop}(h:ZtJ E S m r k):∃v,k v/\(Zpp a.tmps r).run E.P w=.ok v w:=by
 cases r with
 | tmp t=>
  obtain⟨v,hv,hk⟩:=Zaw h
  refine⟨v,hk,?_⟩
  have:=hr.ev hv
  simp only[Act.eval]at this
  simp only[Zpp]
  rw[<-this];rfl
 | cell t T=>
  obtain⟨v,hk,aV⟩:=Zfq hE hr h
  exact⟨v,hk,Znj aV⟩
theorem ZdQ{E:Env}(hE:E.ok)(hr:Rel C S m a w):∀{rs:List ResultVar} {k:List Value->Prop},Zy0 E S m rs k->∃vs,k vs/\(rs.mapM (Zpp a.tmps)).run E.P w=.ok vs w
 | [],k,h=>⟨[],h,by simp⟩
 | r::l,k,h=>by
  obtain⟨v,h,h1⟩:=ZiZ hE hr h
  obtain⟨vs,hk,h2⟩:=ZdQ hE hr h
  refine⟨v::vs,hk,?_⟩
  rw[List.mapM_cons]
  simp only[Sem.run_bind,h1,Result.andThen_ok,h2]
  rfl
theorem Zdc{fn:Func}{tmps:Array Value}{P:Program}{w:World}{vs:List Value}(h:(fn.results.toList.mapM (Zpp tmps)).run P w=.ok vs w):(results fn tmps).run P w=.ok (Ztu vs) w:=by
 have e:results fn tmps=(do
  let vs <-fn.results.mapM (Zpp tmps)
  pure (if h:vs.size=1 then vs[0]else .tuple vs)):=rfl
 rw[e,Array.mapM_eq_mapM_toList]
 simp only[Sem.run_bind,Sem.run_map,h,Result.andThen_ok]
 match vs with
 | []=>rfl
 | [v]=>rfl
 | v::u::l=>rfl
theorem ZfD:∀{xs:List Box} {j:Nat} {k:List (List Value)->Prop},Zws S j xs k->∃css,css.length=xs.length/\(∀(i:Nat)(x:Box),xs[i]?=some x->∃cs,css[i]?=some cs/\S.L (bid (j+i))=some { x with cs:=cs })/\k css
 | [],j,k,h=>⟨[],rfl,by simp,h⟩
 | x::xs,j,k,h=>by
  simp only[Zws]at h
  cases hL:S.L (bid j)with
  | none=>simp[hL]at h
  | some y=>
   simp only[hL]at h
   obtain⟨h1,h2⟩:=h
   obtain⟨css,g1,g2,g3⟩:=ZfD h2
   refine⟨y.cs::css,by simp[g1],?_,g3⟩
   intro i z hi
   cases i with
   | zero=>
    simp at hi;subst hi
    refine⟨y.cs,by simp,?_⟩
    rw[Nat.add_zero,hL,<-h1]
   | succ i=>
    obtain⟨cs,h3,h4⟩:=g2 i z (by simpa using hi)
    exact⟨cs,by simpa using h3,by rw[<-h4];congr 2;omega⟩
theorem ZdR(S:St)(m:Mem):∀{l:List Nat} {b:Nat},(∀id∈l,∀x,S.L id=some x->x.b≠b)->∀o,ZrO S l m b o=m b o
 | [],b,_,o=>rfl
 | id::l,b,h,o=>by
  have ih:=ZdR S m (l:=l) (b:=b) (λi hi=>h i (by simp[hi])) o
  simp only[ZrO]
  cases hL:S.L id with
  | none=>exact ih
  | some x=>
   simp only
   cases hz:x.fz with
   | true=>exact ih
   | false=>
    simp only[cond_false]
    rw[Mem.add_other _ (Ne.symm (h id (by simp) x hL))];exact ih
theorem Zqp(hr:Rel C S m a w):∀{l:List Nat},l.Nodup->m.le (ZrO S l m)/\Sub (ZrO S l m) w/\(∀b o v,ZrO S l m b o=some v->m b o=some v\/∃id∈l,∃x,S.L id=some x/\x.b=b)
 | [],_=>⟨Mem.le_refl m,hr.sub,λb o v h=>.inl h⟩
 | id::l,hn=>by
  obtain⟨h1,h2⟩:=List.nodup_cons.1 hn
  obtain⟨i1,i2,i3⟩:=Zqp hr h2
  simp only[ZrO]
  cases hL:S.L id with
  | none=>exact⟨i1,i2,λb o v h=>(i3 b o v h).imp_right λ⟨id',h,x⟩=>⟨id',by simp[h],x⟩⟩
  | some x=>
   simp only
   cases hz:x.fz with
   | true=>exact⟨i1,i2,λb o v h=>(i3 b o v h).imp_right λ⟨id',h,x⟩=>⟨id',by simp[h],x⟩⟩
   | false=>
    simp only[cond_false]
    have dE:=(hr.own id x hL)
    have bI:(ZrO S l m).free x.b:=λo=>by
     rw[ZdR S m (λi hi y hy e=>h1 (hr.apart _ _ _ _ hy hL e ▸ hi))]
     exact dE.free hz o
    refine⟨mLt i1 (Mem.le_add bI x.cs),?_,?_⟩
    ·exact i2.add λo v hv=>dE.cell hv
    ·intro b o v hv
     by_cases hb:b=x.b
     ·exact .inr ⟨id,by simp,x,hL,hb.symm⟩
     ·rw[Mem.add_other _ hb]at hv
      exact(i3 b o v hv).imp_right λ⟨id',h,x⟩=>⟨id',by simp[h],x⟩
end
theorem Zpq(S:St)(m:Mem):∀l:List Nat,(ZrO S l m).k=m.k
 | []=>rfl
 | id::l=>by
  simp only[ZrO]
  cases hL:S.L id with
  | none=>exact Zpq S m l
  | some x=>
   simp only
   cases hz:x.fz with
   | true=>exact Zpq S m l
   | false=>exact Zpq S m l
theorem Zhs{xs:List Box}:∀{l:List SV},Zko xs l=true->∀(i:Nat) s,l[i]?=some s->Zzs xs s=true
 | [],_,i,s,h=>by simp at h
 | x::l,h,i,s,hs=>by
  simp only[Zko,zA7]at h
  cases i with
  | zero=>simp at hs;subst hs;exact h.1
  | succ i=>exact Zhs h.2 i s (by simpa using hs)
def ZAT(n:Nat)(m:Mem)(w:World)(bs:List Nat):Ctx where
 n:=n
 m0:=m
 me:=m
 mle:=Mem.le_refl m
 p:=λ_ M w'=>Keep w.heap.size bs w w'/\∀k,M k->(w.heap.size<=k/\k < w'.heap.size/\Wr w' k)\/k∈bs
 st:=by
  rintro g M M' w1 w2 ⟨h1,h2⟩ hu hg
  refine⟨h1.trans ⟨hu.os,hu.tape,hu.output,hu.size,λk hk hn=>hu.block k (Nat.lt_of_lt_of_le hk h1.size) λhm=>?_,hu.wr⟩,λk hk=>?_⟩
  ·rcases h2 k hm with h|h
   ·omega
   ·exact hn h
  ·rcases hg k hk with h|h
   ·exact(h2 k h).imp_left λh=>⟨h.1,Nat.lt_of_lt_of_le h.2.1 hu.size,hu.wr k h.2.1 h.2.2⟩
   ·have:=h1.size;exact .inl ⟨by omega,h.2⟩
theorem ZtL{n:Nat}{m:Mem}{w:World}{bs:List Nat}(hb:∀k∈bs,k < w.heap.size/\Wr w k){g:Int}{M:Nat->Prop}{w':World}(h:(ZAT n m w bs).p g M w')(k:Nat)(hk:M k):Wr w' k:=by
 rcases h.2 k hk with h1|h1
 ·exact h1.2.2
 ·exact h.1.wr k (hb k h1).1 (hb k h1).2
theorem Zkq{C:Ctx}{w:World}{xs:List Box}{svs:List SV}(fq:C.me=C.m0)(hs:Sub C.m0 w)(hx:∀x∈xs,Own C.m0 w x/\x.fz=false)(eN:(xs.map (·.b)).Nodup)(cH:Zko xs svs=true)(hn:svs.length<=C.n)(hp:C.p 0 (λk=>k∈xs.map (·.b)) w):
  Rel C (S0 svs xs) C.m0 { tmps:=(svs.map (Zpo xs)).toArray++Array.replicate (C.n - (svs.map (Zpo xs)).toArray.size) undef,defers:=[] } w:=by
 have hL:∀id x,(S0 svs xs).L id=some x->100000<=id/\xs[id - 100000]?=some x:=λid x h=>by
  simp only[S0]at h
  cases hb:Nat.ble 100000 id with
  | false=>simp[hb]at h
  | true=>simp only[hb,cond_true]at h;exact⟨Nat.le_of_ble_eq_true hb,h⟩
 refine⟨⟨[],rfl,List.nodup_nil,by simp⟩,by simp;omega,?_,?_,?_,?_,by simp[S0],by simp[S0],by simp[S0],hs,fq ▸ Mem.le_refl _,⟨_,hp,λk hk=>?_,λid x hx=>?_,λk t b ht=>by simp[S0]at ht,by simp,fq ▸ NewM.refl _ _⟩,λ_=>fq⟩
 ·intro i sv he
  simp only[S0]at he
  have aB:=(zA0 he).1
  have h1:=Zhs cH i sv he
  refine⟨Zpo xs sv,?_,?_⟩
  ·cases sv with
   | v x=>rfl
   | loc id off=>
    simp only[Zzs,zA7]at h1
    have h2:id - 100000 < xs.length:=Zlo h1.2
    simp[St.den,S0,Zpo,h1.1,zA3 h2]
   | sl id n c=>
    simp only[Zzs,zA7]at h1
    have h2:id - 100000 < xs.length:=Zlo h1.2
    simp[St.den,S0,Zpo,h1.1,zA3 h2]
  ·rw[Array.getElem?_append_left (by simpa using aB)]
   simp[he]
 ·intro id x hx'
  have:=zA2 (hL id x hx').2
  exact(hx x this).1
 ·intro id id' x x' h1 h2 hb
  obtain⟨g1,g2⟩:=hL _ _ h1
  obtain⟨g3,g4⟩:=hL _ _ h2
  have hi:=(zA0 g2).1
  have hi':=(zA0 g4).1
  have:=(List.getElem?_inj (l:=xs.map (·.b)) (i:=id - 100000) (j:=id' - 100000) (by simpa using hi) eN).1 (by simp[g2,g4,hb])
  omega
 ·intro id x h1
  obtain⟨g1,g2⟩:=hL _ _ h1
  have hi:=(zA0 g2).1
  simp only[S0,List.mem_map,List.mem_range,bid]
  exact⟨id - 100000,hi,by omega⟩
 ·obtain⟨x,h1,h2⟩:=List.mem_map.1 hk
  exact h2 ▸ (hx x h1).1.lt
 ·exact List.mem_map.2 ⟨x,zA2 (hL id x hx).2,rfl⟩
theorem Znk{n:Nat}{w:World}{m:Mem}{xs:List Box}{svs:List SV}(hs:Sub m w)(hx:∀x∈xs,Own m w x/\x.fz=false)(eN:(xs.map (·.b)).Nodup)(cH:Zko xs svs=true)(hn:svs.length<=n):
  Rel (ZAT n m w (xs.map (·.b))) (S0 svs xs) m { tmps:=(svs.map (Zpo xs)).toArray++Array.replicate (n - (svs.map (Zpo xs)).toArray.size) undef,defers:=[] } w:=
 Zkq (C:=ZAT n m w (xs.map (·.b))) rfl hs hx eN cH hn ⟨Keep.refl _ _ _,λk hk=>.inr hk⟩
theorem Rel.leave{P:Program}{C:Ctx}{S:St}{m:Mem}{fn:Func}{tmps:Array Value}{R:Ending->World->Prop}(h:∀a' w',a'.tmps=tmps->Rel C S m a' w'->∃v,(results fn tmps).run P w'=.ok v w'/\R (.returned v) w'):
  ∀(ms:List Nat)(a:Act)(w:World),a.tmps=tmps->a.defers=ms.map ZhK->Rel C S m a w->LeavesInM Fence.wide 0 P fn tmps R a.defers .returning w
 | [],a,w,ht,hm,hr=>by
  rw[hm]
  simp only[List.map_nil,LeavesInM,LeavesIn]
  exact h a w ht hr
 | D::ms,a,w,ht,hm,hr=>by
  obtain⟨ms',q1,q2,q3⟩:=hr.defers
  have fw:ms'=D::ms:=by
   rw[hm]at q1
   have inj:∀(l l':List Nat),l.map ZhK=l'.map ZhK->l=l':=by
    intro l
    induction l with
    | nil=>intro l' h;cases l' <;> simp_all
    | cons x l ih=>
     intro l' h
     cases l' with
     | nil=>simp at h
     | cons y l'=>simp only[List.map_cons,List.cons.injEq]at h;rw[ih l' h.2];simpa[ZhK]using h.1
   exact(inj _ _ q1).symm
  subst fw
  have hD:=q3 D (by simp)
  rw[hm]
  simp only[List.map_cons,LeavesInM]
  refine⟨by simp,.inl ⟨D,_,rfl,run_takeDeferred hD,?_⟩⟩
  have hr':Rel C S m { a with defers:=ms.map ZhK } (w.putObj D (.deferred none)):=by
   obtain⟨M,hd⟩:=hr.dom
   have v7:M D:=hd.mks D (by rw[hm];simp)
   have cI:∀k,k≠D->(w.putObj D (.deferred none)).heap[k]?=w.heap[k]?:=λk hk=>World.putObj_heap_other hk
   refine hr.swap rfl hr.le rfl rfl rfl rfl hr.env hr.size ⟨ms,rfl,(List.nodup_cons.1 q2).2,λD' hD'=>?_⟩ (λk o hk hm=>cI k (λe=>by rw[e,hD]at hk;cases hk;cases hm)) (λk t b ht hb=>((hr.toks k t ht).2 b hb).2) hr.fo ?_
   ·rw[cI D' (λe=>(List.nodup_cons.1 q2).1 (e ▸ hD'))];exact q3 D' (by simp[hD'])
   ·have h1:=hd.step (m':=m) (Ze5 (o:=.deferred none) rfl v7) (NewM.refl _ _)
    exact⟨_,h1.p,h1.lt,h1.own,h1.tok,λD' hD'=>h1.mks D' (by rw[hm];exact List.mem_cons_of_mem _ hD'),h1.new⟩
  exact Rel.leave h ms { a with defers:=ms.map ZhK } _ ht rfl hr'
theorem ZwV{E:Env}(hE:E.ok){Za1:Nat->Array Oper->(St->Mem->Prop)->St->Mem->Prop}(hD:ZdG E Za1)(fW:ZcO E Za1){g:FuncId}{fn:Func}{c:Code}
  (hf:E.P.funcs[g]?=some fn) (hn:(fn.name == "runtime.NumGoroutine")=false) (hb:fn.body=some c) (hc:Zat E c=true) (hl:Zbs fn.ntmps c=true) (hz:Zwt E.frz=true) (fD:E.yl=none)
  {m:Mem} (dQ:∀mm,E.m0=some mm->m=mm) {R:Value->Mem->List (List Value)->Prop} (svs:List SV) (xs:List Box) (aH:Nat.ble svs.length fn.ntmps=true) (cH:Zko xs svs=true)
  (h:W E Za1 c (ZBQ E fn.results.toList m xs R) (S0 svs xs) m):CX E.P g (svs.map (Zpo xs)).toArray m xs R:=by
 refine⟨Zgl hf hn (by simp[hb]),λw hs hx eN=>?_⟩
 have aZ:=Znk (n:=fn.ntmps) hs hx eN cH (Nat.le_of_ble_eq_true aH)
 refine callsIn_wide.1 (callsIn_of_wp_marks (F:=Fence.wide) (n:=0) hf hb trivial ?_)
 refine Zcl hE hD fW c hc (.inl rfl) (YOk.none fD (λmm fw=>⟨dQ mm fw,λg M w' hp k hk=>ZtL (λk hk=>by
  obtain⟨x,h1,rfl⟩:=List.mem_map.1 hk
  exact⟨(hx x h1).1.lt,(hx x h1).1.wr⟩) hp k hk⟩)) (λl hl=>by cases hl) 0 hl aZ h ?_
 have key:∀S' m' a' w',ZBD E fn.results.toList m xs R S' m'->Rel (ZAT fn.ntmps m w (xs.map (·.b))) S' m' a' w'->LeavesInM Fence.wide 0 E.P fn a'.tmps (λe w'=>
   ∃v_1 m'_1 css,e=Ending.returned v_1/\m.le m'_1/\Sub m'_1 w'/\ZeH m m'_1 w w'/\Keep w.heap.size (xs.map (·.b)) w w'/\css.length=xs.length/\(∀(i:Nat)(x:Box)(cs:List Value),xs[i]?=some x->css[i]?=some cs->Own m'_1 w' { x with cs:=cs })/\R v_1 m'_1 css) a'.defers .returning w':=by
  intro S' m' a' w' hk hr
  obtain⟨ms,q1,_,_⟩:=hr.defers
  refine Rel.leave ?_ ms a' w' rfl q1 hr
  clear hr q1
  intro a2 w2 ht hr
  rw[<-ht]
  obtain⟨vs,hk,aV⟩:=ZdQ hE hr hk
  obtain⟨css,h1,h2,hk⟩:=ZfD hk
  obtain⟨m'',h3,h4,h5⟩:=Zkp hr hk
  obtain⟨M,hd⟩:=hr.dom
  refine⟨Ztu vs,Zdc aV,Ztu vs,m'',css,rfl,h3,?_,?_,hd.p.1,h1,?_,h5⟩
  all_goals simp only[Zwt,zA7]at hz
  all_goals have rO:=ZaZ hz.1
  all_goals obtain⟨f1,f2,f3⟩:=Zqp hr rO
  ·exact f2.less h4
  ·refine⟨λb o v hv=>?_,λb e he=>?_⟩
   rotate_left
   ·have he':=h4.k b e he
    rw[Zpq]at he'
    rcases hd.new.k b e he' with h6|h6
    ·exact .inl h6
    ·rcases hd.p.2 b h6 with h6|h6
     ·exact .inr ⟨h6.1,h6.2.2⟩
     ·exfalso
      obtain⟨y,hy,eP⟩:=List.mem_map.1 h6
      obtain⟨i,hi⟩:=List.getElem?_of_mem hy
      obtain⟨cs,_,fx⟩:=h2 i y hi
      obtain⟨c0,T0,f0,h7⟩:=(hr.own _ _ fx).isC
      obtain⟨es,cl,h8,_⟩:=hr.sub.k b e he'
      simp only[eP]at h7
      rw[h7]at h8;cases h8
   rcases f3 b o v (h4 b o v hv)with hv|⟨id,de,x,dZ,gz⟩
   ·rcases hd.new b o v hv with h6|h6
    ·exact .inl h6
    ·rcases hd.p.2 b h6 with h6|h6
     ·exact .inr ⟨h6.1,h6.2.2⟩
     ·exfalso
      obtain⟨y,hy,eP⟩:=List.mem_map.1 h6
      obtain⟨i,hi⟩:=List.getElem?_of_mem hy
      obtain⟨cs,_,fx⟩:=h2 i y hi
      have:=(hr.own _ _ fx).free (hx y hy).2 o
      simp only[eP]at this
      rw[this]at hv;cases hv
   ·right
    have h6:=hd.p.2 _ (hd.own id x dZ)
    subst gz
    rcases h6 with h6|h6
    ·exact⟨h6.1,h6.2.2⟩
    ·exfalso
     obtain⟨y,hy,eP⟩:=List.mem_map.1 h6
     obtain⟨i,hi⟩:=List.getElem?_of_mem hy
     obtain⟨cs,_,fx⟩:=h2 i y hi
     have:=hr.apart _ _ _ _ dZ fx eP.symm
     have aB:id < 100000:=by
      have:=List.all_eq_true.1 hz.2 id de
      exact Zlo this
     simp only[bid]at this
     omega
  ·intro i x cs hi bX
   obtain⟨cs',h6,h7⟩:=h2 i x hi
   rw[bX]at h6;cases h6
   have ho:=hr.own _ _ h7
   have kJ:=(hx x (zA2 hi)).2
   refine⟨ho.cells,λ_ o=>?_,λhz'=>by simp[kJ]at hz',ho.whole⟩
   cases hv:m'' x.b o with
   | none=>rfl
   | some v=>
    have h8:=h4 _ _ _ hv
    rw[ZdR S' m' (λid de y hy e=>?_)]at h8
    ·have:=ho.free kJ o
     simp only at this
     rw[this]at h8;cases h8
    ·have:=hr.apart _ _ _ _ hy h7 e
     have aB:id < 100000:=by
      have:=List.all_eq_true.1 hz.2 id de
      exact Zlo this
     simp only[bid]at this
     omega
 intro e S' m' a' w' hk hr
 cases e with
 | normal=>exact key S' m' a' w' hk hr
 | ret=>exact key S' m' a' w' hk hr
 | exit _=>exact hk.elim
 | goto _=>exact hk.elim
 | panic _=>exact hk.elim
 | outgrown=>exact hk.elim
def ZAq(E:Env)(rs:List ResultVar)(n:Nat):KT:=λe S m=>match e with
 | .normal=>Zy0 E S m rs λ_=>S.gh=n\/S.gh=-1
 | .ret=>Zy0 E S m rs λ_=>S.gh=n\/S.gh=-1
 | _=>False
def Env.yields(E:Env)(l:Nat)(xs:List (List Value)):Env:={ E with yl:=some λl' g v=>l'=l/\0<=g/\xs[g.toNat]?=some v,m0:=none }
theorem ZwW(vs:List Value):(vs.map SV.v).map (Zpo [])=vs:=by
 induction vs with
 | nil=>rfl
 | cons v vs ih=>simp only[List.map_cons,ih];rfl
theorem ZwX{E:Env}(hE:E.ok){Za1:(E:Env)->Nat->Array Oper->(St->Mem->Prop)->St->Mem->Prop}{g:FuncId}{fn:Func}{c:Code}
  (hf:E.P.funcs[g]?=some fn) (hn:(fn.name == "runtime.NumGoroutine")=false) (hb:fn.body=some c) (hl:Zbs fn.ntmps c=true)
  {m:Mem} (first captured:List Value) (xs:List (List Value)) (aH:Nat.ble (first.length+captured.length+1) fn.ntmps=true)
  (h:∀l,ZdG (E.yields l xs) (Za1 (E.yields l xs))/\ZcO (E.yields l xs) (Za1 (E.yields l xs))/\Zat (E.yields l xs) c=true/\W (E.yields l xs) (Za1 (E.yields l xs)) c (ZAq E fn.results.toList xs.length) (S0 ((first++.func (.yield l) #[] #[]::captured).map .v) []) m):
  IX E.P g first captured m xs:=by
 refine⟨Zgl hf hn (by simp[hb]),λp hp l w hs rp hy=>?_⟩
 obtain⟨hD,fW,hc,h⟩:=h l
 have hE':(E.yields l xs).ok:=hE
 let C:Ctx:=⟨fn.ntmps,m,m,Mem.le_refl m,p,hp⟩
 have cH:∀vs:List Value,Zko [] (vs.map .v)=true:=λvs=>by
  induction vs with
  | nil=>rfl
  | cons v vs ih=>simp[Zko,Zzs,ih]
 have aZ:=Zkq (C:=C) (xs:=[]) (svs:=(first++.func (.yield l) #[] #[]::captured).map .v) rfl hs (by simp) (by simp) (cH _) (by have:=Nat.le_of_ble_eq_true aH;simp;omega) (by
  have e:(λk=>k∈([]:List Box).map (·.b))=(λ_:Nat=>False):=by funext k;simp
  rw[e];exact rp)
 rw[ZwW]at aZ
 refine callsIn_wide.1 (callsIn_of_wp_marks (F:=Fence.wide) (n:=0) hf hb trivial ?_)
 refine Zcl hE' hD fW c hc (.inl rfl) (C:=C) ⟨λY hY=>by
  simp only[Env.yields,Option.some.injEq]at hY
  subst hY;exact hy,λmm fw=>by cases fw⟩ (λl hl=>by cases hl) 0 hl aZ h ?_
 have key:∀S' m' a' w',Zy0 E S' m' fn.results.toList (λ_=>S'.gh=xs.length\/S'.gh=-1)->Rel C S' m' a' w'->LeavesInM Fence.wide 0 E.P fn a'.tmps (λe w'=>∃v M,e=.returned v/\(∀k,M k->k < w'.heap.size)/\(p xs.length M w'\/p (-1) M w')) a'.defers .returning w':=by
  intro S' m' a' w' hk hr
  obtain⟨ms,q1,_,_⟩:=hr.defers
  refine Rel.leave ?_ ms a' w' rfl q1 hr
  clear hr q1
  intro a2 w2 ht hr
  rw[<-ht]
  obtain⟨vs,hk,aV⟩:=ZdQ hE hr hk
  obtain⟨M,hd⟩:=hr.dom
  refine⟨Ztu vs,Zdc aV,_,M,rfl,hd.lt,?_⟩
  have:=hd.p
  rcases hk with hk|hk
  ·rw[hk]at this;exact .inl this
  ·rw[hk]at this;exact .inr this
 intro e S' m' a' w' hk hr
 cases e with
 | normal=>exact key S' m' a' w' hk hr
 | ret=>exact key S' m' a' w' hk hr
 | exit _=>exact hk.elim
 | goto _=>exact hk.elim
 | panic _=>exact hk.elim
 | outgrown=>exact hk.elim
def LC{α β:Type}(T1:(α->Prop)->Prop)(T2:(β->Prop)->Prop)(ρ:α->β->Prop):Prop:=
 T1 (λ_=>True)->T2 (λy2=>∃y1,(∀K,T1 K->K y1)/\ρ y1 y2)
section comb
variable {α β:Type} {ρ:α->β->Prop}
theorem LC.false{T2:(β->Prop)->Prop}:LC (λ_:α->Prop=>False) T2 ρ:=λh=>h.elim
theorem LC.ret{a:α}{b:β}(h:ρ a b):LC (λK=>K a) (λK=>K b) ρ:=λ_=>⟨a,λ_ hK=>hK,h⟩
theorem LC.chk{c:Bool}{T1:(α->Prop)->Prop}{T2:(β->Prop)->Prop}(h:c=true->LC T1 T2 ρ):LC (λK=>chk c (T1 K)) (λK=>chk c (T2 K)) ρ:=by
 cases c
 ·exact λh=>h.elim
 ·exact h rfl
theorem LC.br{c:Bool}{T1 U1:(α->Prop)->Prop}{T2 U2:(β->Prop)->Prop}(h:LC T1 T2 ρ)(k:LC U1 U2 ρ):LC (λK=>br c (T1 K) (U1 K)) (λK=>br c (T2 K) (U2 K)) ρ:=by
 cases c
 ·exact k
 ·exact h
theorem LC.and{p q:Prop}{T1:(α->Prop)->Prop}{T2:(β->Prop)->Prop}(kx:p->q)(h:p->LC T1 T2 ρ)(mono:∀{K K':β->Prop},(∀y,K y->K' y)->T2 K->T2 K'):LC (λK=>p/\T1 K) (λK=>q/\T2 K) ρ:=λ⟨h1,h2⟩=>
 ⟨kx h1,mono (λy ⟨y1,g1,g2⟩=>⟨y1,λK hK=>g1 K hK.2,g2⟩) (h h1 h2)⟩
theorem LC.map{γ δ:Type}{σ:γ->δ->Prop}{T1:(α->Prop)->Prop}{T2:(β->Prop)->Prop}(h:LC T1 T2 ρ)(f:α->γ)(g:β->δ)(oG:∀a b,ρ a b->σ (f a) (g b))(mono:∀{K K':β->Prop},(∀y,K y->K' y)->T2 K->T2 K'):
  LC (λK=>T1 λa=>K (f a)) (λK=>T2 λb=>K (g b)) σ:=λh1=>
 mono (λb ⟨a,g1,g2⟩=>⟨f a,λK hK=>g1 _ hK,oG _ _ g2⟩) (h h1)
end comb
abbrev LE{α:Type}(T1 T2:(α->Prop)->Prop):Prop:=LC T1 T2 Eq
theorem Znl{l:List Value}{n:Nat}{α β:Type}{ρ:α->β->Prop}{f:Value->α}{g:Value->β}(h:∀v,ρ (f v) (g v)):LC (λK=>Ztz l n λv=>K (f v)) (λK=>Ztz l n λv=>K (g v)) ρ:=by
 unfold Ztz
 cases hl:l[n]? with
 | none=>exact LC.false
 | some v=>simp only;exact LC.ret (h v)
theorem ZtM{op:BinOp}{b:Bool}:LE (Ztt op b) (Ztt op b):=by
 cases op <;> first
  | exact LC.false
  | exact LC.ret rfl
theorem ZwY{op:BinOp}{k:IntKind}{a b:Int}:LE (ZyT op k a b) (ZyT op k a b):=by
 cases op <;> first
  | exact LC.false
  | exact LC.ret rfl
  | exact LC.and id (λ_=>LC.ret rfl) (λh=>h _)
theorem Zr8{op:BinOp}{k:IntKind}{a b:Int}:LE (ZiI op k a b) (ZiI op k a b):=by
 cases op <;> first
  | exact LC.false
  | exact LC.and id (λ_=>LC.ret rfl) (λh=>h _)
theorem ZwZ{op:BinOp}{a b:ByteArray}:LE (ZyU op a b) (ZyU op a b):=by
 cases op <;> first
  | exact LC.false
  | exact LC.ret rfl
  | exact LC.and id (λ_=>LC.ret rfl) (λh=>h _)
theorem EqIs.unique{P:Program}{T:TypeId}{x y:Value}{a b:Bool}(w:World)(h:EqIs P T x y a)(k:EqIs P T x y b):a=b:=by
 have h1:=h.1 w
 rw[k.1 w]at h1
 cases h1;rfl
theorem BinIs.unique{P:Program}{op:BinOp}{T:TypeId}{x y a b:Value}(w:World)(h:BinIs P op T x y a)(k:BinIs P op T x y b):a=b:=by
 have h1:=h (.tmp 0) (.tmp 0) w
 rw[k (.tmp 0) (.tmp 0) w]at h1
 cases h1;rfl
theorem ConvIs.unique{P:Program}{s d:TypeId}{x a b:Value}(w:World)(h:ConvIs P s d x a)(k:ConvIs P s d x b):a=b:=by
 have h1:=h w
 rw[k w]at h1
 cases h1;rfl
theorem Zw0{E:Env}(w:World){op:BinOp}{T:TypeId}{x y:Value}:LE (ZyK E op T x y) (ZyK E op T x y):=by
 unfold ZyK
 cases ht:E.tt T with
 | none=>exact LC.false
 | some i=>
  simp only
  cases hd:i.d <;> simp only <;> first
   | exact LC.false
   | exact LC.chk λ_=>ZwZ
   | exact LC.chk λ_=>ZtM
   | (refine LC.chk λ_=>?_
      rintro⟨b,hb,h⟩
      exact⟨b,hb,ZiT (λv ⟨v1,g1,g2⟩=>⟨v1,λK ⟨b',hb',hK⟩=>g1 K (by rw[EqIs.unique w hb hb'];exact hK),g2⟩) (ZtM h)⟩)
   | (cases hc:ZwI op
      ·simp only[cond_false];rintro⟨v,hv,_⟩;exact⟨v,hv,v,λK ⟨v',hv',hK⟩=>(by rw[BinIs.unique w hv hv'];exact hK),rfl⟩
      ·simp only[cond_true];rintro⟨v,hv,_⟩;exact⟨v,hv,.bool v,λK ⟨v',hv',hK⟩=>(by rw[BinIs.unique w hv hv'];exact hK),rfl⟩)
   | (cases hs:Zid op
      ·exact LC.chk λ_=>ZwY
      ·exact LC.chk λ_=>Zr8)
theorem ZuN{E:Env}(w:World){s d:TypeId}{v:Value}:LE (ZrN E s d v) (ZrN E s d v):=by
 unfold ZrN
 cases E.tt s with
 | none=>exact LC.false
 | some i=>
  cases E.tt d with
  | none=>exact LC.false
  | some j=>
   simp only
   cases i.d <;> cases j.d <;> simp only <;> first
    | exact LC.false
    | exact LC.chk λ_=>LC.ret rfl
    | (rintro⟨v,hv,_⟩;exact⟨v,hv,v,λK ⟨v',hv',hK⟩=>(by rw[ConvIs.unique w hv hv'];exact hK),rfl⟩)
theorem Zw1{E:Env}{T:TypeId}{v:Value}:LE (Zzo E T v) (Zzo E T v):=by
 unfold Zzo
 cases E.tt T with
 | none=>exact LC.false
 | some i=>
  simp only
  cases i.d <;> simp only <;> first
   | exact LC.false
   | exact LC.ret rfl
   | exact LC.chk λ_=>LC.ret rfl
theorem Ze8{α β:Type}{ρ:α->β->Prop}{x:Option Value}{d y:Nat}{U1:Nat->(α->Prop)->Prop}{U2:Nat->(β->Prop)->Prop}(h:∀n,LC (U1 n) (U2 n) ρ)(mono:∀n {K K':β->Prop},(∀y,K y->K' y)->U2 n K->U2 n K'):
  LC (λK=>Zgk x d y λn=>U1 n K) (λK=>Zgk x d y λn=>U2 n K) ρ:=by
 cases x with
 | none=>exact h d
 | some v=>exact LC.chk λ_=>LC.and id (λ_=>h _) (mono _)
theorem Zqq{α β:Type}{ρ:α->β->Prop}{place:Nat->Option (Nat×Nat)}{f:List Value->α}{g:List Value->β}(h:∀v,ρ (f v) (g v)):∀{parts:List (Nat×Value)} {cs:List Value},LC (λK=>Zmb place cs parts λr=>K (f r)) (λK=>Zmb place cs parts λr=>K (g r)) ρ
 | [],cs=>LC.ret (h cs)
 | (i,v)::rest,cs=>by
  simp only[Zmb]
  cases place i with
  | none=>exact LC.false
  | some os=>exact LC.chk λ_=>Zqq h
theorem Zr9{E:Env}{T:TypeId}{v:Value}{lo hi mx:Option Value}:LE (ZhL E T v lo hi mx) (ZhL E T v lo hi mx):=by
 unfold ZhL
 cases Zhn E T with
 | some sz=>
  simp only
  exact LC.chk λ_=>Ze8 (λm=>Ze8 (λh=>Ze8 (λl=>LC.chk λ_=>LC.ret rfl) (λl K K' hh=>Zai (hh _))) (λh K K' hh=>Zbu (λl=>Zai (hh _)))) (λm K K' hh=>Zbu (λh=>Zbu (λl=>Zai (hh _))))
 | none=>
  simp only
  cases Zel E T with
  | false=>exact LC.false
  | true=>exact LC.chk λ_=>Ze8 (λh=>Ze8 (λl=>LC.ret rfl) (λl K K' hh=>hh _)) (λh K K' hh=>Zbu (λl=>hh _))
structure Less (S1 S2:St):Prop where
 env:∀t sv,S1.env t=some sv->S2.env t=some sv
 L:∀id x,S1.L id=some x->S2.L id=some x
theorem Less.ev{S1 S2:St}(h:Less S1 S2){x:Operand}{sv:SV}(hx:S1.ev x=some sv):S2.ev x=some sv:=by
 cases x with
 | tmp t=>exact h.env t sv hx
 | _=>exact hx
theorem Less.den{S1 S2:St}(h:Less S1 S2){sv:SV}{v:Value}(hx:S1.den sv=some v):S2.den sv=some v:=by
 cases sv with
 | v u=>exact hx
 | loc id off=>
  simp only[St.den]at *
  cases hb:S1.L id with
  | none=>simp[hb]at hx
  | some b=>simp only[hb]at hx;simp only[h.L id b hb];exact hx
 | sl id n c=>
  simp only[St.den]at *
  cases hb:S1.L id with
  | none=>simp[hb]at hx
  | some b=>simp only[hb]at hx;simp only[h.L id b hb];exact hx
theorem Less.val{S1 S2:St}(h:Less S1 S2){x:Operand}{v:Value}(hx:S1.val x=some v):S2.val x=some v:=by
 unfold St.val at *
 cases he:S1.ev x with
 | none=>simp[he]at hx
 | some sv=>simp only[he]at hx;rw[h.ev he];exact h.den hx
section ops
variable {α β:Type} {ρ:α->β->Prop} {S1 S2:St}
theorem Zcm(hs:Less S1 S2){x:Operand}{U1:Value->(α->Prop)->Prop}{U2:Value->(β->Prop)->Prop}(h:∀v,LC (U1 v) (U2 v) ρ):
  LC (λK=>wv S1 x λv=>U1 v K) (λK=>wv S2 x λv=>U2 v K) ρ:=by
 unfold wv
 cases hv:S1.val x with
 | none=>exact LC.false
 | some v=>simp only[hs.val hv];exact h v
theorem Zlp(hs:Less S1 S2):∀{l:List Operand} {U1:List Value->(α->Prop)->Prop} {U2:List Value->(β->Prop)->Prop} (h:∀v,LC (U1 v) (U2 v) ρ),LC (λK=>wvs S1 l λv=>U1 v K) (λK=>wvs S2 l λv=>U2 v K) ρ
 | [],U1,U2,h=>h []
 | x::l,U1,U2,h=>Zcm hs (U1:=λv K=>wvs S1 l λvs=>U1 (v::vs) K) (U2:=λv K=>wvs S2 l λvs=>U2 (v::vs) K) λv=>Zlp hs (λvs=>h (v::vs))
theorem Zqr(hs:Less S1 S2){x:Option Operand}{U1:Option Value->(α->Prop)->Prop}{U2:Option Value->(β->Prop)->Prop}(h:∀v,LC (U1 v) (U2 v) ρ):
  LC (λK=>ZyW S1 x λv=>U1 v K) (λK=>ZyW S2 x λv=>U2 v K) ρ:=by
 cases x with
 | none=>exact h none
 | some x=>exact Zcm hs (U1:=λv K=>U1 (some v) K) (U2:=λv K=>U2 (some v) K) λv=>h (some v)
end ops
theorem ZuO{E:Env}{S1 S2:St}(w:World)(hs:Less S1 S2){o:Oper}:LE (Zcq E S1 o) (Zcq E S2 o):=by
 have hr:∀{a:SV},LE (λK:SV->Prop=>K a) (λK=>K a):=LC.ret rfl
 have gp:∀{c:Bool} {a:SV},LE (λK:SV->Prop=>Eng.chk c (K a)) (λK=>Eng.chk c (K a)):=LC.chk λ_=>LC.ret rfl
 obtain⟨dst,op,type,pos,after,guard⟩:=o
 cases op <;> unfold Zcq <;> simp only <;> try exact LC.false
 case unOp op T x=>
  refine Zcm hs λv=>?_
  cases op <;> simp only <;> first
   | exact LC.false
   | exact gp
   | (cases ZbR E T <;> simp only <;> first
     | exact LC.false
     | exact gp)
 case binOp op T x y yT=>
  exact Zcm hs λv=>Zcm hs λv'=>(Zw0 w).map _ _ (λa b e=>by rw[e]) (λh=>Zm9 h)
 case convert s d x=>exact Zcm hs λv=>(ZuN w).map _ _ (λa b e=>by rw[e]) (λh hx=>by
  unfold ZrN at *
  (repeat' split at hx) <;> first|exact(hx:False).elim|exact Zai (h _) hx|exact hx.elim λu z=>⟨u,z.1,h _ z.2⟩)
 case makeFunc=>exact Zlp hs λv=>Zlp hs λv'=>hr
 case fieldAddr T x f=>
  cases Zhl E T f with
  | none=>exact LC.false
  | some fo=>
   simp only
   cases he:S1.ev x with
   | none=>exact LC.false
   | some sv=>
    simp only[hs.ev he]
    cases sv <;> first
     | exact LC.false
     | exact hr
     | exact gp
 case indexAddr T x i=>
  refine Zcm hs λvi=>LC.chk λ_=>?_
  cases Zzn E T with
  | none=>exact LC.false
  | some ix=>
   cases he:S1.ev x with
   | none=>
    cases ix <;> simp only
    ·exact λh=>h.2.elim
    ·exact LC.false
   | some sv=>
    simp only[hs.ev he]
    cases ix <;> simp only
    ·cases sv <;> simp only
     ·exact LC.and id (λ_=>gp) (λh=>Zai (h _))
     ·exact LC.and id (λ_=>hr) (λh=>h _)
     ·exact λh=>h.2.elim
    ·cases sv <;> simp only
     ·refine LC.chk λ_=>?_
      rintro⟨b,o,h1,h2,h3⟩
      refine⟨b,o,h1,h2,_,λK ⟨b',o',g1,g2,g3⟩=>?_,rfl⟩
      rw[h1]at g1
      cases g1
      exact g3
     ·exact LC.false
     ·exact LC.and id (λ_=>hr) (λh=>h _)
 case index T x i=>
  refine Zcm hs λv=>Zcm hs λvi=>LC.chk λ_=>?_
  cases Zel E T <;> simp only[cond_true,cond_false]
  ·cases Zpc E T with
   | none=>exact LC.false
   | some len=>exact LC.chk λ_=>LC.and id (λ_=>Znl (λ_=>rfl)) (λh=>Ze3 (λu=>h _))
  ·exact LC.chk λ_=>LC.and id (λ_=>hr) (λh=>h _)
 case build T parts=>
  cases Zhm E T with
  | none=>exact LC.false
  | some place=>exact Zlp hs λvs=>Zqq (λ_=>rfl)
 case field T x f=>
  cases Zpd E T f with
  | none=>exact LC.false
  | some fo=>exact Zcm hs λv=>LC.chk λ_=>Znl (λ_=>rfl)
 case extract x n=>exact Zcm hs λv=>LC.chk λ_=>Znl (λ_=>rfl)
 case makeInterface T x=>exact Zcm hs λv=>gp
 case nilCheck x=>
  cases he:S1.ev x with
  | none=>exact LC.false
  | some sv=>
   simp only[hs.ev he]
   cases sv <;> first
    | exact LC.false
    | exact hr
    | exact gp
 case slice T x lo hi mx=>exact Zcm hs λv=>Zqr hs λl=>Zqr hs λh=>Zqr hs λm=>Zr9.map _ _ (λa b e=>by rw[e]) (λh=>Zij h)
 case call c=>
  split
  ·split
   ·exact Zcm hs λv=>Zw1.map _ _ (λa b e=>by rw[e]) (λh y=>by
     unfold Zzo at *
     (repeat' split at y) <;> first|exact y.elim|exact Zai (h _) y|exact h _ y)
   ·exact LC.false
  ·split
   ·rename_i T _ _ _
    refine Zcm hs λv=>Zcm hs λv'=>?_
    split
    ·exact gp
    ·exact LC.false
   ·exact LC.false
  ·split
   ·refine Zcm hs λv=>Zcm hs λv'=>?_
    split
    ·exact gp
    ·exact LC.false
   ·refine Zcm hs λv=>Zcm hs λv'=>Zcm hs λv''=>?_
    split
    ·exact gp
    ·exact LC.false
   ·exact LC.false
  ·exact LC.false
theorem CX.frame2{P:Program}{g:FuncId}{args:Array Value}{m M:Mem}{X:List Box}{R:Value->Mem->List (List Value)->Prop}(h:CX P g args m X R)(hm:m.le M):
  CX P g args M X (λv M' css=>∃m',m.le m'/\m'.le M'/\(∀b o u,M b o=some u->∀o',m' b o'=m b o')/\R v m' css):=by
 refine⟨h.1,λw hs hX eN=>?_⟩
 have bI:∀{b o},M b o=none->m b o=none:=λ{b o} hb=>by
  cases he:m b o with
  | none=>rfl
  | some v=>rw[hm _ _ _ he]at hb;cases hb
 have hX':∀x∈X,Own m w x/\x.fz=false:=λx hx=>by
  obtain⟨ho,hz⟩:=hX x hx
  exact⟨⟨ho.cells,λ_ o=>bI (ho.free hz o),λhz'=>by simp[hz]at hz',ho.whole⟩,hz⟩
 refine(h.2 w (hs.less hm) hX' eN).mono ?_
 rintro e w' ⟨v,m',css,rfl,a2,a3,a4,a5,a6,a7,a8⟩
 have cy:m'.le (M.or m'):=⟨λb o u hu=>by
  cases hM:M b o with
  | none=>simp[Mem.or,hM,hu]
  | some u'=>
   rcases a4 b o u hu with h1|h1
   ·rw[hm _ _ _ h1]at hM;cases hM;simp[Mem.or,hm _ _ _ h1]
   ·have:=hs.lt hM;omega,λb u hu=>by
  cases hM:M.k b with
  | none=>simp[Mem.or,hM,hu]
  | some u'=>
   rcases a4.k b u hu with h1|h1
   ·rw[hm.k _ _ h1]at hM;cases hM;simp[Mem.or,hm.k _ _ h1]
   ·have:=(hs.k b u' hM).lt;omega⟩
 have bN:∀b o u,M b o=some u->∀o',m' b o'=m b o':=λb o u hu o'=>by
  cases hm':m' b o' with
  | none=>
   cases dQ:m b o' with
   | none=>rfl
   | some x=>have:=a2 _ _ _ dQ;rw[hm']at this;cases this
  | some x=>
   rcases a4 b o' x hm' with h1|h1
   ·exact h1.symm
   ·have:=hs.lt hu;omega
 refine⟨v,M.or m',css,rfl,Mem.le_or _ _,?_,?_,a5,a6,?_,m',a2,cy,bN,a8⟩
 ·refine⟨λb o u hu=>?_,λb e he=>?_⟩
  rotate_left
  ·rcases Mem.or_k he with h1|⟨h1,h2⟩
   ·refine(hs.k b e h1).same (a5.block b (hs.k b e h1).lt λcJ=>?_)
    obtain⟨x,hx,rfl⟩:=List.mem_map.1 cJ
    obtain⟨c0,T0,f0,h7⟩:=(hX x hx).1.isC
    obtain⟨es,cl,h8,_⟩:=hs.k _ _ h1
    rw[h7]at h8;cases h8
   ·exact a3.k b e h2
  rcases Mem.or_some hu with h1|⟨h1,h2⟩
  ·have aB:=hs.lt h1
   rw[ZbL (a5.block b aB ?_)]
   ·exact hs b o u h1
   ·intro cJ
    obtain⟨x,hx,rfl⟩:=List.mem_map.1 cJ
    obtain⟨ho,hz⟩:=hX x hx
    have:=ho.free hz o
    rw[h1]at this;cases this
  ·exact a3 b o u h2
 ·refine⟨λb o u hu=>?_,λb u hu=>?_⟩
  ·rcases Mem.or_some hu with h1|⟨h1,h2⟩
   ·exact .inl h1
   ·rcases a4 b o u h2 with h3|h3
    ·rw[hm _ _ _ h3]at h1;cases h1
    ·exact .inr h3
  ·rcases Mem.or_k hu with h1|⟨h1,h2⟩
   ·exact .inl h1
   ·rcases a4.k b u h2 with h3|h3
    ·rw[hm.k _ _ h3]at h1;cases h1
    ·exact .inr h3
 ·intro i x cs hi bX
  have ho:=a7 i x cs hi bX
  obtain⟨mg,hz⟩:=hX x (zA2 hi)
  refine⟨ho.cells,λ_ o=>?_,λhz'=>by simp[hz]at hz',ho.whole⟩
  simp only[Mem.or,mg.free hz o]
  exact ho.free hz o
theorem CX.frame{P:Program}{g:FuncId}{args:Array Value}{m M:Mem}{X:List Box}{R:Value->Mem->List (List Value)->Prop}(h:CX P g args m X R)(hm:m.le M):
  CX P g args M X (λv M' css=>∃m',m.le m'/\m'.le M'/\R v m' css):=(h.frame2 hm).mono λ_ _ _ _ ⟨m',a1,a2,_,a4⟩=>⟨m',a1,a2,a4⟩
theorem CXT.frame{P:Program}{g:FuncId}{args:Array Value}{m M:Mem}{esz:Nat}{R:Value->Mem->List (List Value)->Prop}(h:CXT P g args m esz R)(hm:m.le M):
  CXT P g args M esz (λv M' _=>∃m',m.le m'/\m'.le M'/\R v m' []):=by
 refine⟨h.1,λw hs=>(h.2 w (hs.less hm)).mono ?_⟩
 rintro e w' ⟨v,m',rfl,a2,a3,a4,a5,a6,a7,a8⟩
 have cy:m'.le (M.or m'):=⟨λb o u hu=>by
  cases hM:M b o with
  | none=>simp[Mem.or,hM,hu]
  | some u'=>
   rcases a4 b o u hu with h1|h1
   ·rw[hm _ _ _ h1]at hM;cases hM;simp[Mem.or,hm _ _ _ h1]
   ·have:=hs.lt hM;omega,λb u hu=>by
  cases hM:M.k b with
  | none=>simp[Mem.or,hM,hu]
  | some u'=>
   rcases a4.k b u hu with h1|h1
   ·rw[hm.k _ _ h1]at hM;cases hM;simp[Mem.or,hm.k _ _ h1]
   ·have:=(hs.k b u' hM).lt;omega⟩
 refine⟨v,M.or m',rfl,Mem.le_or _ _,⟨λb o u hu=>?_,λb e he=>?_⟩,⟨λb o u hu=>?_,λb u hu=>?_⟩,a5,a6.same (λ_ _=>rfl) (λb o hb hn=>?_),a7,m',a2,cy,a8⟩
 ·rcases Mem.or_some hu with h1|⟨h1,h2⟩
  ·have aB:=hs.lt h1
   rw[ZbL (a5.block b aB (by simp))]
   exact hs b o u h1
  ·exact a3 b o u h2
 ·rcases Mem.or_k he with h1|⟨h1,h2⟩
  ·exact(hs.k b e h1).same (a5.block b (hs.k b e h1).lt (by simp))
  ·exact a3.k b e h2
 ·rcases Mem.or_some hu with h1|⟨h1,h2⟩
  ·exact .inl h1
  ·rcases a4 b o u h2 with h3|h3
   ·rw[hm _ _ _ h3]at h1;cases h1
   ·exact .inr h3
 ·rcases Mem.or_k hu with h1|⟨h1,h2⟩
  ·exact .inl h1
  ·rcases a4.k b u h2 with h3|h3
   ·rw[hm.k _ _ h3]at h1;cases h1
   ·exact .inr h3
 ·cases hM:M b o with
  | none=>simp[Mem.or,hM,hn]
  | some u=>have:=a7 b hb;have:=hs.lt hM;omega
theorem Zet{m:Mem}{b o:Nat}{xs ys:List Value}(h:m.reads b o xs)(k:m.reads b o ys)(hl:xs.length=ys.length):xs=ys:=by
 refine List.ext_getElem hl λi h1 h2=>?_
 have a:=h i _ (zA3 h1)
 have b:=k i _ (zA3 h2)
 rw[a]at b;exact Option.some.inj b
theorem Zeu{m:Mem}{a:Option Addr}{xs ys:List Value}(h:rowRd m a xs)(k:rowRd m a ys)(hl:xs.length=ys.length):xs=ys:=by
 rcases h with h|⟨b,o,h1,h2⟩
 ·subst h;simp at hl;exact(List.eq_nil_of_length_eq_zero hl.symm).symm
 ·rcases k with k|⟨b',o',k1,k2⟩
  ·subst k;simpa using hl
  ·rw[h1]at k1;cases k1
   exact Zet h2 k2 hl
theorem Zpr{i:TI}{m M:Mem}(hm:m.le M){b o:Nat}:LE (ZeK i m b o) (ZeK i M b o):=by
 intro h
 unfold ZeK at *
 cases ha:i.agg with
 | false=>
  simp only[ha,cond_false]at *
  obtain⟨v,hv,_⟩:=h
  exact⟨v,hm _ _ _ hv,v,λK ⟨v',hv',hK⟩=>by rw[hv]at hv';cases hv';exact hK,rfl⟩
 | true=>
  simp only[ha,cond_true]at *
  cases hb:Nat.ble i.size 16 with
  | true=>
   simp only[hb,cond_true]at *
   obtain⟨vs,hl,hr,_⟩:=ZiK h
   refine ZmQ vs hl ⟨hr.mono hm,_,λK hK=>?_,rfl⟩
   obtain⟨vs',hl',hr',hK⟩:=ZiK hK
   rw[Zet hr hr' (by omega)];exact hK
  | false=>
   simp only[hb,cond_false]at *
   obtain⟨vs,hl,hr,_⟩:=h
   refine⟨vs,hl,hr.mono hm,_,λK ⟨vs',hl',hr',hK⟩=>?_,rfl⟩
   rw[Zet hr hr' (by omega)];exact hK
theorem Zkr{i:TI}{x:Box}{off:Nat}:LE (ZdX i x off) (ZdX i x off):=by
 unfold ZdX
 cases i.agg <;> simp only[cond_true,cond_false]
 ·exact Znl (λ_=>rfl)
 ·cases(x.full&&(Nat.beq x.cap i.size&&Nat.beq off 0)) <;> simp only[cond_true,cond_false]
  ·exact LC.chk λ_=>LC.ret rfl
  ·exact LC.ret rfl
theorem Zsa{m:Mem}{a:Option Addr}{xs ys:List Value}(hx:rowRd m a xs)(hy:rowRd m a ys)(hl:xs.length=ys.length):xs=ys:=by
 apply List.ext_getElem? λj=>?_
 rcases hx with rfl|⟨b,o,rfl,h1⟩
 ·rw[List.eq_nil_of_length_eq_zero hl.symm]
 ·rcases hy with rfl|⟨b',o',h,h2⟩
  ·rw[List.eq_nil_of_length_eq_zero hl]
  ·cases h
   by_cases hj:j < xs.length
   ·have e1:=zA3 hj
    have e2:=zA3 (hl ▸ hj:j < ys.length)
    have g1:=h1 j _ e1
    have g2:=h2 j _ e2
    rw[g1]at g2
    rw[e1,e2,g2]
   ·rw[List.getElem?_eq_none_iff.2 (by omega),List.getElem?_eq_none_iff.2 (by omega)]
theorem Zlq{s t:ByteArray}(h:Za0 s=Za0 t):s=t:=by
 unfold Za0 at h
 have:s.data.toList=t.data.toList:=by
  refine(List.map_inj_right λx y e=>?_).1 h
  simp only[Value.int.injEq,true_and]at e
  exact UInt8.toNat_inj.1 (by omega)
 have h2:s.data=t.data:=Array.ext' this
 cases s;cases t
 simpa using h2
theorem Zps{S1 S2:St}(hs:Less S1 S2){m M:Mem}(hm:m.le M){x:Operand}:LE (Zd2 S1 m x) (ZbB S2 M x):=by
 intro h
 refine Zih ?_
 unfold Zd2 at *
 split at h
 ·rename_i v he
  obtain⟨h1,bs,h2,h3,_⟩:=Zag h
  simp only[hs.ev he]
  refine Zaa h1 ⟨bs,h2,h3.mono hm,.string bs,λK hK=>?_,rfl⟩
  obtain⟨_,bs',h2',h3',hk⟩:=Zag hK
  have:bs=bs':=Zlq (Zsa h3 h3' (by rw[Zb7,Zb7,h2,h2']))
  rw[this];exact hk
 ·exact h.elim
theorem Zqs{E:Env}{S1 S2:St}(hs:Less S1 S2){m M:Mem}(hm:m.le M){T:TypeId}{x:Operand}:LE (ZeW E S1 m T x) (ZeW E S2 M T x):=by
 unfold ZeW
 cases E.tt T with
 | none=>exact LC.false
 | some i=>
  simp only
  cases he:S1.ev x with
  | none=>exact LC.false
  | some sv=>
   simp only[hs.ev he]
   cases sv with
   | v u=>
    simp only
    cases ZeV E x with
    | none=>exact LC.chk λ_=>Zpr hm
    | some id=>
     simp only
     cases hx:S1.L id with
     | none=>exact LC.false
     | some bx=>
      simp only[hs.L id bx hx]
      exact LC.chk λ_=>LC.and (λh=>h) (λ_=>Zkr) (λh=>Zeq h)
   | loc id off=>
    simp only
    cases hx:S1.L id with
    | none=>exact LC.false
    | some bx=>simp only[hs.L id bx hx];exact Zkr
   | sl id n c=>exact LC.false
structure OutB (rs:List Nat)(tk:Option Nat)(g:Bool)(m M:Mem)(S1 S2:St)(y1 y2:St×Mem):Prop where
 env1:y1.1.env=S1.env
 env2:y2.1.env=S2.env
 L:∀id,(id∈rs/\y1.1.L id=y2.1.L id)\/(y1.1.L id=S1.L id/\y2.1.L id=S2.L id)
 tok:∀k,(tk=some k/\y1.1.tok k=y2.1.tok k)\/(y1.1.tok k=S1.tok k/\y2.1.tok k=S2.tok k)
 le:y1.2.le y2.2
 same:g=false->y1.2=m/\y2.2=M
 gh2:(y2.1.gh,y2.1.fo)=(S2.gh,S2.fo)
structure Out (rs:List Nat)(tk:Option Nat)(g:Bool)(m M:Mem)(dst:Option Tmp)(S1 S2:St)(y1 y2:St×Mem):Prop where
 env1:∀t sv,dst=some t->y1.1.env t=some sv->y2.1.env t=some sv
 env2:∀t,dst≠some t->y2.1.env t=S2.env t
 L:∀id,(id∈rs/\y1.1.L id=y2.1.L id)\/(y1.1.L id=S1.L id/\y2.1.L id=S2.L id)
 tok:∀k,(tk=some k/\y1.1.tok k=y2.1.tok k)\/(y1.1.tok k=S1.tok k/\y2.1.tok k=S2.tok k)
 le:y1.2.le y2.2
 same:g=false->y1.2=m/\y2.2=M
 gh2:(y2.1.gh,y2.1.fo)=(S2.gh,S2.fo)
section
variable {rs:List Nat} {tk:Option Nat} {g:Bool} {m M:Mem} {S1 S2:St}
theorem ZBa(S:St)(d:Option Tmp)(x:Option SV):(S.put d x).L=S.L:=by cases d <;> rfl
theorem Zw2(S:St)(d:Option Tmp)(x:Option SV):(S.put d x).tok=S.tok:=by cases d <;> rfl
theorem OutB.put{y1 y2:St×Mem}(h:OutB rs tk g m M S1 S2 y1 y2)(dst:Option Tmp){x1 x2:Option SV}(hx:∀sv,x1=some sv->x2=some sv):Out rs tk g m M dst S1 S2 (y1.1.put dst x1,y1.2) (y2.1.put dst x2,y2.2):=by
 refine⟨?_,?_,by simpa[ZBa]using h.L,by simpa[Zw2]using h.tok,h.le,h.same,by have:=h.gh2;cases dst <;> exact this⟩
 ·intro t sv ht v8
  subst ht
  simp[St.put]at *
  exact hx _ v8
 ·intro t ht
  cases dst with
  | none=>simp[St.put,h.env2]
  | some d=>simp[St.put,Zas (λe=>ht (by rw[e]):t≠d),h.env2]
theorem OutB.refl(hm:m.le M):OutB rs tk g m M S1 S2 (S1,m) (S2,M):=⟨rfl,rfl,λ_=>.inr ⟨rfl,rfl⟩,λ_=>.inr ⟨rfl,rfl⟩,hm,λ_=>⟨rfl,rfl⟩,rfl⟩
theorem Out.put0(hm:m.le M)(dst:Option Tmp){x1 x2:Option SV}(hx:∀sv,x1=some sv->x2=some sv):Out rs tk g m M dst S1 S2 (S1.put dst x1,m) (S2.put dst x2,M):=
 (OutB.refl (rs:=rs) (tk:=tk) (g:=g) (S1:=S1) (S2:=S2) hm).put dst hx
theorem OutB.setL(hm:m.le M){id:Nat}(de:id∈rs)(x:Option Box):OutB rs tk g m M S1 S2 (S1.setL id x,m) (S2.setL id x,M):=by
 refine⟨rfl,rfl,λi=>?_,λ_=>.inr ⟨rfl,rfl⟩,hm,λ_=>⟨rfl,rfl⟩,rfl⟩
 by_cases hi:i=id
 ·subst hi;exact .inl ⟨de,by simp[St.setL]⟩
 ·exact .inr (by simp[St.setL,Zas hi])
theorem OutB.newL{m' M':Mem}(hm:m'.le M')(hg:g=false->m'=m/\M'=M){id:Nat}(de:id∈rs)(x:Box):OutB rs tk g m M S1 S2 (S1.newL id x,m') (S2.newL id x,M'):=by
 refine⟨rfl,rfl,λi=>?_,λ_=>.inr ⟨rfl,rfl⟩,hm,hg,rfl⟩
 by_cases hi:i=id
 ·subst hi;exact .inl ⟨de,by simp[St.newL]⟩
 ·exact .inr (by simp[St.newL,Zas hi])
end
mutual
theorem Shape.all_intro:∀(s:Shape){k:Value->Prop},(∀v,k v)->s.all k
 | .any,k,h=>by simpa only[Shape.all]using h
 | .int ki,k,h=>by simp only[Shape.all];exact λn=>h _
 | .bool,k,h=>by simp only[Shape.all];exact λn=>h _
 | .str,k,h=>by simp only[Shape.all];exact λn=>h _
 | .slice,k,h=>by simp only[Shape.all];exact λ_ _ _=>h _
 | .agg l,k,h=>by simp only[Shape.all];exact Shape.allL_intro l (λvs=>h _)
 | .tup l,k,h=>by simp only[Shape.all];exact Shape.allL_intro l (λvs=>h _)
 | .fn,k,h=>by simp only[Shape.all];exact λ_ _ _=>h _
 | .cells,k,h=>by simp only[Shape.all];exact λ_=>h _
 | .ptr,k,h=>by simp only[Shape.all];exact λ_ _=>h _
theorem Shape.allL_intro:∀(l:List Shape){k:List Value->Prop},(∀v,k v)->Shape.allL l k
 | [],k,h=>by simp only[Shape.allL];exact h _
 | s::l,k,h=>by simp only[Shape.allL];exact Shape.all_intro s (λv=>Shape.allL_intro l (λvs=>h _))
end
theorem allL_intro:∀{n:Nat} {k:List (List Value)->Prop},(∀l,l.length=n->k l)->allL n k
 | 0,k,h=>h [] rfl
 | n+1,k,h=>λcs=>allL_intro (λl hl=>h (cs::l) (by simp[hl]))
def Env.fixed(E:Env)(f:List Value->Mem->Value->Mem->List (List Value)->Prop):Env:={ E with fix:=some f }
section
variable {rs:List Nat} {tk:Option Nat} {g:Bool} {S1 S2:St} {m M:Mem}
theorem Zsb{E:Env}{f:List Value->Mem->Value->Mem->List (List Value)->Prop}(hs:Less S1 S2)(eD:∀id x,S1.L id=some x->id∈rs)(hm:m.le M){T:TypeId}{x:Operand}{v:Value}:
  LC (λK:St×Mem->Prop=>ZfW (E.fixed f) S1 T x v λS'=>K (S',m)) (λK:St×Mem->Prop=>ZfW E S2 T x v λS'=>K (S',M)) (OutB rs tk g m M S1 S2):=by
 unfold ZfW
 show LC (λK=>match E.tt T with
  | none=>False
  | some i=>_) _ _
 cases E.tt T with
 | none=>exact LC.false
 | some i=>
  simp only
  cases he:S1.ev x with
  | none=>exact LC.false
  | some sv=>
   simp only[hs.ev he]
   cases sv with
   | loc id off=>
    simp only
    cases hx:S1.L id with
    | none=>exact LC.false
    | some bx=>
     simp only[hs.L id bx hx]
     refine LC.chk λ_=>?_
     cases(bx.full&&(Nat.beq bx.cap i.size&&Nat.beq off 0)) <;> simp only[cond_true,cond_false]
     ·exact LC.chk λ_=>LC.ret (OutB.setL hm (eD id bx hx) _)
     ·exact LC.ret (OutB.setL hm (eD id bx hx) _)
   | v u=>
    simp only
    show LC (λK=>match ZeV E x with
     | none=>False
     | some id=>_) _ _
    cases ZeV E x with
    | none=>exact LC.false
    | some id=>
     simp only
     cases hx:S1.L id with
     | none=>exact LC.false
     | some bx=>
      simp only[hs.L id bx hx]
      refine LC.chk λ_=>?_
      rintro⟨h1,h2,_⟩
      exact⟨h1,h2,_,λK hK=>hK.2.2,OutB.setL hm (eD id bx hx) _⟩
   | sl id n c=>exact LC.false
theorem ZuP{E:Env}{f:List Value->Mem->Value->Mem->List (List Value)->Prop}(hs:Less S1 S2)(eD:∀id x,S1.L id=some x->id∈rs)(hm:m.le M){T:TypeId}{id:Nat}{vd vs:Value}:
  LC (λK:Int×(St×Mem)->Prop=>Zo1 (E.fixed f) S1 m T id vd vs λn S'=>K (n,(S',m))) (λK:Int×(St×Mem)->Prop=>Zo1 E S2 M T id vd vs λn S'=>K (n,(S',M))) (λy1 y2=>y1.1=y2.1/\OutB rs tk g m M S1 S2 y1.2 y2.2/\y1.2.2=m/\y2.2.2=M):=by
 unfold Zo1
 show LC (λK=>match Zau E T with
  | none=>False
  | some (e,j)=>_) _ _
 cases Zau E T with
 | none=>exact LC.false
 | some ej=>
  obtain⟨e,j⟩:=ej
  simp only
  cases hx:S1.L id with
  | none=>exact LC.false
  | some bx=>
   simp only[hs.L id bx hx]
   refine LC.chk λ_=>?_
   intro h wb
   have hf:m.free bx.b:=λo=>by
    cases he:m bx.b o with
    | none=>rfl
    | some u=>have:=hm _ _ _ he;rw[wb o]at this;cases this
   obtain⟨o,xs,h1,h2,h3,h4,h5,_⟩:=h hf
   refine⟨o,xs,h1,h2,h3,h4,h5.imp_left (λh=>h.mono hm),(_,(S1.setL id (some { bx with cs:=ZaH bx.cs o xs }),m)),λK hK=>?_,rfl,OutB.setL hm (eD id bx hx) _,rfl,rfl⟩
   obtain⟨o',xs',g1,g2,g3,g4,g5,g6⟩:=hK hf
   rw[h1]at g1
   obtain rfl:o=o':=by simpa using g1
   have hl:xs.length=xs'.length:=by rw[h2,g2]
   have dH:∀{as:Option Addr} {ys:List Value} {p:Nat},rowRd m as ys->as=some ⟨bx.b,p,none⟩->ys=[]:=λ{as ys p} hy ha=>by
    rcases hy with hy|⟨b1,o1,fb,hy⟩
    ·exact hy
    ·rw[ha]at fb
     simp only[Option.some.injEq,Addr.mk.injEq,and_true]at fb
     obtain⟨rfl,rfl⟩:=fb
     cases mA:ys with
     | nil=>rfl
     | cons u l=>subst mA;have:=hy 0 u rfl;rw[hf]at this;cases this
   have rP:xs=xs':=by
    rcases h5 with h5|⟨p,hp,h5⟩
    ·rcases g5 with g5|⟨p',hp',g5⟩
     ·exact Zeu h5 g5 hl
     ·have:=dH h5 hp';subst this
      exact(List.eq_nil_of_length_eq_zero hl.symm).symm
    ·rcases g5 with g5|⟨p',hp',g5⟩
     ·have:=dH g5 hp;subst this
      exact List.eq_nil_of_length_eq_zero hl
     ·rw[hp]at hp'
      obtain rfl:p=p':=by simpa using hp'
      apply List.ext_getElem?
      intro i
      by_cases hi:i < xs.length
      ·have e1:=h5 i _ (zA3 hi)
       have e2:=g5 i _ (zA3 (by omega))
       rw[e1]at e2
       rw[zA3 hi,zA3 (by omega)]
       exact e2
      ·rw[List.getElem?_eq_none (by omega),List.getElem?_eq_none (by omega)]
   subst rP
   exact g6
theorem ZgB(hs:Less S1 S2):∀{ids:List Nat} {bxs:List Box},ZbO S1 ids=some bxs->ZbO S2 ids=some bxs
 | [],bxs,h=>h
 | id::l,bxs,h=>by
  simp only[ZbO]at *
  cases hx:S1.L id with
  | none=>simp[hx]at h
  | some x=>
   simp only[hx]at h
   simp only[hs.L id x hx]
   cases hb:ZbO S1 l with
   | none=>simp[hb]at h
   | some xs=>simp only[hb]at h;simp only[ZgB hs hb];exact h
theorem ZuQ{E:Env}(hE:E.fix=none){f:List Value->Mem->Value->Mem->List (List Value)->Prop}(hs:Less S1 S2)(eD:∀id x,S1.L id=some x->id∈rs)(hm:m.le M){rt:TypeId}{gg:FuncId}{args:List Value}{ids:List Nat}{γ:Value->St->Option SV}:
  LC (λK:Value×(St×Mem)->Prop=>Zmc (E.fixed f) S1 m rt gg args ids λv S' m'=>K (v,(S',m'))) (λK:Value×(St×Mem)->Prop=>Zmc E S2 M rt gg args ids λv S' m'=>K (v,(S',m'))) (λy1 y2=>y1.1=y2.1/\OutB rs tk true m M S1 S2 y1.2 y2.2):=by
 intro h
 unfold Zmc at *
 cases hb:ZbO S1 ids with
 | none=>simp[hb]at h
 | some bxs=>
  simp only[hb]at h
  simp only[ZgB hs hb]
  obtain⟨h1,R,h0,fP,ee,_⟩:=Zag h
  have h0':R=f args m:=h0
  obtain⟨aH,cJ⟩:=ZcA hb
  simp only[zA7]at h1
  have eN:=ZaZ h1.2
  refine Zaa (by simp[h1.1,h1.2]) ⟨λv M' css=>∃m',m.le m'/\m'.le M'/\R v m' css,by rw[hE];trivial,fP.frame hm,λv m' css ⟨_,_,_,hR⟩=>ee _ _ _ hR,?_⟩
  refine Shape.all_intro _ λv M' hM'=>allL_intro λcss fg ⟨m',g1,g2,hR⟩=>⟨(v,(Zdr S1 ids bxs css,m')),λK hK=>?_,rfl,?_⟩
  ·obtain⟨_,R',h0'',_,_,cR⟩:=Zag hK
   have h0''':R'=f args m:=h0''
   have rQ:R'=R:=by rw[h0''',h0']
   subst rQ
   exact Zgm (Shape.all_fits _ _ cR v (ee _ _ _ hR) m' g1) css fg hR
  ·refine⟨by rw[Zdf],by rw[Zdf],λid=>?_,λk=>.inr ⟨by rw[Zdf],by rw[Zdf]⟩,g2,λh=>(by cases h),by rw[Zdf]⟩
   rcases ZeL (S:=S1) eN aH fg id with⟨a1,a2⟩|⟨i,x,cs,a1,a2,a3,a4⟩
   ·rcases ZeL (S:=S2) eN aH fg id with⟨b1,b2⟩|⟨i',x',cs',b1,b2,b3,b4⟩
    ·exact .inr ⟨a2,b2⟩
    ·exact absurd (zA2 b1) a1
   ·rcases ZeL (S:=S2) eN aH fg id with⟨b1,b2⟩|⟨i',x',cs',b1,b2,b3,b4⟩
    ·exact absurd (zA2 a1) b1
    ·obtain⟨id',c1,c2⟩:=cJ i x a2
     rw[a1]at c1;cases c1
     have hi:=(zA0 a1).1
     have:i=i':=(List.getElem?_inj hi eN).1 (by rw[a1,b1])
     subst this
     rw[a2]at b2;rw[a3]at b3;cases b2;cases b3
     exact .inl ⟨eD _ _ c2,by rw[a4,b4]⟩
theorem Zsc{E:Env}(hE:E.fix=none){f:List Value->Mem->Value->Mem->List (List Value)->Prop}{rt:TypeId}{gg:FuncId}{args:List Value}{key esz:Nat}(fj:tk=some key)(hm:m.le M):
  LC (λK:Value×(St×Mem)->Prop=>ZiO (E.fixed f) S1 m rt gg args key esz λv S' m'=>K (v,(S',m'))) (λK:Value×(St×Mem)->Prop=>ZiO E S2 M rt gg args key esz λv S' m'=>K (v,(S',m'))) (λy1 y2=>y1.1=y2.1/\OutB rs tk true m M S1 S2 y1.2 y2.2):=by
 rintro⟨R,h0,fP,ee,_⟩
 have h0':R=f args m:=h0
 refine⟨λv M' _=>∃m',m.le m'/\m'.le M'/\R v m' [],?_⟩
 rw[hE]
 refine⟨fP.frame hm,λv m' css ⟨_,_,_,hR⟩=>ee _ _ _ hR,?_⟩
 refine Shape.all_intro _ λv M' hM' ⟨m',g1,g2,hR⟩=>⟨(v,({ S1 with tok:=λk=>bif Nat.beq k key then some ⟨v,esz⟩ else S1.tok k,tkeys:=key::S1.tkeys },m')),λK hK=>?_,rfl,?_⟩
 ·obtain⟨R',h0'',_,_,cR⟩:=hK
  have h0''':R'=f args m:=h0''
  have rQ:R'=R:=by rw[h0''',h0']
  subst rQ
  exact Shape.all_fits _ _ cR v (ee _ _ _ hR) m' g1 hR
 ·refine⟨rfl,rfl,λid=>.inr ⟨rfl,rfl⟩,λk=>?_,g2,λh=>(by cases h),rfl⟩
  by_cases hk:k=key
  ·subst hk;exact .inl ⟨fj,by simp⟩
  ·exact .inr (by simp[Zas hk])
theorem Zpt{E:Env}{f:List Value->Mem->Value->Mem->List (List Value)->Prop}(hm:m.le M){T xT:TypeId}{key:Nat}{vs vx:Value}(fj:tk=some key)(aS:∀k,tk=some k->S1.tok k=S2.tok k):
  LC (λK:Value×(St×Mem)->Prop=>Zd0 (E.fixed f) S1 m T xT key vs vx λv t m'=>K (v,({ S1 with tok:=t,tkeys:=key::S1.tkeys },m'))) (λK:Value×(St×Mem)->Prop=>Zd0 E S2 M T xT key vs vx λv t m'=>K (v,({ S2 with tok:=t,tkeys:=key::S2.tkeys },m'))) (λy1 y2=>y1.1=y2.1/\OutB rs tk true m M S1 S2 y1.2 y2.2):=by
 unfold Zd0
 show LC (λK=>match Zau E T with
  | none=>False
  | some (_,j)=>match Zau E xT with
   | none=>False
   | some (_,j')=>_) _ _
 cases Zau E T with
 | none=>exact LC.false
 | some ej=>
  cases Zau E xT with
  | none=>exact LC.false
  | some ej'=>
   simp only
   refine LC.chk λ_=>?_
   have oL:LC (λK:Value×(St×Mem)->Prop=>Zzq (E.fixed f) S1 m ej.2 key vs vx λv t m'=>K (v,({ S1 with tok:=t,tkeys:=key::S1.tkeys },m'))) (λK:Value×(St×Mem)->Prop=>Zzq E S2 M ej.2 key vs vx λv t m'=>K (v,({ S2 with tok:=t,tkeys:=key::S2.tkeys },m'))) (λy1 y2=>y1.1=y2.1/\OutB rs tk true m M S1 S2 y1.2 y2.2):=?body
   case body=>
    unfold Zzq
    rintro⟨ht,xs,ys,a1,a2,a3,a4,a5,a6,a7,_⟩
    rw[aS key fj]at ht
    refine⟨ht,xs,ys,a1,a2,a3.mono hm,a4.mono hm,a5,a6,a7,λa' c' M' hM' hr=>?_⟩
    refine ZrU λoM cS=>⟨(.slice a' (slN vs+slN vx) c',({ S1 with tok:=(λk=>bif Nat.beq k key then some ⟨.slice a' (slN vs+slN vx) c',ej.2.size⟩ else S1.tok k),tkeys:=key::S1.tkeys },M')),λK hK=>?_,rfl,⟨rfl,rfl,λ_=>.inr ⟨rfl,rfl⟩,λk=>?_,Mem.le_refl _,λh=>(by cases h),rfl⟩⟩
    ·obtain⟨_,xs',ys',b1,b2,b3,b4,_,_,_,b8⟩:=hK
     rw[Zeu a3 b3 (by omega),Zeu a4 b4 (by omega)]at hr
     exact Zk8 (b8 a' c' M' (mLt hm hM') hr) (λht=>(oM ht).mono hm) cS
    ·by_cases hk:k=key
     ·subst hk;exact .inl ⟨fj,by simp⟩
     ·exact .inr (by simp[Zas hk])
   exact oL
end
theorem Mem.add_le{m M:Mem}(h:m.le M)(b:Nat)(cs:List Value):(m.add b cs).le (M.add b cs):=⟨λb' o v hv=>by
 by_cases hb:b'=b
 ·subst hb;rw[Mem.add_same]at hv ⊢;exact hv
 ·rw[Mem.add_other _ hb]at hv ⊢;exact h _ _ _ hv,h.k⟩
theorem ZfE{S1 S2:St}(hs:Less S1 S2):∀{l:List Operand} {k:List Value->Prop},wvs S1 l k->Zen S1 l=Zen S2 l
 | [],k,h=>rfl
 | x::l,k,h=>by
  obtain⟨v,hv,h⟩:=Zaw h
  have ih:=ZfE hs h
  unfold St.val at hv
  cases he:S1.ev x with
  | none=>simp[he]at hv
  | some sv=>
   simp only[Zen,he,hs.ev he,ih]
   cases sv with
   | loc id off=>
    simp only[he,St.den]at hv
    cases hx:S1.L id with
    | none=>simp[hx]at hv
    | some x=>simp only[hx,hs.L id x hx]
   | _=>rfl
theorem MapFind.unique{P:Program}{T:TypeId}{k:Value}(w:World):∀{es:List (Value×Value)} {r r':Option Value},MapFind P T k es r->MapFind P T k es r'->r=r'
 | [],r,r',h,h'=>by
  simp only[MapFind]at h h'
  rw[h,h']
 | e::es,r,r',h,h'=>by
  simp only[MapFind]at h h'
  rcases h with⟨h1,h2⟩|⟨h1,h2⟩ <;> rcases h' with⟨h3,h4⟩|⟨h3,h4⟩
  ·rw[h2,h4]
  ·exact absurd (EqIs.unique w h1 h3) (by simp)
  ·exact absurd (EqIs.unique w h1 h3) (by simp)
  ·exact MapFind.unique w h2 h4
theorem LookIs.unique{P:Program}{T:TypeId}{k:Value}(w:World){es:List (Value×Value)}{z v v':Value}{o o':Bool}(h:LookIs P T k es z v o)(h':LookIs P T k es z v' o'):v=v'/\o=o':=by
 obtain⟨r,h1,h2,h3⟩:=h
 obtain⟨r',h4,h5,h6⟩:=h'
 cases MapFind.unique w h1 h4
 exact⟨h2.trans h5.symm,h3.trans h6.symm⟩
def Zw3(E:Env)(tk:Option Nat)(d:Option Tmp):Bool:=match ZcL E d with
 | none=>true
 | some ke=>(match tk with
  | some k=>Nat.beq ke.1 k
  | none=>false)
def ZtN(E:Env)(rs:List Nat)(tk:Option Nat)(o:Oper):Bool:=match o.op with
 | .alloc _=>(match o.dst with
  | some d=>rs.any (Nat.beq d ·)
  | none=>false)
 | .box _ _=>(match o.dst with
  | some d=>rs.any (Nat.beq d ·)
  | none=>false)
 | .buildSlice _ _ _=>(match o.dst with
  | some d=>rs.any (Nat.beq d ·)
  | none=>false)
 | .makeSlice _ _ _=>(match o.dst with
  | some d=>rs.any (Nat.beq d ·)
  | none=>false)
 | .call c=>(match c.callee with
  | .builtin .append=>(match o.dst,tk with
   | some d,some k=>Nat.beq (E.tokOf d) k&&!E.app0 d
   | _,_=>false)
  | _=>(ZdY E o.dst).isNone&&Zw3 E tk o.dst)
 | .store _ x _=>(match ZmZ E x with
  | none=>true
  | some _=>false)
 | .mapUpdate _ _ _ _=>false
 | _=>true
theorem Zks{E:Env}{rs:List Nat}{tk:Option Nat}{o:Oper}(h:ZtN E rs tk o=true):Znc E o:=by
 refine⟨λT x y e=>?_,λf as ats e=>?_,λT x y z e=>?_⟩
 ·unfold ZtN at h
  rw[e]at h
  cases hs:ZmZ E x with
  | none=>rfl
  | some k=>simp[hs]at h
 ·unfold ZtN at h
  rw[e]at h
  have h:((ZdY E o.dst).isNone&&Zw3 E tk o.dst)=true:=h
  rw[zA7]at h
  simpa using h.1
 ·unfold ZtN at h
  rw[e]at h
  cases h
def Znm(rs:List Nat)(o:Oper):List Nat:=match o.op with
 | .alloc _=>dl o.dst
 | .box _ _=>dl o.dst
 | .buildSlice _ _ _=>dl o.dst
 | .makeSlice _ _ _=>dl o.dst
 | .store _ _ _=>rs
 | .call c=>(match c.callee with
  | .value _=>rs
  | .builtin .copy=>rs
  | _=>[])
 | _=>[]
def Zdt(o:Oper):Bool:=match o.op with
 | .buildSlice _ _ _=>true
 | .call c=>(match c.callee with
  | .value _=>true
  | .builtin .append=>true
  | _=>false)
 | _=>false
section
variable {rs:List Nat} {tk:Option Nat} {S1 S2:St} {m M:Mem}
theorem Zzt{E:Env}(w:World)(hE:E.fix=none){f:List Value->Mem->Value->Mem->List (List Value)->Prop}(hs:Less S1 S2)(eD:∀id x,S1.L id=some x->id∈rs)(hL:∀id∈rs,S1.L id=S2.L id)
  (aS:∀k,tk=some k->S1.tok k=S2.tok k) (hm:m.le M) {o:Oper} (gS:ZtN E rs tk o=true):
  LC (λK:St×Mem->Prop=>opW (E.fixed f) S1 m o λS' m'=>K (S',m')) (λK:St×Mem->Prop=>opW E S2 M o λS' m'=>K (S',m')) (Out (Znm rs o) tk (Zdt o) m M o.dst S1 S2):=by
 have eU:∀(rs:List Nat)(g:Bool)(o:Oper),LC (λK:St×Mem->Prop=>Zcq (E.fixed f) S1 o λsv=>K (S1.put o.dst (some sv),m)) (λK:St×Mem->Prop=>Zcq E S2 o λsv=>K (S2.put o.dst (some sv),M)) (Out rs tk g m M o.dst S1 S2):=λrs g o=>by
  refine LC.map (f:=λsv=>(S1.put o.dst (some sv),m)) (g:=λsv=>(S2.put o.dst (some sv),M)) (ρ:=Eq) (T1:=λK=>Zcq (E.fixed f) S1 o K) (T2:=λK=>Zcq E S2 o K) ?_ ?_ ?_
  ·exact(ZuO w hs:LE (Zcq E S1 o) (Zcq E S2 o))
  ·rintro a b rfl
   exact Out.put0 hm _ (λsv h=>h)
  ·exact λh=>Zkk h
 obtain⟨dst,op,type,pos,after,guard⟩:=o
 have gZ:∀(rs:List Nat)(g:Bool)(x:Operand),LC (λK:St×Mem->Prop=>K (S1.put dst (S1.ev x),m)) (λK:St×Mem->Prop=>K (S2.put dst (S2.ev x),M)) (Out rs tk g m M dst S1 S2):=λrs g x=>LC.ret (Out.put0 hm _ (λsv h=>hs.ev h))
 have bN:∀{g:Bool} {d:Nat} {x:Box} {sv:SV},Out [d] tk g m M (some d) S1 S2 ((S1.newL d x).put (some d) (some sv),m) ((S2.newL d x).put (some d) (some sv),M):=λ{g d x sv}=>(OutB.newL hm (λ_=>⟨rfl,rfl⟩) (by simp) x).put (some d) (λsv h=>h)
 cases op with
 | move x=>exact gZ _ _ x
 | assign x=>exact gZ _ _ x
 | pick c x y=>exact Zcm hs λv=>LC.chk λ_=>LC.br (gZ _ _ x) (gZ _ _ y)
 | load T x=>
  have hq:ZtD (E.fixed f) dst=ZtD E dst:=rfl
  simp only[opW,hq]
  cases nI:ZtD E dst with
  | some y=>
   refine LC.map (f:=λv=>(S1.put dst (some (.v v)),m)) (g:=λv=>(S2.put dst (some (.v v)),M)) (ρ:=Eq) (T1:=λK=>ZeW (E.fixed f) S1 m T x λv=>ldW y v K) (T2:=λK=>ZeW E S2 M T x λv=>ldW y v K) ?_ ?_ ?_
   ·intro h
    have h1:=(Zqs hs hm:LE (ZeW E S1 m T x) (ZeW E S2 M T x)) (Zc8 (λ_ _=>trivial) h)
    refine Zc8 (λv ⟨v1,g1,g2⟩=>?_) h1
    subst g2
    exact ZrR (g1 _ h) ⟨v1,λK hK=>Zqg (g1 _ hK),rfl⟩
   ·rintro a b rfl
    exact Out.put0 hm _ (λsv h=>h)
   ·exact λh=>Zc8 λv=>Zqh h
  | none=>
  refine LC.map (f:=λv=>(S1.put dst (some (.v v)),m)) (g:=λv=>(S2.put dst (some (.v v)),M)) (ρ:=Eq) (T1:=λK=>ZeW (E.fixed f) S1 m T x K) (T2:=λK=>ZeW E S2 M T x K) ?_ ?_ ?_
  ·exact(Zqs hs hm:LE (ZeW E S1 m T x) (ZeW E S2 M T x))
  ·rintro a b rfl
   exact Out.put0 hm _ (λsv h=>h)
  ·exact λh=>Zc8 h
 | store T x y=>
  refine Zcm hs λv=>?_
  show LC (λK=>match ZmZ E x with
   | none=>_
   | some key=>bif (E.fixed f).fix.isSome then False else _) (λK=>match ZmZ E x with
   | none=>_
   | some key=>_) _
  cases ZmZ E x with
  | some key=>exact LC.false
  | none=>
  refine LC.map (f:=λy:St×Mem=>(y.1.put dst none,m)) (g:=λy:St×Mem=>(y.1.put dst none,M)) (ρ:=λy1 y2=>OutB rs tk false m M S1 S2 y1 y2/\y1.2=m/\y2.2=M) ?_ ?_ ?_ (T1:=λK=>ZfW (E.fixed f) S1 T x v λS'=>K (S',m)) (T2:=λK=>ZfW E S2 T x v λS'=>K (S',M))
  ·exact λh=>ZfA (λS' _ ⟨y1,g1,g2⟩=>⟨(y1.1,m),λK hK=>g1 (λy=>K (y.1,m)) hK,⟨g2.env1,g2.env2,g2.L,g2.tok,hm,λ_=>⟨rfl,rfl⟩,g2.gh2⟩,rfl,rfl⟩) (Zsb (tk:=tk) (rs:=rs) (g:=false) hs eD hm h)
  ·rintro a b ⟨h1,h2,h3⟩
   have:=h1.put dst (x1:=none) (x2:=none) (λsv h=>h)
   rw[h2,h3]at this;exact this
  ·exact λh=>ZfA (λS' _=>h _)
 | alloc T=>
  simp only[opW,ZrT,ZtN]at *
  cases dst with
  | none=>exact LC.false
  | some d=>
   simp only
   show LC (λK=>match E.tt T with
    | none=>False
    | some i=>_) _ _
   cases E.tt T with
   | none=>exact LC.false
   | some i=>
    simp only at gS ⊢
    rw[hL d (ZeP.1 gS)]
    cases hx:S2.L d with
    | some x=>exact LC.false
    | none=>exact λ_ b=>⟨_,λK hK=>hK b,bN⟩
 | box T x=>
  refine Zcm hs λv=>?_
  show LC (λK=>bif Zfs E dst then(bif (E.fixed f).fix.isSome then False else _)else _) (λK=>bif Zfs E dst then _ else _) _
  cases mC:Zfs E dst with
  | true=>exact LC.false
  | false=>
  simp only[cond_false]
  simp only[ZA5,ZtN]at *
  cases dst with
  | none=>exact LC.false
  | some d=>
   simp only
   show LC (λK=>match E.tt T with
    | none=>False
    | some i=>_) _ _
   cases E.tt T with
   | none=>exact LC.false
   | some i=>
    simp only at gS ⊢
    rw[hL d (ZeP.1 gS)]
    cases hx:S2.L d with
    | some x=>exact LC.false
    | none=>exact LC.chk λ_ _ b=>⟨_,λK hK=>hK b,bN⟩
 | buildSlice T len parts=>
  simp only[opW]
  have hq:ZcL (E.fixed f) dst=ZcL E dst:=rfl
  simp only[hq]
  cases gD:ZcL E dst with
  | some ke=>exact LC.false
  | none=>
  simp only[ZdZ,ZtN]at *
  cases dst with
  | none=>exact LC.false
  | some d=>
   simp only
   show LC (λK=>match E.tt T with
    | none=>False
    | some t=>match t.d with
     | .slice e=>match E.tt e with
      | none=>False
      | some i=>_
     | _=>False) _ _
   cases E.tt T with
   | none=>exact LC.false
   | some t=>
    simp only
    cases t.d <;> simp only <;> try exact LC.false
    rename_i e
    cases E.tt e with
    | none=>exact LC.false
    | some i=>
     simp only at gS ⊢
     rw[hL d (ZeP.1 gS)]
     cases hx:S2.L d with
     | some x=>exact LC.false
     | none=>
      refine LC.chk λ_=>Zlp hs λvs=>LC.chk λ_ _ b hb=>⟨_,λK hK=>hK b ?_,?_⟩
      ·intro o
       cases he:m b o with
       | none=>rfl
       | some v=>have:=hm _ _ _ he;rw[hb o]at this;cases this
      ·exact(OutB.newL (Mem.add_le hm b (Zbz vs)) (λh=>by cases h) (by simp[Znm,dl]) _).put (some d) (λsv h=>h)
 | lookup T x y ok=>
  simp only[opW,Zwo]
  refine Zcm hs λvm=>Zcm hs λvk=>?_
  have hq:Zo2 (E.fixed f) T=Zo2 E T:=rfl
  rw[hq]
  cases Zo2 E T with
  | none=>exact LC.false
  | some q=>
   obtain⟨k,ei⟩:=q
   rintro⟨b,es,v,r,rfl,h2,h3,h4,_⟩
   refine⟨b,es,v,r,rfl,hm.k b es h2,h3,h4,_,λK hK=>?_,Out.put0 hm dst (λsv h=>h)⟩
   obtain⟨b',es',v',r',e',h2',h3',h4',hK⟩:=hK
   cases e'
   rw[h2]at h2';cases h2'
   obtain⟨rfl,rfl⟩:=LookIs.unique w h4 h4'
   exact hK
 | mapUpdate T x y z=>exact LC.false
 | makeMap T r=>exact LC.false
 | makeSlice T l c=>
  have hq:ZcL (E.fixed f) dst=ZcL E dst:=rfl
  simp only[opW,hq]
  cases gD:ZcL E dst with
  | some ke=>exact LC.false
  | none=>
  simp only[Zwn,ZtN]at *
  cases dst with
  | none=>exact LC.false
  | some d=>
   simp only
   show LC (λK=>match Zau E T with
    | none=>False
    | some (e,j)=>_) _ _
   cases Zau E T with
   | none=>exact LC.false
   | some ej=>
    simp only at gS ⊢
    rw[hL d (ZeP.1 gS)]
    cases hx:S2.L d with
    | some x=>exact LC.false
    | none=>exact Zcm hs λv=>Zcm hs λv'=>LC.chk λ_ ⟨h1,_⟩=>⟨h1,λb=>⟨_,λK hK=>hK.2 b,bN⟩⟩
 | convert s d x=>
  simp only[opW]
  show LC (λK=>bif ZcB E s d then _ else _) _ _
  cases ZcB E s d with
  | false=>
   simp only[cond_false]
   show LC (λK=>bif ZcC E s d then _ else _) _ _
   cases ZcC E s d with
   | false=>exact eU _ _ ⟨dst,.convert s d x,type,pos,after,guard⟩
   | true=>
    simp only[cond_true]
    have e2:∀k,Zla E S2 M x k=ZbB S2 M x k:=λk=>by unfold Zla;rw[hE];rfl
    have e1:∀k,Zla (E.fixed f) S1 m x k=Zd2 S1 m x k:=λk=>rfl
    simp only[e1,e2]
    refine LC.map (f:=λv=>(S1.put dst (some (.v v)),m)) (g:=λv=>(S2.put dst (some (.v v)),M)) (ρ:=Eq) (T1:=λK=>Zd2 S1 m x K) (T2:=λK=>ZbB S2 M x K) ?_ ?_ ?_
    ·exact Zps hs hm
    ·rintro a b rfl
     exact Out.put0 hm _ (λsv h=>h)
    ·exact λh=>ZeO h
  | true=>exact LC.false
 | call c=>
  obtain⟨callee,args,argTypes⟩:=c
  cases callee with
  | value g=>
   simp only[opW,ZwL]
   show LC (λK=>match ZeM E dst with
    | []=>_
    | ids=>bif (E.fixed f).fix.isSome then False else _) (λK=>match ZeM E dst with
    | []=>_
    | ids=>_) _
   cases wd:ZeM E dst with
   | cons i l=>exact LC.false
   | nil=>
   simp only[ZwN]
   have jb:ZdY E dst=none:=(Zks gS).2.1 _ _ _ rfl
   have rR:ZdY (E.fixed f) dst=none:=jb
   cases he:S1.ev g with
   | none=>exact LC.false
   | some sv=>
    simp only[hs.ev he]
    cases sv with
    | loc id off=>exact LC.false
    | sl id n c=>exact LC.false
    | v u=>
     cases u <;> try exact LC.false
     rename_i fv first captured
     cases fv <;> try exact LC.false
     rename_i gg
     have ju:ZtA (E.fixed f) dst=ZtA E dst:=rfl
     have we:ZtE (E.fixed f) dst=ZtE E dst:=rfl
     simp only[we]
     cases kG:ZtE E dst with
     | true=>exact LC.false
     | false=>
     simp only[cond_false]
     simp only[ju,jb,rR]
     cases nJ:ZtA E dst with
     | true=>exact LC.false
     | false=>
     simp only[cond_false]
     have hq:ZcL (E.fixed f) dst=ZcL E dst:=rfl
     simp only[hq]
     cases gD:ZcL E dst with
     | some ke=>
      intro h
      have wg:ZdF (E.fixed f) dst=ZdF E dst:=rfl
      simp only[wg]at h ⊢
      have fj:tk=some ke.1:=by
       have oN:((ZdY E dst).isNone&&Zw3 E tk dst)=true:=gS
       rw[zA7]at oN
       have h2:=oN.2
       unfold Zw3 at h2
       rw[gD]at h2
       cases tk with
       | none=>cases h2
       | some k=>rw[Nat.eq_of_beq_eq_true h2]
      cases rS:Zen S1 args.toList++ZdF E dst with
      | cons i l=>
       simp only[rS]at h
      | nil=>
       simp only[rS]at h
       have mH:=ZfE hs h
       rw[<-mH,rS]
       revert h
       show LC (λK:St×Mem->Prop=>wvs S1 args.toList λvs=>ZiO (E.fixed f) S1 m type gg (first.toList++vs++captured.toList) ke.1 ke.2 λv S' m'=>K (S'.put dst (some (SV.v v)),m'))
        (λK:St×Mem->Prop=>wvs S2 args.toList λvs=>ZiO E S2 M type gg (first.toList++vs++captured.toList) ke.1 ke.2 λv S' m'=>K (S'.put dst (some (SV.v v)),m')) _
       refine Zlp hs λvs=>?_
       refine LC.map (f:=λy:Value×(St×Mem)=>(y.2.1.put dst (some (.v y.1)),y.2.2)) (g:=λy:Value×(St×Mem)=>(y.2.1.put dst (some (.v y.1)),y.2.2)) (Zsc (rs:=rs) (tk:=tk) hE (f:=f) fj hm) ?_ ?_
       ·rintro⟨v1,y1⟩ ⟨v2,y2⟩ ⟨rfl,h2⟩
        exact h2.put dst (λsv h=>h)
       ·exact λh=>Zik (λv S' m' _ _=>h _)
     | none=>
     intro h
     have mH:=ZfE hs h
     revert h
     rw[<-mH]
     show LC (λK:St×Mem->Prop=>wvs S1 args.toList λvs=>Zmc (E.fixed f) S1 m type gg (first.toList++vs++captured.toList) (Zen S1 args.toList++ZdF E dst) λv S' m'=>K (S'.put dst (some (SV.v v)),m'))
      (λK:St×Mem->Prop=>wvs S2 args.toList λvs=>Zmc E S2 M type gg (first.toList++vs++captured.toList) (Zen S1 args.toList++ZdF E dst) λv S' m'=>K (S'.put dst (some (SV.v v)),m')) _
     refine Zlp hs λvs=>?_
     refine LC.map (f:=λy:Value×(St×Mem)=>(y.2.1.put dst (some (.v y.1)),y.2.2)) (g:=λy:Value×(St×Mem)=>(y.2.1.put dst (some (.v y.1)),y.2.2)) (ZuQ (rs:=rs) (tk:=tk) (γ:=λ_ _=>none) hE (f:=f) hs eD hm) ?_ ?_
     ·rintro⟨v1,y1⟩ ⟨v2,y2⟩ ⟨rfl,h2⟩
      exact h2.put dst (λsv h=>h)
     ·exact λh=>Zkm (λv S' m' _ _=>h _)
  | invoke r mm=>
   simp only[opW]
   exact eU _ _ ⟨dst,_,type,pos,after,guard⟩
  | builtin b=>
   cases b with
   | append=>
    simp only[opW,ZtN]at *
    split
    ·rename_i s x T xT d _ _
     cases fj:tk with
     | none=>simp[fj]at gS
     | some key=>
      simp only[fj,zA7]at gS
      have h0:E.app0 d=false:=by simpa using gS.2
      have e0:(E.fixed f).app0 d=false:=h0
      obtain rfl:=Nat.eq_of_beq_eq_true gS.1
      simp only[ZwL]
      show LC (λK=>match ZeM E (some d)with
       | []=>_
       | ids=>bif (E.fixed f).fix.isSome then False else _) (λK=>match ZeM E (some d)with
       | []=>_
       | ids=>_) _
      cases wd:ZeM E (some d)with
      | cons i l=>exact LC.false
      | nil=>
      refine Zcm hs λv=>Zcm hs λv'=>?_
      simp only[Zgp,h0,e0,cond_false]
      have z:=Zpt (E:=E) (rs:=[]) (tk:=some (E.tokOf d)) (key:=E.tokOf d) (S1:=S1) (S2:=S2) (f:=f) (T:=T) (xT:=xT) (vs:=v) (vx:=v') hm rfl (λk hk=>aS k (fj.trans hk))
      refine LC.map z (f:=λy:Value×(St×Mem)=>(y.2.1.put (some d) (some (.v y.1)),y.2.2)) (g:=λy:Value×(St×Mem)=>(y.2.1.put (some d) (some (.v y.1)),y.2.2)) ?_ ?_
      ·rintro⟨v1,y1⟩ ⟨v2,y2⟩ ⟨rfl,h2⟩
       exact h2.put (some d) (λsv h=>h)
      ·exact λh=>Zer (λv t m' _=>h _)
    ·exact LC.false
   | copy=>
    simp only[opW,ZtN]at *
    split
    ·rename_i d s T xT _ _
     have hq:ZeV (E.fixed f) d=ZeV E d:=rfl
     simp only[hq]
     cases ZeV E d with
     | none=>exact LC.false
     | some id=>
      refine Zcm hs λv=>Zcm hs λv'=>?_
      have z:=ZuP (E:=E) (rs:=rs) (tk:=tk) (g:=false) (S1:=S1) (S2:=S2) (f:=f) (T:=T) (id:=id) (vd:=v) (vs:=v') hs eD hm
      refine LC.map z (f:=λy:Int×(St×Mem)=>(y.2.1.put dst (some (.v (.int .i64 y.1))),m)) (g:=λy:Int×(St×Mem)=>(y.2.1.put dst (some (.v (.int .i64 y.1))),M)) ?_ ?_
      ·rintro⟨n1,y1⟩ ⟨n2,y2⟩ ⟨rfl,h2,h3,h4⟩
       have:=h2.put dst (x1:=some (.v (.int .i64 n1))) (x2:=some (.v (.int .i64 n1))) (λsv h=>h)
       rw[h3,h4]at this;exact this
      ·exact λh=>Zkl (λn S' _=>h _)
    ·exact LC.false
   | _=>
    simp only[opW]
    exact eU _ _ ⟨dst,_,type,pos,after,guard⟩
 | _=>
  simp only[opW]
  exact eU _ _ ⟨dst,_,type,pos,after,guard⟩
theorem Zzu{E:Env}(w:World)(hE:E.fix=none){f:List Value->Mem->Value->Mem->List (List Value)->Prop}(hs:Less S1 S2)(eD:∀id x,S1.L id=some x->id∈rs)(hL:∀id∈rs,S1.L id=S2.L id)
  (aS:∀k,tk=some k->S1.tok k=S2.tok k) (hm:m.le M) {ops:Array Oper} {o:Oper} (gS:ZtN E rs tk o=true):
  LC (λK:St×Mem->Prop=>opG (E.fixed f) ops o S1 m λS' m'=>K (S',m')) (λK:St×Mem->Prop=>opG E ops o S2 M λS' m'=>K (S',m')) (Out (Znm rs o) tk (Zdt o) m M o.dst S1 S2):=by
 have h1:=Zzt w hE (f:=f) hs eD hL aS hm gS
 have h0:LC (λK:St×Mem->Prop=>K (S1.put o.dst (some (.v undef)),m)) (λK:St×Mem->Prop=>K (S2.put o.dst (some (.v undef)),M)) (Out (Znm rs o) tk (Zdt o) m M o.dst S1 S2):=LC.ret (Out.put0 hm _ (λsv h=>h))
 unfold opG
 cases hg:o.guard with
 | none=>exact h1
 | some jw=>
  obtain⟨j,want⟩:=jw
  simp only
  cases ops.toList[j]? with
  | none=>exact LC.false
  | some oj=>
   simp only
   cases oj.dst with
   | none=>exact LC.false
   | some t=>
    simp only
    cases he:S1.env t with
    | none=>exact LC.false
    | some sv=>
     simp only[hs.env t sv he]
     cases sv with
     | loc id off=>exact LC.false
     | sl id n c=>exact LC.false
     | v u=>
      simp only
      cases Zds u with
      | true=>exact h0
      | false=>
       refine LC.chk λ_=>?_
       cases want
       ·exact LC.br h0 h1
       ·exact LC.br h1 h0
end
def mem(l:List Nat)(i:Nat):Bool:=l.any (Nat.beq i ·)
theorem ZbD{l:List Nat}{i:Nat}:mem l i=true↔i∈l:=ZeP
def Zsd(t:Option Nat)(k:Nat):Bool:=match t with
 | some q=>Nat.beq k q
 | none=>false
theorem ZcP{t:Option Nat}{k:Nat}:Zsd t k=true↔t=some k:=by
 cases t with
 | none=>simp[Zsd]
 | some q=>
  simp only[Zsd,Option.some.injEq]
  exact⟨λh=>(Nat.eq_of_beq_eq_true h).symm,λh=>by subst h;exact Nat.beq_refl _⟩
def ZfF(o:Oper)(t:Nat):Bool:=Zsd o.dst t
def Zpu(ops:Array Oper)(d:DOp)(o:Oper)(S:St):St:=
 {env:=λt=>bif mem (o.looksAt ops) t then S.env t else none
  L:=λid=>bif mem d.rs id then S.L id else none
  ids:=S.ids
  tok:=λk=>bif Zsd d.tk k then S.tok k else none
  tkeys:=S.tkeys
  gh:=S.gh
  fo:=S.fo }
def Znn(d:DOp)(o:Oper)(S S':St):St:=
 {env:=λt=>bif ZfF o t then S'.env t else S.env t
  L:=λid=>bif mem d.ws id then S'.L id else S.L id
  ids:=S.ids
  tok:=λk=>bif Zsd d.tk k then S'.tok k else S.tok k
  tkeys:=S.tkeys
  gh:=S.gh
  fo:=S.fo }
def upd(μ:Nat->Mem)(i:Nat)(m:Mem):Nat->Mem:=λj=>bif Nat.beq j i then m else μ j
def Zo3(μ:Nat->Mem)(M:Mem):List Nat->Prop->Prop
 | [],p=>p
 | j::l,p=>(μ j).le M->Zo3 μ M l p
def Zqt(μ:Nat->Mem)(m0:Mem):List Nat->(Mem->Prop)->Prop
 | [],k=>k m0
 | [j],k=>k (μ j)
 | l,k=>∀V:Mem,m0.le V->Zo3 μ V l (k V)
abbrev Fx:=Nat->List Value->Mem->Value->Mem->List (List Value)->Prop
def Ztv(E:Env)(ops:Array Oper)(m0:Mem)(f:Fx)(d:DOp)(S:St)(μ:Nat->Mem)(K:St->Mem->Prop):Prop:=match ops.toList[d.i]? with
 | none=>False
 | some o=>Zqt μ m0 d.vw λV=>opG (E.fixed (f d.i)) ops o (Zpu ops d o S) V K
def Zpv(ops:Array Oper)(d:DOp)(S S':St):St:=match ops.toList[d.i]? with
 | none=>S
 | some o=>Znn d o S S'
def Zi0(E:Env)(ops:Array Oper)(m0:Mem)(f:Fx)(d:DOp)(S:St)(μ:Nat->Mem)(K:St->(Nat->Mem)->Prop):Prop:=
 Ztv E ops m0 f d S μ λS' m'=>K (Zpv ops d S S') (upd μ d.i m')
def ZhG(E:Env)(ops:Array Oper)(m0:Mem)(f:Fx):List DOp->(St->(Nat->Mem)->Prop)->St->(Nat->Mem)->Prop
 | [],K,S,μ=>K S μ
 | d::r,K,S,μ=>Zi0 E ops m0 f d S μ (ZhG E ops m0 f r K)
def Zy1(ops:Array Oper)(d:DOp):Option Nat:=match ops.toList[d.i]? with
 | none=>none
 | some o=>ZeZ ops o
def ZhH(E:Env)(ops:Array Oper)(m0:Mem)(f:Fx):List DOp->(St->(Nat->Mem)->Prop)->St->(Nat->Mem)->Prop
 | [],K,S,μ=>K S μ
 | d::r,K,S,μ=>match Zy1 ops d with
  | none=>Zi0 E ops m0 f d S μ (ZhH E ops m0 f r K)
  | some t=>match S.env t with
   | some (.v v)=>bif Zds v then Zi0 E ops m0 f d S μ (ZhH E ops m0 f r K)else chk (Zgi v) (br (ZcJ v) (Zi0 E ops m0 f d (S.put (some t) (some (.v (.bool true)))) μ (ZhH E ops m0 f r K)) (Zi0 E ops m0 f d (S.put (some t) (some (.v (.bool false)))) μ (ZhH E ops m0 f r K)))
   | _=>False
def Zy2(m0:Mem)(μ:Nat->Mem):List Nat->(Mem->Prop)->Prop
 | [],k=>k m0
 | l,k=>∀M:Mem,m0.le M->Zo3 μ M l (k M)
def ZhI(ops:Array Oper):List DOp->List Nat
 | []=>[]
 | d::r=>match ops.toList[d.i]? with
  | none=>ZhI ops r
  | some o=>bif Zdt o then d.i::ZhI ops r else ZhI ops r
def Zw4:List DOp->List Nat
 | []=>[]
 | d::r=>d.ws++Zw4 r
def Zwu:List DOp->List Nat
 | []=>[]
 | d::r=>match d.tk with
  | none=>Zwu r
  | some k=>k::Zwu r
def Zi1(ds:List DOp)(S:St):St:={ S with ids:=Zw4 ds++S.ids,tkeys:=Zwu ds++S.tkeys }
def ZBE(a b:List Nat):Bool:=a.all λi=>!mem b i
def ZAU(a b:List Nat):Bool:=a.all λi=>mem b i
def Zse(o:Oper)(l:List Nat):Bool:=match o.dst with
 | none=>true
 | some t=>!mem l t
def Zy3(a b:Oper):Bool:=match a.dst with
 | none=>true
 | some t=>!ZfF b t
def ZBF(a b:Option Nat):Bool:=match a with
 | none=>true
 | some k=>!Zsd b k
def Zqu(ops:Array Oper)(c d:DOp):Bool:=match ops.toList[c.i]?,ops.toList[d.i]? with
 | some oc,some od=>(Zse oc (od.looksAt ops)&&Zse od (oc.looksAt ops)&&Zy3 oc od)&&(ZBE c.ws d.rs&&ZBE d.ws c.rs&&ZBF c.tk d.tk)&&(!mem d.vw c.i&&!mem c.vw d.i&&!Nat.beq c.i d.i)
 | _,_=>false
def Zc2(o:Oper):List Nat:=(o.after.toList.filter (Region.binds .any ·)).map (·.on)
def ZAr:List DOp->Nat->List Nat
 | [],_=>[]
 | d::r,i=>bif Nat.beq d.i i then d.an else ZAr r i
def Zy4(E:Env)(ops:Array Oper)(d:DOp)(before:List DOp):Bool:=match ops.toList[d.i]? with
 | none=>false
 | some o=>(ZtN E d.rs d.tk o&&ZAU (Znm d.rs o) d.ws&&ZAU d.ws d.rs)&&(ZAU d.vw d.an&&ZAU (Zc2 o) (before.map (·.i))) &&
   (d.an.all λj=>mem (Zc2 o) j||(Zc2 o).any λp=>mem (ZAr before p) j)&&(before.all λc=>mem d.an c.i||Zqu ops c d)&&(before.all λc=>!Nat.beq c.i d.i)
def ZhN(E:Env)(ops:Array Oper):List DOp->List DOp->Bool
 | [],_=>true
 | d::r,before=>Zy4 E ops d before&&ZhN E ops r (d::before)
def Zw5(E:Env)(ops:Array Oper)(ds:List DOp)(n:Nat):Bool:=(List.range n).all (λi=>ds.any λd=>Nat.beq d.i i)&&Nat.ble ds.length ops.size&&ZhN E ops ds []&&E.fix.isNone
def ZtO:List Oper->Bool
 | []=>false
 | o::l=>(match o.op with
  | .call c=>(match c.callee with
   | .value _=>true
   | _=>false)
  | _=>false)||ZtO l
def ZCg:Fx:=λ_ _ _ _ _ _=>True
def exF(b:Bool)(p:Fx->Prop):Prop:=match b with
 | true=>∃f,p f
 | false=>p ZCg
theorem ZuR{b:Bool}{p:Fx->Prop}(h:exF b p):∃f,p f:=by
 cases b
 ·exact⟨_,h⟩
 ·exact h
theorem ZuS{b:Bool}{p q:Fx->Prop}(h:∀f,p f->q f)(x:exF b p):exF b q:=by
 cases b
 ·exact h _ x
 ·obtain⟨f,x⟩:=x;exact⟨f,h f x⟩
def Zw6(ops:Array Oper)(ds:List DOp)(k:Nat):Bool:=(Nat.ble k ops.size&&(List.range k).all λj=>match ops.toList[ops.size - k+j]? with
 | none=>false
 | some o=>(Nat.beq j 0||mem (Zc2 o) (ops.size - k+j - 1))&&((Zc2 o).all (λi=>Nat.ble (i+1) (ops.size - k+j))&&(bif Nat.beq j 0 then(List.range (ops.size - k)).all (λi=>mem (Zc2 o) i||(Zc2 o).any λp=>mem (ZAr ds p) i)else true)))&&ds.all λd=>Nat.ble (d.i+1) (ops.size - k)
def Zsf(E:Env)(ops:Array Oper)(K:St->Mem->Prop):List Oper->St->Mem->Prop
 | [],S,m=>K S m
 | o::r,S,m=>ZyL E ops o S m (Zsf E ops K r)
def Zsg(E:Env)(ops:Array Oper)(k:Nat)(K:St->Mem->Prop)(S:St)(m:Mem):Prop:=Zsf E ops K (ops.toList.drop (ops.size - k)) S m
def Zno:List Nat->Bool
 | []=>true
 | _=>false
def ZAV:List Nat->(Nat->Prop)->Prop
 | [],_=>True
 | [i],p=>p i
 | i::l,p=>p i/\ZAV l p
def Zi2(ops:Array Oper)(done:List Nat):List Nat:=(List.range ops.size).filter λi=>!mem done i&&(match ops.toList[i]? with
 | none=>false
 | some o=>(Zc2 o).all (mem done))
def ZgC(E:Env)(ops:Array Oper)(K:St->Mem->Prop):Nat->List Nat->St->Mem->Prop
 | 0,done,S,m=>chk (Zno (Zi2 ops done)) (K S m)
 | f+1,done,S,m=>bif Zno (Zi2 ops done)then K S m else ZAV (Zi2 ops done) λi=>match ops.toList[i]? with
  | none=>False
  | some o=>ZyL E ops o S m (ZgC E ops K f (i::done))
def Zi3(E:Env)(id:Nat)(ops:Array Oper)(K:St->Mem->Prop)(S:St)(m:Mem):Prop:=
 bif E.hot id then chk (E.last id) (ZgC E ops K ops.size [] S m)else
 chk (Zw5 E ops (E.dr id) (bif E.last id then ops.size - E.lastK id else ops.size)&&(bif E.last id then Zw6 ops (E.dr id) (E.lastK id)else true)) (exF (ZtO ops.toList) λf=>bif E.gb then ZhH E ops m f (E.dr id) (λS' μ=>Zy2 m μ (ZhI ops (E.dr id)) λM=>bif E.last id then Zsg E ops (E.lastK id) K S' M else K S' M) (Zi1 (E.dr id) S) (λ_=>m)else ZhG E ops m f (E.dr id) (λS' μ=>Zy2 m μ (ZhI ops (E.dr id)) λM=>bif E.last id then Zsg E ops (E.lastK id) K S' M else K S' M) (Zi1 (E.dr id) S) (λ_=>m))
def Za1(E:Env)(id:Nat)(ops:Array Oper)(K:St->Mem->Prop)(S:St)(m:Mem):Prop:=ZwL E (some (1000000+id)) S m λS m=>Zql E id (λS m=>Zmf E id (λS m=>Zi3 E id ops K S m) S m) S m
theorem Zht{μ:Nat->Mem}{M:Mem}{p q:Prop}(h:p->q):∀{l:List Nat},Zo3 μ M l p->Zo3 μ M l q
 | [],x=>h x
 | j::l,x=>λy=>Zht h (x y)
theorem Zhu{μ:Nat->Mem}{M:Mem}{p:Prop}:∀{l:List Nat},Zo3 μ M l p->(∀j∈l,(μ j).le M)->p
 | [],x,_=>x
 | j::l,x,h=>Zhu (x (h j (by simp))) (λi hi=>h i (by simp[hi]))
theorem Zpw{μ:Nat->Mem}{m0:Mem}{k k':Mem->Prop}(h:∀V,k V->k' V):∀{l:List Nat},Zqt μ m0 l k->Zqt μ m0 l k'
 | [],x=>h _ x
 | [j],x=>h _ x
 | i::j::l,x=>λV hV=>Zht (h V) (x V hV)
theorem Zpx{μ:Nat->Mem}{m0 A:Mem}{l:List Nat}(h0:m0.le A)(hl:∀j∈l,(μ j).le A):∃V:Mem,V.le A/\∀k:Mem->Prop,Zqt μ m0 l k->k V:=by
 match l with
 | []=>exact⟨m0,h0,λk x=>x⟩
 | [j]=>exact⟨μ j,hl j (by simp),λk x=>x⟩
 | i::j::l=>exact⟨A,Mem.le_refl A,λk x=>Zhu (x A h0) hl⟩
theorem Zsh{μ:Nat->Mem}{m0:Mem}{i:Nat}{m:Mem}{l:List Nat}(h:i ∉ l)(k:Mem->Prop):Zqt (upd μ i m) m0 l k=Zqt μ m0 l k:=by
 have one:∀{j},j∈l->upd μ i m j=μ j:=λ{j} hj=>by
  have:j≠i:=λe=>h (e ▸ hj)
  simp[upd,Zas this]
 have all:∀{l':List Nat},(∀j∈l',j∈l)->∀(M:Mem)(p:Prop),Zo3 (upd μ i m) M l' p=Zo3 μ M l' p:=by
  intro l'
  induction l' with
  | nil=>intro _ M p;rfl
  | cons j l' ih=>
   intro hs M p
   simp only[Zo3]
   rw[one (hs j (by simp)),ih (λx hx=>hs x (by simp[hx]))]
 match l with
 | []=>rfl
 | [j]=>simp only[Zqt];rw[one (by simp)]
 | a::b::l=>
  simp only[Zqt]
  exact propext ⟨λx V hV=>by have:=x V hV;rwa [all (λj hj=>hj)]at this,λx V hV=>by rw[all (λj hj=>hj)];exact x V hV⟩
theorem Zsi{m0:Mem}{μ:Nat->Mem}{l:List Nat}{k:Mem->Prop}{A:Mem}(h:Zy2 m0 μ l k)(h0:m0.le A)(he:l=[]->A=m0)(hl:∀j∈l,(μ j).le A):k A:=by
 match l with
 | []=>rw[he rfl];exact h
 | i::l=>exact Zhu (h A h0) hl
theorem Znp{m0:Mem}{μ:Nat->Mem}{l:List Nat}{k k':Mem->Prop}(h:∀M:Mem,m0.le M->k M->k' M)(x:Zy2 m0 μ l k):Zy2 m0 μ l k':=by
 match l with
 | []=>exact h _ (Mem.le_refl _) x
 | i::l=>exact λM hM=>Zht (h M hM) (x M hM)
theorem Zd5{E:Env}{ops:Array Oper}{m0:Mem}{f:Fx}{d:DOp}{S:St}{μ:Nat->Mem}{K K':St->Mem->Prop}(h:∀S' m',K S' m'->K' S' m')(hx:Ztv E ops m0 f d S μ K):Ztv E ops m0 f d S μ K':=by
 unfold Ztv at *
 split at hx
 ·exact hx.elim
 ·exact Zpw (λV y=>Zhr (th:=true) (.inl rfl) (λS' m' _ _=>h S' m') y) hx
theorem Zkt{E:Env}{ops:Array Oper}{m0:Mem}{f:Fx}:∀{r:List DOp} {K K':St->(Nat->Mem)->Prop} {S:St} {μ:Nat->Mem},(∀S' μ',SameOut (Za6 ops.toList) S S'->K S' μ'->K' S' μ')->ZhG E ops m0 f r K S μ->ZhG E ops m0 f r K' S μ
 | [],K,K',S,μ,h,hx=>h _ _ (SameOut.refl _ S) hx
 | d::r,K,K',S,μ,h,hx=>by
  refine Zd5 (λS' m' y=>Zkt (λS'' μ'' hs y=>h _ _ (SameOut.trans ?_ hs) y) y) hx
  intro t ht
  unfold Zpv
  cases ho:ops.toList[d.i]? with
  | none=>rfl
  | some o=>
   have:ZfF o t=false:=by
    cases hd:ZfF o t with
    | false=>rfl
    | true=>exact absurd (Zcg ho (ZcP.1 hd)) ht
   simp[Znn,this]
theorem Zsj{ops:Array Oper}{d:DOp}{S S':St}:SameOut (Za6 ops.toList) S (Zpv ops d S S'):=by
 intro t ht
 unfold Zpv
 cases ho:ops.toList[d.i]? with
 | none=>rfl
 | some o=>
  have:ZfF o t=false:=by
   cases hd:ZfF o t with
   | false=>rfl
   | true=>exact absurd (Zcg ho (ZcP.1 hd)) ht
  simp[Znn,this]
theorem Zsk{ops:Array Oper}{d:DOp}{t:Nat}(h:Zy1 ops d=some t):t∈Za6 ops.toList:=by
 unfold Zy1 ZeZ at h
 split at h
 ·cases h
 ·split at h
  ·cases h
  ·split at h
   ·cases h
   ·rename_i oj hj
    exact Zcg hj h
theorem Zku{E:Env}{ops:Array Oper}{m0:Mem}{f:Fx}:∀{r:List DOp} {K K':St->(Nat->Mem)->Prop} {S:St} {μ:Nat->Mem},(∀S' μ',SameOut (Za6 ops.toList) S S'->K S' μ'->K' S' μ')->ZhH E ops m0 f r K S μ->ZhH E ops m0 f r K' S μ
 | [],K,K',S,μ,h,hx=>h _ _ (SameOut.refl _ S) hx
 | d::r,K,K',S,μ,h,hx=>by
  have step:∀{S1:St},SameOut (Za6 ops.toList) S S1->Zi0 E ops m0 f d S1 μ (ZhH E ops m0 f r K)->Zi0 E ops m0 f d S1 μ (ZhH E ops m0 f r K'):=λhs y=>
   Zd5 (λS' m' y=>Zku (λS'' μ'' gR y=>h _ _ (SameOut.trans (SameOut.trans hs Zsj) gR) y) y) y
  unfold ZhH at hx ⊢
  split at hx
  ·exact step (SameOut.refl _ S) hx
  ·rename_i t ht
   have gZ:∀x,SameOut (Za6 ops.toList) S (S.put (some t) x):=λx=>(SameOut.refl _ S).put (λt' e=>by cases e;exact Zsk ht) x
   split at hx
   ·rename_i v hv
    cases hu:Zds v with
    | true=>simp only[hu,cond_true]at hx ⊢;exact step (SameOut.refl _ S) hx
    | false=>
     simp only[hu,cond_false]at hx ⊢
     refine Zai (λy=>?_) hx
     cases hb:ZcJ v with
     | true=>rw[hb]at y;exact step (gZ _) y
     | false=>rw[hb]at y;exact step (gZ _) y
   ·exact hx.elim
theorem Zqv{S:St}{t:Nat}{x:SV}(h:S.env t=some x):S.put (some t) (some x)=S:=by
 cases S with
 | mk env L ids tok tkeys gh=>
  simp only[St.put]
  congr 1
  funext i
  by_cases e:i=t
  ·subst e;simp at h ⊢;exact h.symm
  ·simp[Zas e]
theorem Ziq{E:Env}{ops:Array Oper}{m0:Mem}{f:Fx}:∀{r:List DOp} {K:St->(Nat->Mem)->Prop} {S:St} {μ:Nat->Mem},ZhH E ops m0 f r K S μ->ZhG E ops m0 f r K S μ
 | [],K,S,μ,hx=>hx
 | d::r,K,S,μ,hx=>by
  have step:∀{S1:St},Zi0 E ops m0 f d S1 μ (ZhH E ops m0 f r K)->Zi0 E ops m0 f d S1 μ (ZhG E ops m0 f r K):=λy=>Zd5 (λS' m' y=>Ziq y) y
  unfold ZhH at hx
  show Zi0 E ops m0 f d S μ (ZhG E ops m0 f r K)
  split at hx
  ·exact step hx
  ·split at hx
   ·rename_i v hv
    cases hu:Zds v with
    | true=>simp only[hu,cond_true]at hx;exact step hx
    | false=>
     simp only[hu,cond_false]at hx
     obtain⟨h1,h2⟩:=Zag hx
     have he:=ZbM h1
     cases hb:ZcJ v with
     | true=>
      rw[hb]at he h2
      subst he
      have h3:Zi0 E ops m0 f d (S.put (some _) (some (.v (.bool true)))) μ (ZhH E ops m0 f r K):=h2
      rw[Zqv hv]at h3;exact step h3
     | false=>
      rw[hb]at he h2
      subst he
      have h3:Zi0 E ops m0 f d (S.put (some _) (some (.v (.bool false)))) μ (ZhH E ops m0 f r K):=h2
      rw[Zqv hv]at h3;exact step h3
   ·exact hx.elim
theorem Zkv{E:Env}{id:Nat}{ops:Array Oper}{K K':St->Mem->Prop}{S:St}{m:Mem}(h:∀S' m',SameOut (Za6 ops.toList) S S'->leD E id m m'->K S' m'->K' S' m'){S':St}{M:Mem}(hs:SameOut (Za6 ops.toList) S S')(hM:m.le M)(y:bif E.last id then Zsg E ops (E.lastK id) K S' M else K S' M):bif E.last id then Zsg E ops (E.lastK id) K' S' M else K' S' M:=by
 cases hl:E.last id with
 | false=>
  rw[hl]at y
  exact h _ _ hs (by unfold leD;rw[hl];exact hM) y
 | true=>
  rw[hl]at y
  simp only[cond_true]at y ⊢
  unfold Zsg at y ⊢
  have key:∀(r:List Oper),(∀o∈r,o∈ops.toList)->∀(S':St)(M:Mem),SameOut (Za6 ops.toList) S S'->leT E.thaw m M->Zsf E ops K r S' M->Zsf E ops K' r S' M:=by
   intro r
   induction r with
   | nil=>exact λ_ S' M hs hM y=>h _ _ hs (by unfold leD;rw[hl];exact hM) y
   | cons o r ih=>
    intro hr S' M hs hM y
    simp only[Zsf]at y ⊢
    obtain⟨i,ho⟩:=List.getElem?_of_mem (hr o (by simp))
    exact ZiW (λt ht=>Zcg ho ht) (λS2 m2 gR aK y=>ih (λo ho=>hr o (by simp[ho])) _ _ (hs.trans gR) (leT.trans hM aK) y) y
  exact key _ (λo ho=>List.mem_of_mem_drop ho) _ _ hs (.of hM) y
theorem Znq{p:Nat->Prop}:∀{l:List Nat},ZAV l p->∀i,i∈l->p i
 | [],_,i,hi=>by cases hi
 | [j],h,i,hi=>by
  obtain rfl:=List.mem_singleton.1 hi
  exact h
 | j::k::l,h,i,hi=>by
  rcases List.mem_cons.1 hi with rfl|hi
  ·exact h.1
  ·exact Znq h.2 i hi
theorem Znr{p q:Nat->Prop}(h:∀i,p i->q i):∀{l:List Nat},ZAV l p->ZAV l q
 | [],_=>trivial
 | [j],x=>h j x
 | j::k::l,x=>⟨h j x.1,Znr h x.2⟩
theorem Zir{E:Env}{id:Nat}{ops:Array Oper}{K K':St->Mem->Prop}{S:St}{m:Mem}(hl:E.last id=true)(h:∀S' m',SameOut (Za6 ops.toList) S S'->leD E id m m'->K S' m'->K' S' m'):∀(f:Nat)(done:List Nat)(S':St)(M:Mem),SameOut (Za6 ops.toList) S S'->leT E.thaw m M->ZgC E ops K f done S' M->ZgC E ops K' f done S' M
 | 0,done,S',M,hs,hM,y=>by
  simp only[ZgC]at y ⊢
  exact Zai (λy=>h _ _ hs (by unfold leD;rw[hl];exact hM) y) y
 | f+1,done,S',M,hs,hM,y=>by
  simp only[ZgC]at y ⊢
  cases hn:Zno (Zi2 ops done)with
  | true=>
   rw[hn]at y
   exact h _ _ hs (by unfold leD;rw[hl];exact hM) y
  | false=>
   rw[hn]at y
   simp only[cond_false]at y ⊢
   refine Znr (λi y=>?_) y
   split at y
   ·exact y
   ·rename_i o ho
    exact ZiW (λt ht=>Zcg ho ht) (λS2 m2 gR aK y=>Zir hl h f _ _ _ (hs.trans gR) (leT.trans hM aK) y) y
theorem Zns(E:Env):ZdG E (Zi3 E):=by
 intro id ops K K' S m h hx
 unfold Zi3 at *
 cases hh:E.hot id with
 | true=>
  simp only[hh,cond_true]at hx ⊢
  obtain⟨h1,h2⟩:=Zag hx
  exact Zaa h1 (Zir h1 h _ _ _ _ (SameOut.refl _ S) (.of (Mem.le_refl m)) h2)
 | false=>
 simp only[hh,cond_false]at hx ⊢
 refine Zai (λy=>?_) hx
 refine ZuS (λf y=>?_) y
 cases oO:E.gb with
 | false=>
  simp only[oO,cond_false]at y ⊢
  exact Zkt (λS' μ hs y=>Znp (λM hM y=>Zkv h hs hM y) y) y
 | true=>
  simp only[oO,cond_true]at y ⊢
  exact Zku (λS' μ hs y=>Znp (λM hM y=>Zkv h hs hM y) y) y
theorem Zkw(E:Env)(id:Nat)(ops:Array Oper){K K':St->Mem->Prop}{S:St}{m:Mem}(h:∀S' m',SameOut (Za6 ops.toList) S S'->leD E id m m'->K S' m'->K' S' m')(hx:Zmf E id (λS m=>Zi3 E id ops K S m) S m):Zmf E id (λS m=>Zi3 E id ops K' S m) S m:=
 Zmq (λy=>Zns E id ops K K' S m h y) (λht hl S1 m1 he y=>Zns E id ops K K' _ _ (λS' m' hs _ y=>h S' m' (λt hh=>(hs t hh).trans (congrFun he t)) (by unfold leD;rw[hl,ht];trivial) y) y) hx
theorem Zi4(E:Env):ZdG E (Za1 E):=λid ops K K' S m h hx=>
 ZiN (λS1 m1 he hm y=>by
  have up:∀{m'},leD E id m1 m'->leD E id m m':=λhl=>by
   unfold leD at hl ⊢
   cases hl':E.last id with
   | true=>rw[hl']at hl;exact leT.trans (.of hm) hl
   | false=>rw[hl']at hl;exact mLt hm hl
  unfold Zql at y ⊢
  split at y
  ·exact Zkw E id ops (λS' m' hs hl y=>h S' m' ((Zd3 he).trans hs) (up hl) y) y
  ·split at y
   ·obtain⟨c1,b,cs,y1,y2,y3,y4,y5⟩:=Zag y
    have c2:=c1
    simp only[zA7]at c2
    exact Zaa c1 ⟨b,cs,y1,y2,y3,y4,λT cap=>Zkw E id ops (λS' m' hs _ y=>h S' m' ((Zd3 he).trans λt ht=>hs t ht) (by unfold leD;rw[c2.2.1,c2.1];trivial) y) (y5 T cap)⟩
   ·exact y) hx
theorem St.ext'{a b:St}(h1:a.env=b.env)(h2:a.L=b.L)(h3:a.ids=b.ids)(h4:a.tok=b.tok)(h5:a.tkeys=b.tkeys)(h6:a.gh=b.gh)(h7:a.fo=b.fo):a=b:=by
 cases a;cases b;simp at *;exact⟨h1,h2,h3,h4,h5,h6,h7⟩
structure Ind (ops:Array Oper)(c d:DOp)(oc od:Oper):Prop where
 hc:ops.toList[c.i]?=some oc
 hd:ops.toList[d.i]?=some od
 cd:∀t,ZfF oc t=true->mem (od.looksAt ops) t=false
 dc:∀t,ZfF od t=true->mem (oc.looksAt ops) t=false
 ne:∀t,ZfF oc t=true->ZfF od t=false
 lcd:∀id,mem c.ws id=true->mem d.rs id=false
 ldc:∀id,mem d.ws id=true->mem c.rs id=false
 tk:∀k,Zsd c.tk k=true->Zsd d.tk k=false
 vcd:c.i ∉ d.vw
 vdc:d.i ∉ c.vw
 i:c.i≠d.i
theorem Znt{a b:List Nat}(h:ZBE a b=true):∀i,mem a i=true->mem b i=false:=λi hi=>by
 have:=List.all_eq_true.1 h i (ZbD.1 hi)
 simpa using this
theorem ZgD{a b:List Nat}(h:ZAU a b=true):∀i,i∈a->i∈b:=λi hi=>ZbD.1 (List.all_eq_true.1 h i hi)
theorem Zis{o:Oper}{l:List Nat}(h:Zse o l=true):∀t,ZfF o t=true->mem l t=false:=λt ht=>by
 have:=ZcP.1 ht
 simpa[Zse,this]using h
theorem Zpy{a b:Oper}(h:Zy3 a b=true):∀t,ZfF a t=true->ZfF b t=false:=λt ht=>by
 have:=ZcP.1 ht
 simpa[Zy3,this]using h
theorem Zsl{a b:Option Nat}(h:ZBF a b=true):∀t,Zsd a t=true->Zsd b t=false:=λt ht=>by
 have:=ZcP.1 ht
 simpa[ZBF,this]using h
theorem Zkx{ops:Array Oper}{c d:DOp}(h:Zqu ops c d=true):∃oc od,Ind ops c d oc od:=by
 unfold Zqu at h
 split at h
 ·rename_i oc od hc hd
  simp only[zA7,Bool.not_eq_true']at h
  obtain⟨⟨⟨⟨h1,h2⟩,h3⟩,⟨h4,h5⟩,h6⟩,⟨h7,h8⟩,h9⟩:=h
  refine⟨oc,od,hc,hd,Zis h1,Zis h2,Zpy h3,Znt h4,Znt h5,Zsl h6,?_,?_,?_⟩
  ·intro hm;rw[ZbD.2 hm]at h7;cases h7
  ·intro hm;rw[ZbD.2 hm]at h8;cases h8
  ·intro e;rw[e,Zhk]at h9;cases h9
 ·cases h
theorem Ind.symm'{ops:Array Oper}{c d:DOp}{oc od:Oper}(h:Ind ops c d oc od):Ind ops d c od oc:=by
 refine⟨h.hd,h.hc,h.dc,h.cd,?_,h.ldc,h.lcd,?_,h.vdc,h.vcd,h.i.symm⟩
 ·intro t ht
  cases hh:ZfF oc t with
  | false=>rfl
  | true=>rw[h.ne t hh]at ht;cases ht
 ·intro k hk
  cases hh:Zsd c.tk k with
  | false=>rfl
  | true=>rw[h.tk k hh]at hk;cases hk
section
variable {E:Env} {ops:Array Oper} {m0:Mem} {f:Fx} {c d:DOp} {oc od:Oper}
theorem ZuT(h:Ind ops c d oc od)(S S':St):Zpu ops d od (Znn c oc S S')=Zpu ops d od S:=by
 refine St.ext' (funext λt=>?_) (funext λid=>?_) rfl (funext λk=>?_) rfl rfl rfl
 ·simp only[Zpu,Znn]
  cases ht:ZfF oc t with
  | true=>simp[h.cd t ht]
  | false=>simp
 ·simp only[Zpu,Znn]
  cases ht:mem c.ws id with
  | true=>simp[h.lcd id ht]
  | false=>simp
 ·simp only[Zpu,Znn]
  cases ht:Zsd c.tk k with
  | true=>simp[h.tk k ht]
  | false=>simp
theorem ZuU(h:Ind ops c d oc od)(hw:∀id,id∈d.ws->id∈d.rs)(S Sc Sd:St):Znn c oc (Znn d od S Sd) Sc=Znn d od (Znn c oc S Sc) Sd:=by
 refine St.ext' (funext λt=>?_) (funext λid=>?_) rfl (funext λk=>?_) rfl rfl rfl
 ·simp only[Znn]
  cases ht:ZfF oc t with
  | true=>simp[h.ne t ht]
  | false=>simp
 ·simp only[Znn]
  cases ht:mem c.ws id with
  | true=>
   have:mem d.ws id=false:=by
    cases hh:mem d.ws id with
    | false=>rfl
    | true=>
     have h1:=h.lcd id ht
     rw[ZbD.2 (hw id (ZbD.1 hh))]at h1;cases h1
   simp[this]
  | false=>simp
 ·simp only[Znn]
  cases ht:Zsd c.tk k with
  | true=>simp[h.tk k ht]
  | false=>simp
theorem ZuV{μ:Nat->Mem}{i j:Nat}(h:i≠j)(a b:Mem):upd (upd μ i a) j b=upd (upd μ j b) i a:=by
 funext k
 simp only[upd]
 by_cases hk:k=j
 ·subst hk;simp[Zas (Ne.symm h)]
 ·simp[Zas hk]
theorem Zhv(h:Ind ops c d oc od)(S S':St)(μ:Nat->Mem)(m':Mem)(K:St->Mem->Prop):Ztv E ops m0 f d (Zpv ops c S S') (upd μ c.i m') K=Ztv E ops m0 f d S μ K:=by
 unfold Ztv Zpv
 simp only[h.hd,h.hc,ZuT h,Zsh h.vcd]
theorem Znu(S:St)(μ:Nat->Mem)(K:St->(Nat->Mem)->Prop):Zi0 E ops m0 f d S μ K=Ztv E ops m0 f d S μ λS' m'=>K (Zpv ops d S S') (upd μ d.i m'):=rfl
def ZBR(E:Env)(ops:Array Oper)(m0:Mem)(f:Fx)(d:DOp)(S:St)(μ:Nat->Mem)(S':St)(m':Mem):Prop:=∀K:St->Mem->Prop,Ztv E ops m0 f d S μ K->K S' m'
theorem Zqw{K:St->(Nat->Mem)->Prop}{S':St}{m':Mem}(hw:∀id,id∈d.ws->id∈d.rs):∀{r1 r2:List DOp} {S:St} {μ:Nat->Mem},(∀c∈r1,Zqu ops c d=true)->ZhG E ops m0 f (r1++d::r2) K S μ->ZBR E ops m0 f d S μ S' m'->
  ZhG E ops m0 f (r1++r2) K (Zpv ops d S S') (upd μ d.i m')
 | [],r2,S,μ,_,h,ho=>ho _ h
 | c::r1,r2,S,μ,hi,h,ho=>by
  obtain⟨oc,od,fH⟩:=Zkx (hi c (by simp))
  simp only[List.cons_append,ZhG,Znu]at h ⊢
  rw[Zhv fH.symm']
  refine Zd5 (λSc mc y=>?_) h
  have ih:=Zqw (S':=S') (m':=m') hw (r1:=r1) (r2:=r2) (λc hc=>hi c (by simp[hc])) y (λK hK=>by rw[Zhv fH]at hK;exact ho K hK)
  rw[ZuV fH.i]at ih
  have e:Zpv ops c (Zpv ops d S S') Sc=Zpv ops d (Zpv ops c S Sc) S':=by
   simp only[Zpv,fH.hc,fH.hd]
   exact ZuU fH hw S Sc S'
  rw[e];exact ih
end
theorem Zpz{F:Fence}(hF:FOk F){n:Nat}{P:Program}{o:Oper}{a:Act}{w:World}{p:Prop}(h:o.wpIn F n P a w (λ_ _=>p) (λ_ _ _=>p)):p:=by
 have cT:∀k,F.room k:=λk d hd=>by rw[hF.depth]at hd;cases hd
 have h:=h.2
 generalize (o.semAt F.round a.eval).run P w=r at h
 cases r with
 | ok x w'=>
  cases x <;> simp only[Oper.uponIn]at h
  all_goals first
   | exact h
   | exact h.elim
   | (obtain⟨e,w'',fr,h,_⟩:=h.2.2 [] (cT _)
      cases e <;> first
       | exact h
       | (obtain⟨_,_,h⟩:=h;exact h))
   | (obtain⟨v,w'',h,_⟩:=h.2 default [] (cT _)
      exact h)
   | (obtain⟨e,w'',h,_⟩:=h.2.2 default [] (cT _)
      cases e <;> first
       | exact h
       | (obtain⟨_,_,h⟩:=h;exact h))
 | halt x w'=>
  cases x <;> simp only[Oper.uponIn]at h
  all_goals first
   | exact h
   | exact h.elim
theorem Zsm{a b:St}(h:∀id,a.L id=b.L id)(sv:SV):a.den sv=b.den sv:=by
 cases sv <;> simp only[St.den,h]
section
variable {C:Ctx} {E:Env} {ops:Array Oper} {m0:Mem} {f:Fx} {d:DOp} {o:Oper} {S:St} {μ:Nat->Mem} {A:Mem} {a:Act} {w:World}
theorem Zw7(rT:∀i,i∈Znm d.rs o->i∈d.ws)(qc:∀i,i∈d.ws->i∈d.rs)(dS:∀i,i∈d.ws->i∈S.ids)(fj:∀k,d.tk=some k->k∈S.tkeys)(hr:Rel C S A a w)
  {S2:St} {A2:Mem} {a':Act} {w':World} {y:St×Mem} {g:Bool} {m M:Mem} (h:Rel C S2 A2 a' w') (ho:Out (Znm d.rs o) d.tk g m M o.dst (Zpu ops d o S) S y (S2,A2)):Rel C (Znn d o S y.1) A2 a' w':=by
 have hL:∀id,(Znn d o S y.1).L id=S2.L id:=by
  intro id
  simp only[Znn]
  cases hm:mem d.ws id with
  | true=>
   simp only[cond_true]
   rcases ho.L id with⟨_,e⟩|⟨e1,e2⟩
   ·exact e
   ·rw[e1,e2]
    simp[Zpu,ZbD.2 (qc id (ZbD.1 hm))]
  | false=>
   simp only[cond_false]
   rcases ho.L id with⟨hc,_⟩|⟨e1,e2⟩
   ·rw[ZbD.2 (rT id hc)]at hm;cases hm
   ·exact e2.symm
 have hT:∀k,(Znn d o S y.1).tok k=S2.tok k:=by
  intro k
  simp only[Znn]
  cases hm:Zsd d.tk k with
  | true=>
   simp only[cond_true]
   rcases ho.tok k with⟨_,e⟩|⟨e1,e2⟩
   ·exact e
   ·rw[e1,e2]
    simp[Zpu,hm]
  | false=>
   simp only[cond_false]
   rcases ho.tok k with⟨hc,_⟩|⟨e1,e2⟩
   ·rw[ZcP.2 hc]at hm;cases hm
   ·exact e2.symm
 refine h.restrict (congrArg Prod.fst ho.gh2).symm (congrArg Prod.snd ho.gh2).symm (λid x hx=>by rw[<-hL];exact hx) (λk t ht=>.inl (by rw[<-hT];exact ht)) ?_ ?_ ?_
 ·intro i sv he
  have he':S2.env i=some sv:=by
   simp only[Znn]at he
   cases hd:ZfF o i with
   | true=>
    simp only[hd,cond_true]at he
    exact ho.env1 i sv (ZcP.1 hd) he
   | false=>
    simp only[hd,cond_false]at he
    have:o.dst≠some i:=λe=>by rw[show ZfF o i=true from ZcP.2 e]at hd;cases hd
    exact(ho.env2 i this).trans he
  obtain⟨v,h1,h2⟩:=h.env i sv he'
  exact⟨v,by rw[Zsm hL];exact h1,h2⟩
 ·intro id x hx
  show id∈S.ids
  cases hm:mem d.ws id with
  | true=>exact dS id (ZbD.1 hm)
  | false=>simp only[Znn,hm,cond_false]at hx;exact hr.ids id x hx
 ·intro k t ht
  show k∈S.tkeys
  cases hm:Zsd d.tk k with
  | true=>exact fj k (ZcP.1 hm)
  | false=>simp only[Znn,hm,cond_false]at ht;exact hr.tkeys k t ht
structure DOk (E:Env)(ops:Array Oper)(d:DOp)(o:Oper):Prop where
 at_:ops.toList[d.i]?=some o
 fp:ZtN E d.rs d.tk o=true
 chg:∀i,i∈Znm d.rs o->i∈d.ws
 ws:∀i,i∈d.ws->i∈d.rs
theorem Zqx(hE:E.ok){F:Fence}(hF:FOk F)(hY:YOk E C)(aB:Zm3 C.n ops.toList=true)(fX:E.fix=none)(hd:DOk E ops d o)(dS:∀i,i∈d.ws->i∈S.ids)(fj:∀k,d.tk=some k->k∈S.tkeys)
  (hr:Rel C S A a w) (h0:m0.le A) (hv:∀j,j∈d.vw->(μ j).le A) (h:Ztv E ops m0 f d S μ (λ_ _=>True)) {n:Nat} {Q:Exit->Act->World->Prop} {next:Act->World->Prop}
  (hK:∀S' m' A' a' w',ZBR E ops m0 f d S μ S' m'->Rel C (Zpv ops d S S') A' a' w'->A.le A'->m'.le A'->(Zdt o=false->A'=A)->next a' w'):wpOpIn F n E.P ops Q d.i next a w:=by
 unfold Ztv at h
 simp only[hd.at_]at h
 obtain⟨V,wh,hV⟩:=Zpx (l:=d.vw) h0 hv
 have oP:Less (Zpu ops d o S) S:=⟨λt sv ht=>by
  simp only[Zpu]at ht
  cases hm:mem (o.looksAt ops) t <;> simp[hm]at ht;exact ht,λid x hx=>by
  simp only[Zpu]at hx
  cases hm:mem d.rs id <;> simp[hm]at hx;exact hx⟩
 have h2:opG E ops o S A (λS2 A2=>∃y1:St×Mem,(∀K:St×Mem->Prop,opG (E.fixed (f d.i)) ops o (Zpu ops d o S) V (λS' m'=>K (S',m'))->K y1)/\Out (Znm d.rs o) d.tk (Zdt o) V A o.dst (Zpu ops d o S) S y1 (S2,A2)):=
  Zzu (rs:=d.rs) (tk:=d.tk) w fX oP (λid x hx=>by
   simp only[Zpu]at hx
   cases hm:mem d.rs id with
   | true=>exact ZbD.1 hm
   | false=>simp[hm]at hx) (λid de=>by simp[Zpu,ZbD.2 de]) (λk hk=>by simp[Zpu,ZcP.2 hk]) wh hd.fp (hV _ h)
 have h3:=Zhr (th:=false) (.inr (Zks hd.fp)) (K':=λS2 A2=>A.le A2/\∃y1:St×Mem,(∀K:St×Mem->Prop,opG (E.fixed (f d.i)) ops o (Zpu ops d o S) V (λS' m'=>K (S',m'))->K y1)/\Out (Znm d.rs o) d.tk (Zdt o) V A o.dst (Zpu ops d o S) S y1 (S2,A2)) (λS' m' _ hm y=>⟨hm,y⟩) h2
 have ho':ops[d.i]?=some o:=by simpa using hd.at_
 have:=Ze1 hE hF hY (ZdK aB d.i o hd.at_) hr h3 (n:=n) (Q:=Q) (next:=next) (λS2 A2 a' w' ⟨hA,y1,g1,g2⟩ aZ=>by
  refine hK y1.1 y1.2 A2 a' w' ?_ ?_ hA g2.le (λhg=>(g2.same hg).2)
  ·intro K qq
   unfold Ztv at qq
   simp only[hd.at_]at qq
   exact g1 (λy=>K y.1 y.2) (hV _ qq)
  ·simp only[Zpv,hd.at_]
   exact Zw7 hd.chg hd.ws dS fj hr aZ g2)
 unfold wpOpIn
 simp only[ho']
 exact this
end
theorem Zi5(ops:Array Oper)(d:DOp)(S S':St):(Zpv ops d S S').ids=S.ids/\(Zpv ops d S S').tkeys=S.tkeys:=by
 unfold Zpv
 cases ops.toList[d.i]? <;> exact⟨rfl,rfl⟩
theorem Zqy(μ:Nat->Mem)(i:Nat)(m:Mem):upd μ i m i=m:=by simp[upd]
theorem Zw8{μ:Nat->Mem}{i j:Nat}(h:j≠i)(m:Mem):upd μ i m j=μ j:=by simp[upd,Zas h]
def Zy5:(Nat->Prop)->List DOp->Prop
 | _,[]=>True
 | D,c::r=>(∀j,j∈c.vw->D j)/\Zy5 (λj=>D j\/j=c.i) r
theorem extract{C:Ctx}{E:Env}(hE:E.ok){F:Fence}(hF:FOk F)(hY:YOk E C){ops:Array Oper}(aB:Zm3 C.n ops.toList=true)(fX:E.fix=none){m0:Mem}{f:Fx}{d:DOp}{r2:List DOp}{K:St->(Nat->Mem)->Prop}:
  ∀{r1:List DOp} {D:Nat->Prop} {S:St} {μ:Nat->Mem} {A:Mem} {a:Act} {w:World},Rel C S A a w->m0.le A->(∀j,D j->(μ j).le A)->Zy5 D r1->(∀c∈r1,(∃o,DOk E ops c o)/\(∀i,i∈c.ws->i∈S.ids)/\(∀k,c.tk=some k->k∈S.tkeys))->(∀c∈r1,Zqu ops c d=true)->
   ZhG E ops m0 f (r1++d::r2) K S μ->Ztv E ops m0 f d S μ (λ_ _=>True)
 | [],D,S,μ,A,a,w,hr,h0,hD,ht,hc,hi,h=>Zd5 (λ_ _ _=>trivial) h
 | c::r1,D,S,μ,A,a,w,hr,h0,hD,ht,hc,hi,h=>by
  obtain⟨oc,od,fH⟩:=Zkx (hi c (by simp))
  obtain⟨⟨o,cH⟩,dS,fj⟩:=hc c (by simp)
  simp only[List.cons_append,ZhG,Znu]at h
  have key:=Zqx (n:=0) (next:=λ_ _=>Ztv E ops m0 f d S μ (λ_ _=>True)) (Q:=λ_ _ _=>Ztv E ops m0 f d S μ (λ_ _=>True)) hE hF hY aB fX cH dS fj hr h0 (λj hj=>hD j (ht.1 j hj)) (Zd5 (λ_ _ _=>trivial) h) (λS' m' A' a' w' eQ aZ hA hm _=>by
   have:=extract hE hF hY aB fX (r1:=r1) (D:=λj=>D j\/j=c.i) aZ (mLt h0 hA) (λj hj=>by
    by_cases e:j=c.i
    ·subst e;rw[Zqy];exact hm
    ·rw[Zw8 e];exact mLt (hD j (hj.resolve_right e)) hA) ht.2 (λc' hc'=>by
     obtain⟨h1,h2,h3⟩:=hc c' (by simp[hc'])
     exact⟨h1,λi hi=>by rw[(Zi5 ops c S S').1];exact h2 i hi,λk hk=>by rw[(Zi5 ops c S S').2];exact h3 k hk⟩) (λc' hc'=>hi c' (by simp[hc'])) (eQ _ h)
   rwa [Zhv fH]at this)
  unfold wpOpIn at key
  have ho':ops[c.i]?=some o:=by simpa using cH.at_
  simp only[ho']at key
  split at key
  ·exact Zpz hF key
  ·exact key.2
theorem Zi6:∀{l:List DOp} {p j:Nat},j∈ZAr l p->∃c∈l,c.i=p/\j∈c.an
 | [],p,j,h=>by simp[ZAr]at h
 | d::l,p,j,h=>by
  simp only[ZAr]at h
  cases hb:Nat.beq d.i p with
  | true=>simp only[hb,cond_true]at h;exact⟨d,by simp,Nat.eq_of_beq_eq_true hb,h⟩
  | false=>
   simp only[hb,cond_false]at h
   obtain⟨c,hc,h1⟩:=Zi6 h
   exact⟨c,by simp[hc],h1⟩
theorem Znv{E:Env}{ops:Array Oper}:∀{r before l1:List DOp} {d:DOp} {l2:List DOp},ZhN E ops r before=true->r=l1++d::l2->Zy4 E ops d (l1.reverse++before)=true
 | [],before,l1,d,l2,h,e=>by simp at e
 | x::r,before,[],d,l2,h,e=>by
  simp only[ZhN,zA7]at h
  simp at e
  rw[<-e.1];exact h.1
 | x::r,before,y::l1,d,l2,h,e=>by
  simp only[ZhN,zA7]at h
  simp at e
  obtain⟨rfl,e⟩:=e
  have:=Znv h.2 e
  simpa using this
structure Fact (E:Env)(ops:Array Oper)(ds:List DOp)(d:DOp)(o:Oper):Prop where
 ok:DOk E ops d o
 vw:∀j,j∈d.vw->j∈d.an
 an:∀j,j∈d.an->j∈Zc2 o\/∃p∈Zc2 o,∃c∈ds,c.i=p/\j∈c.an
theorem Zi7{E:Env}{ops:Array Oper}{ds:List DOp}(h:ZhN E ops ds []=true){l1 l2:List DOp}{d:DOp}(e:ds=l1++d::l2):
  ∃o,Fact E ops ds d o/\(∀p∈Zc2 o,∃c∈l1,c.i=p)/\(∀c∈l1,(c.i∈d.an\/Zqu ops c d=true)/\c.i≠d.i):=by
 have h1:=Znv h e
 simp only[List.append_nil]at h1
 unfold Zy4 at h1
 split at h1
 ·cases h1
 ·rename_i o ho
  simp only[zA7,List.all_eq_true,Bool.or_eq_true,List.any_eq_true]at h1
  obtain⟨⟨⟨⟨⟨⟨g1,g2⟩,g3⟩,g4,g5⟩,g6⟩,g7⟩,g8⟩:=h1
  have eO:∀c∈l1.reverse,c∈ds:=λc hc=>by rw[e];simp at hc ⊢;exact .inl hc
  refine⟨o,⟨⟨ho,g1,ZgD g2,ZgD g3⟩,ZgD g4,λj hj=>?_⟩,λp hp=>?_,λc hc=>⟨?_,?_⟩⟩
  ·rcases g6 j hj with h2|⟨p,hp,h2⟩
   ·exact .inl (ZbD.1 h2)
   ·obtain⟨c,hc,h3,h4⟩:=Zi6 (ZbD.1 h2)
    exact .inr ⟨p,hp,c,eO c hc,h3,h4⟩
  ·have:=ZgD g5 p hp
   obtain⟨c,hc,h2⟩:=List.mem_map.1 this
   exact⟨c,by simpa using hc,h2⟩
  ·exact(g7 c (by simpa using hc)).imp ZbD.1 id
  ·have:=g8 c (by simpa using hc)
   intro e;rw[e,Zhk]at this;simp at this
theorem ZfG{α:Type}{R:α->α->Prop}:∀{l:List α},(∀l1 d l2,l=l1++d::l2->∀c∈l1,R c d)->l.Pairwise R
 | [],_=>List.Pairwise.nil
 | x::l,h=>by
  refine List.Pairwise.cons (λy hy=>?_) (ZfG λl1 d l2 e c hc=>h (x::l1) d l2 (by simp[e]) c (by simp[hc]))
  obtain⟨s,t,rfl⟩:=List.append_of_mem hy
  exact h (x::s) y t (by simp) x (by simp)
structure Inv (ds:List DOp)(dn:Nat->Bool)(rem:List DOp):Prop where
 rem:rem=ds.filter λc=>!dn c.i
 closed:∀d∈ds,dn d.i=true->∀j,j∈d.an->dn j=true
section
variable {E:Env} {ops:Array Oper} {ds:List DOp} {dn:Nat->Bool}
theorem Inv.an_of{rem:List DOp}(h:Inv ds dn rem){d:DOp}{o:Oper}(hd:Fact E ops ds d o)(hp:∀p,p∈Zc2 o->dn p=true):∀j,j∈d.an->dn j=true:=λj hj=>by
 rcases hd.an j hj with h1|⟨p,h1,c,h2,h3,h4⟩
 ·exact hp j h1
 ·exact h.closed c h2 (h3 ▸ hp p h1) j h4
theorem Inv.step{r1 r2:List DOp}{d:DOp}(hp:ds.Pairwise λc d=>c.i≠d.i)(h:Inv ds dn (r1++d::r2))(hd:∀j,j∈d.an->dn j=true):Inv ds (λj=>dn j||Nat.beq j d.i) (r1++r2):=by
 have gE:(r1++d::r2).Pairwise λc d=>c.i≠d.i:=by rw[h.rem];exact hp.sublist List.filter_sublist
 refine⟨?_,λc hc uf j hj=>?_⟩
 ·have e:(ds.filter λc=>!(dn c.i||Nat.beq c.i d.i))=(r1++d::r2).filter λc=>!Nat.beq c.i d.i:=by
   rw[h.rem,List.filter_filter]
   congr 1;funext c
   cases dn c.i <;> simp
  rw[e,List.filter_append,List.filter_cons]
  simp only[Zhk,Bool.not_true,Bool.false_eq_true,if_false]
  rw[List.pairwise_append]at gE
  obtain⟨_,h2,h3⟩:=gE
  rw[List.pairwise_cons]at h2
  rw[List.filter_eq_self.2,List.filter_eq_self.2]
  ·intro c hc
   have:=h2.1 c hc
   simp[Zas (Ne.symm this)]
  ·intro c hc
   have:=h3 c hc d (by simp)
   simp[Zas this]
 ·simp only[Bool.or_eq_true]at uf ⊢
  rcases uf with h1|h1
  ·exact .inl (h.closed c hc h1 j hj)
  ·have:c=d:=by
    have lz:d∈ds:=by
     have:d∈ds.filter λc=>!dn c.i:=by rw[<-h.rem];simp
     exact(List.mem_filter.1 this).1
    have hi:=Nat.eq_of_beq_eq_true h1
    by_cases e:c=d
    ·exact e
    ·exfalso
     obtain⟨s,t,rfl⟩:=List.append_of_mem hc
     rw[List.pairwise_append,List.pairwise_cons]at hp
     simp only[List.mem_append,List.mem_cons]at lz
     rcases lz with lz|lz|lz
     ·exact hp.2.2 d lz c (by simp) hi.symm
     ·exact e lz.symm
     ·exact hp.2.1.1 d lz hi
   subst this
   exact .inl (hd j hj)
theorem Inv.head{d:DOp}{r:List DOp}(cH:ZhN E ops ds []=true)(h:Inv ds dn (d::r)):∃o,Fact E ops ds d o/\∀p,p∈Zc2 o->dn p=true:=by
 obtain⟨l1,l2,h1,h2,h3,_⟩:=List.filter_eq_cons_iff.1 h.rem.symm
 obtain⟨o,hf,hp,_⟩:=Zi7 cH h1
 refine⟨o,hf,λp kC=>?_⟩
 obtain⟨c,hc,rfl⟩:=hp p kC
 have:=h2 c hc
 simpa using this
theorem Inv.topo(cH:ZhN E ops ds []=true)(hp:ds.Pairwise λc d=>c.i≠d.i):∀{r1 r2:List DOp} {dn:Nat->Bool},Inv ds dn (r1++r2)->Zy5 (λj=>dn j=true) r1
 | [],r2,dn,h=>trivial
 | c::r1,r2,dn,h=>by
  obtain⟨o,hf,gE⟩:=h.head cH
  have nM:=h.an_of hf gE
  refine⟨λj hj=>nM j (hf.vw j hj),?_⟩
  have:=Inv.topo cH hp (r1:=r1) (r2:=r2) (Inv.step (r1:=[]) hp h nM)
  have e:(λj=>(dn j||Nat.beq j c.i)=true)=(λj=>dn j=true\/j=c.i):=by
   funext j
   rw[Bool.or_eq_true]
   exact propext ⟨λh=>h.imp id Nat.eq_of_beq_eq_true,λh=>h.imp id λe=>by rw[e];exact Zhk _⟩
  rw[e]at this
  exact this
end
theorem ZgE{ops:Array Oper}:∀{ds:List DOp} {j:Nat},j∈ZhI ops ds->∃d∈ds,d.i=j
 | [],j,h=>by simp[ZhI]at h
 | d::r,j,h=>by
  simp only[ZhI]at h
  split at h
  ·obtain⟨c,hc,e⟩:=ZgE h;exact⟨c,by simp[hc],e⟩
  ·rename_i o _
   cases hg:Zdt o with
   | true=>
    simp only[hg,cond_true,List.mem_cons]at h
    rcases h with h|h
    ·exact⟨d,by simp,h.symm⟩
    ·obtain⟨c,hc,e⟩:=ZgE h;exact⟨c,by simp[hc],e⟩
   | false=>
    simp only[hg,cond_false]at h
    obtain⟨c,hc,e⟩:=ZgE h;exact⟨c,by simp[hc],e⟩
theorem Zi8{ops:Array Oper}:∀{ds:List DOp},ZhI ops ds=[]->∀d∈ds,∀o,ops.toList[d.i]?=some o->Zdt o=false
 | [],_,d,hd=>by simp at hd
 | c::r,h,d,hd=>λo ho=>by
  simp only[ZhI]at h
  rcases List.mem_cons.1 hd with rfl|hd
  ·simp only[ho]at h
   cases hg:Zdt o with
   | false=>rfl
   | true=>simp[hg]at h
  ·split at h
   ·exact Zi8 h d hd o ho
   ·rename_i oc _
    cases hg:Zdt oc with
    | true=>simp[hg]at h
    | false=>simp only[hg,cond_false]at h;exact Zi8 h d hd o ho
theorem Znw{C:Ctx}{E:Env}(hE:E.ok){F:Fence}(hF:FOk F)(hY:YOk E C){ops:Array Oper}(aB:Zm3 C.n ops.toList=true)(fX:E.fix=none){m0:Mem}{f:Fx}{ds:List DOp}(cH:ZhN E ops ds []=true)
  {n e:Nat} {Q:Exit->Act->World->Prop} {K:St->Mem->Prop}
  (mI:∀(listed:Array Bool)(rem:List DOp) i,Inv ds (λj=>listed.getD j false) rem->(∀j,listed.getD j false=true->∃d∈ds,d.i=j)->listed.size=ops.size->i∈Region.ready .any ops listed->(∃d∈ds,d.i=i)\/∀d∈ds,listed.getD d.i false=true)
  (jv:∀(fuel:Nat)(listed:Array Bool)(S':St)(m':Mem)(a':Act)(w':World),e<=fuel->listed.size=ops.size->(∀d∈ds,listed.getD d.i false=true)->(∀j,listed.getD j false=true->∃d∈ds,d.i=j)->K S' m'->Rel C S' m' a' w'->wpAnyIn F n E.P .any ops Q fuel listed a' w'):
  ∀(fuel:Nat){listed:Array Bool}{rem:List DOp}{S:St}{μ:Nat->Mem}{A:Mem}{a:Act}{w:World},listed.size=ops.size->Inv ds (λj=>listed.getD j false) rem->rem.length+e<=fuel->Rel C S A a w->m0.le A->
   (∀j,listed.getD j false=true->(μ j).le A)->(∀j,listed.getD j false=true->∃d∈ds,d.i=j)->(ZhI ops ds=[]->A=m0)->(∀d∈ds,(∀i,i∈d.ws->i∈S.ids)/\∀k,d.tk=some k->k∈S.tkeys)->
   ZhG E ops m0 f rem (λS' μ=>Zy2 m0 μ (ZhI ops ds) λM=>K S' M) S μ->wpAnyIn F n E.P .any ops Q fuel listed a w:=by
 have iE:ds.Pairwise λc d=>(c.i∈d.an\/Zqu ops c d=true)/\c.i≠d.i:=ZfG λl1 d l2 e c hc=>by
  obtain⟨o,_,_,h⟩:=Zi7 cH e
  exact h c hc
 have nL:ds.Pairwise λc d=>c.i≠d.i:=iE.imp λh=>h.2
 have factOf:∀d∈ds,∃o,Fact E ops ds d o:=λd hd=>by
  obtain⟨s,t,e⟩:=List.append_of_mem hd
  obtain⟨o,h,_⟩:=Zi7 cH e
  exact⟨o,h⟩
 have allOf:∀{listed:Array Bool} {rem:List DOp},Inv ds (λj=>listed.getD j false) rem->rem=[]->∀d∈ds,listed.getD d.i false=true:=λdI he d hd=>by
  subst he
  have:=List.filter_eq_nil_iff.1 dI.rem.symm d hd
  simpa using this
 have fin:∀{fuel:Nat} {listed:Array Bool} {rem:List DOp} {S:St} {μ:Nat->Mem} {A:Mem} {a:Act} {w:World},listed.size=ops.size->Inv ds (λj=>listed.getD j false) rem->Rel C S A a w->m0.le A->(∀j,listed.getD j false=true->(μ j).le A)->(∀j,listed.getD j false=true->∃d∈ds,d.i=j)->(ZhI ops ds=[]->A=m0)->
   ZhG E ops m0 f rem (λS' μ=>Zy2 m0 μ (ZhI ops ds) λM=>K S' M) S μ->rem=[]->e<=fuel->wpAnyIn F n E.P .any ops Q fuel listed a w:=by
  intro fuel listed rem S μ A a w bJ dI hr h0 hμ hl hg hn he oQ
  have cR:=allOf dI he
  subst he
  refine jv fuel listed S A a w oQ bJ cR hl (Zsi hn h0 hg λj hj=>?_) hr
  obtain⟨d,hd,rfl⟩:=ZgE hj
  exact hμ _ (cR d hd)
 have stuck:∀{listed:Array Bool} {rem:List DOp},listed.size=ops.size->Inv ds (λj=>listed.getD j false) rem->Region.ready .any ops listed=[]->rem=[]:=by
  intro listed rem bJ dI cz
  cases rem with
  | nil=>rfl
  | cons d r=>
   exfalso
   obtain⟨o,hf,hp⟩:=dI.head cH
   have cJ:d∈ds.filter λc=>!listed.getD c.i false:=by rw[<-dI.rem];simp
   have h1:=(List.mem_filter.1 cJ).2
   have ho':ops[d.i]?=some o:=by simpa using hf.ok.at_
   have aJ:d.i < ops.size:=(Array.getElem?_eq_some_iff.1 ho').1
   have:d.i∈Region.ready .any ops listed:=mem_ready.2 ⟨by
    have hl:d.i < listed.size:=by omega
    simpa[Array.getD,hl]using h1,o,ho',λe he hb=>hp e.on (by
     simp only[Zc2,List.mem_map,List.mem_filter]
     exact⟨e,⟨by simpa using he,hb⟩,rfl⟩)⟩
   rw[cz]at this;simp at this
 intro fuel
 induction fuel with
 | zero=>
  intro listed rem S μ A a w bJ dI aH hr h0 hμ kK hg dS hn
  have he:rem=[]:=List.eq_nil_of_length_eq_zero (by omega)
  exact fin bJ dI hr h0 hμ kK hg hn he (by omega)
 | succ fuel ih=>
  intro listed rem S μ A a w bJ dI aH hr h0 hμ kK hg dS hn
  by_cases mJ:rem=[]
  ·exact fin bJ dI hr h0 hμ kK hg hn mJ (by omega)
  refine⟨λcz=>absurd (stuck bJ dI cz) mJ,λi hi=>?_⟩
  rcases mI listed rem i dI kK bJ hi with⟨d,hd,rfl⟩|oR
  rotate_left
  ·exfalso
   apply mJ
   rw[dI.rem,List.filter_eq_nil_iff]
   intro d hd
   simp[oR d hd]
  obtain⟨j6,o,ho,cR⟩:=mem_ready.1 hi
  have aJ:d.i < ops.size:=(Array.getElem?_eq_some_iff.1 ho).1
  have hl:d.i < listed.size:=by omega
  have rU:listed.getD d.i false=false:=by simp[Array.getD,hl]at j6 ⊢;exact j6
  obtain⟨o',hf⟩:=factOf d hd
  have:o'=o:=by
   have h1:=hf.ok.at_
   have h2:ops.toList[d.i]?=some o:=by simpa using ho
   rw[h1]at h2;exact Option.some.inj h2
  subst this
  have gE:∀p,p∈Zc2 o'->listed.getD p false=true:=λp hp=>by
   simp only[Zc2,List.mem_map,List.mem_filter]at hp
   obtain⟨e,⟨he,hb⟩,rfl⟩:=hp
   exact cR e (by simpa using he) hb
  have nM:=dI.an_of hf gE
  have rV:d∈rem:=by rw[dI.rem];exact List.mem_filter.2 ⟨hd,by simp[rU]⟩
  obtain⟨r1,r2,rfl⟩:=List.append_of_mem rV
  have dx:(r1++d::r2).Sublist ds:=by rw[dI.rem];exact List.filter_sublist
  have oS:=iE.sublist dx
  have fH:∀c∈r1,Zqu ops c d=true:=λc hc=>by
   rw[List.pairwise_append]at oS
   rcases(oS.2.2 c hc d (by simp)).1 with h1|h1
   ·have h2:=nM _ h1
    have wi:c∈ds.filter λc=>!listed.getD c.i false:=by rw[<-dI.rem];simp[hc]
    have h3:=(List.mem_filter.1 wi).2
    rw[h2]at h3;cases h3
   ·exact h1
  have eO:∀c∈r1++d::r2,c∈ds:=λc hc=>dx.subset hc
  have hT:=extract hE hF hY aB fX (r1:=r1) (D:=λj=>listed.getD j false=true) hr h0 hμ (dI.topo cH nL) (λc hc=>by
   obtain⟨oc,li⟩:=factOf c (eO c (by simp[hc]))
   exact⟨⟨oc,li.ok⟩,dS c (eO c (by simp[hc]))⟩) fH hn
  refine Zqx hE hF hY aB fX hf.ok (dS d hd).1 (dS d hd).2 hr h0 (λj hj=>hμ j (nM j (hf.vw j hj))) hT ?_
  intro S' m' A' a' w' eQ aZ hA hm lB
  have nN:(λj=>(listed.setIfInBounds d.i true).getD j false)=λj=>listed.getD j false||Nat.beq j d.i:=by
   funext j
   by_cases hj:j=d.i
   ·subst hj;simp[Array.getD,hl]
   ·have:Nat.beq j d.i=false:=Zas hj
    rw[getD_set_ne false (Ne.symm hj),this,Bool.or_false]
  refine ih (rem:=r1++r2) (S:=Zpv ops d S S') (μ:=upd μ d.i m') (A:=A') (by simpa using bJ) ?_ (by simp at aH ⊢;omega) aZ (mLt h0 hA) ?_ ?_ ?_ ?_ (Zqw hf.ok.ws fH hn eQ)
  ·rw[nN];exact dI.step nL nM
  ·intro j hj
   have hj':(listed.getD j false||Nat.beq j d.i)=true:=by rw[<-hj];exact(congrFun nN j).symm
   by_cases e:j=d.i
   ·subst e;rw[Zqy];exact hm
   ·rw[Zw8 e]
    rw[Zas e,Bool.or_false]at hj'
    exact mLt (hμ j hj') hA
  ·intro j hj
   have hj':(listed.getD j false||Nat.beq j d.i)=true:=by rw[<-hj];exact(congrFun nN j).symm
   rw[Bool.or_eq_true]at hj'
   rcases hj' with h|h
   ·exact kK j h
   ·exact⟨d,hd,(Nat.eq_of_beq_eq_true h).symm⟩
  ·intro ug
   rw[lB (Zi8 ug d hd o' hf.ok.at_)]
   exact hg ug
  ·intro c hc
   rw[(Zi5 ops d S S').1,(Zi5 ops d S S').2]
   exact dS c hc
theorem Znx:∀{ds:List DOp} {d:DOp} {i:Nat},d∈ds->i∈d.ws->i∈Zw4 ds
 | [],d,i,hd,_=>by simp at hd
 | c::r,d,i,hd,hi=>by
  simp only[Zw4,List.mem_append]
  rcases List.mem_cons.1 hd with rfl|hd
  ·exact .inl hi
  ·exact .inr (Znx hd hi)
theorem Zny:∀{ds:List DOp} {d:DOp} {k:Nat},d∈ds->d.tk=some k->k∈Zwu ds
 | [],d,k,hd,_=>by simp at hd
 | c::r,d,k,hd,hk=>by
  simp only[Zwu]
  rcases List.mem_cons.1 hd with rfl|hd
  ·simp[hk]
  ·have:=Zny hd hk
   cases c.tk <;> simp[this]
theorem Znz{C:Ctx}{S:St}{m:Mem}{a:Act}{w:World}(h:Rel C S m a w)(ds:List DOp):Rel C (Zi1 ds S) m a w:=
 h.restrict rfl rfl (λ_ _ hx=>hx) (λ_ _ ht=>.inl ht) (λi sv he=>by
  obtain⟨v,h1,h2⟩:=h.env i sv he
  exact⟨v,by cases sv <;> exact h1,h2⟩) (λid x hx=>by simp only[Zi1];exact List.mem_append_right _ (h.ids id x hx)) (λk t ht=>by simp only[Zi1];exact List.mem_append_right _ (h.tkeys k t ht))
theorem Zhw{ops:Array Oper}{listed:Array Bool}{done:List Nat}(bJ:listed.size=ops.size)(hd:∀j,listed.getD j false=mem done j)(i:Nat):i∈Region.ready .any ops listed↔i∈Zi2 ops done:=by
 unfold Zi2
 rw[mem_ready,List.mem_filter,List.mem_range]
 constructor
 ·rintro⟨j6,o,ho,cR⟩
  have hi:i < ops.size:=(Array.getElem?_eq_some_iff.1 ho).1
  have hl:i < listed.size:=by omega
  refine⟨hi,?_⟩
  have h1:mem done i=false:=by rw[<-hd i];simpa[Array.getD,hl]using j6
  have ho':ops.toList[i]?=some o:=by simpa using ho
  rw[h1,ho']
  simp only[Bool.not_false,Bool.true_and,List.all_eq_true]
  intro p hp
  simp only[Zc2,List.mem_map,List.mem_filter]at hp
  obtain⟨e,⟨he,hb⟩,rfl⟩:=hp
  rw[<-hd];exact cR e (by simpa using he) hb
 ·rintro⟨hi,h⟩
  simp only[zA7,Bool.not_eq_true']at h
  obtain⟨h1,h2⟩:=h
  have hl:i < listed.size:=by omega
  split at h2
  ·cases h2
  ·rename_i o ho
   rw[List.all_eq_true]at h2
   refine⟨by rw[<-hd i]at h1;simpa[Array.getD,hl]using h1,o,by simpa using ho,λe he hb=>?_⟩
   rw[hd]
   exact h2 _ (by
    simp only[Zc2,List.mem_map,List.mem_filter]
    exact⟨e,⟨by simpa using he,hb⟩,rfl⟩)
theorem Zky{l:List Nat}:Zno l=true↔l=[]:=by cases l <;> simp[Zno]
theorem ZnA{E:Env}(hE:E.ok){C:Ctx}{F:Fence}(hF:FOk F)(hY:YOk E C){n:Nat}{ops:Array Oper}{K:St->Mem->Prop}{Q:Exit->Act->World->Prop}(aB:Zm3 C.n ops.toList=true)(hK:∀S' m' a' w',K S' m'->Rel C S' m' a' w'->Q .normal a' w'):
  ∀(f:Nat)(done:List Nat)(listed:Array Bool)(S:St)(m:Mem)(a:Act)(w:World),listed.size=ops.size->(∀j,listed.getD j false=mem done j)->ZgC E ops K f done S m->Rel C S m a w->wpAnyIn F n E.P .any ops Q f listed a w:=by
 have nil:∀{listed:Array Bool} {done:List Nat},listed.size=ops.size->(∀j,listed.getD j false=mem done j)->(Zi2 ops done=[]↔Region.ready .any ops listed=[]):=λbJ hd=>
  ⟨λe=>List.eq_nil_iff_forall_not_mem.2 λi hi=>(by rw[Zhw bJ hd,e]at hi;exact absurd hi (List.not_mem_nil)),λe=>List.eq_nil_iff_forall_not_mem.2 λi hi=>(by rw[<-Zhw bJ hd,e]at hi;exact absurd hi (List.not_mem_nil))⟩
 intro f
 induction f with
 | zero=>
  intro done listed S m a w bJ hd h hr
  simp only[ZgC]at h
  obtain⟨h1,h2⟩:=Zag h
  exact⟨(nil bJ hd).1 (Zky.1 h1),hK _ _ _ _ h2 hr⟩
 | succ f ih=>
  intro done listed S m a w bJ hd h hr
  simp only[ZgC]at h
  cases hn:Zno (Zi2 ops done)with
  | true=>
   rw[hn]at h
   have he:=(nil bJ hd).1 (Zky.1 hn)
   exact⟨λ_=>hK _ _ _ _ h hr,λi hi=>by rw[he]at hi;cases hi⟩
  | false=>
   rw[hn]at h
   simp only[cond_false]at h
   refine⟨λe=>?_,λi hi=>?_⟩
   ·rw[(nil bJ hd).2 e]at hn;cases hn
   ·have h1:=Znq h i ((Zhw bJ hd i).1 hi)
    obtain⟨j6,o,ho,_⟩:=mem_ready.1 hi
    have hi':i < ops.size:=(Array.getElem?_eq_some_iff.1 ho).1
    have oT:ops.toList[i]?=some o:=by simpa using ho
    rw[oT]at h1
    have h1:ZyL E ops o S m (ZgC E ops K f (i::done)):=h1
    have:=Zhq hE hF hY (ZdK aB _ o oT) hr h1 (n:=n) (Q:=Q) (next:=wpAnyIn F n E.P .any ops Q f (listed.setIfInBounds i true)) (λS2 m2 a2 w2 iT jy=>ih (i::done) _ S2 m2 a2 w2 (by simpa using bJ) (λj=>by
     by_cases e:j=i
     ·subst e
      rw[ZbD.2 (List.mem_cons_self ..)]
      simp[Array.getD,show j < listed.size by omega]
     ·rw[getD_set_ne false (Ne.symm e),hd j]
      simp[mem,Zas e]) iT jy)
    unfold wpOpIn
    simp only[ho]
    exact this
theorem Zkz{E:Env}(hE:E.ok)(dH:E.P.follows .mixedOrders=true):ZcO E (Zi3 E):=by
 intro C F hF hY n id ops K S m a w Q aB hr h hK
 have over:∀(fuel:Nat)(listed:Array Bool)(S':St)(m':Mem)(a':Act)(w':World),listed.size=ops.size->(∀j,j < ops.size->listed.getD j false=true)->K S' m'->Rel C S' m' a' w'->wpAnyIn F n E.P .any ops Q fuel listed a' w':=by
  intro fuel listed S' m' a' w' bJ cR hk aZ
  have mK:Region.ready .any ops listed=[]:=by
   cases cz:Region.ready .any ops listed with
   | nil=>rfl
   | cons i l=>
    exfalso
    have hi:i∈Region.ready .any ops listed:=by rw[cz];simp
    obtain⟨j6,o,ho,_⟩:=mem_ready.1 hi
    have aJ:i < ops.size:=(Array.getElem?_eq_some_iff.1 ho).1
    have h1:=cR i aJ
    have hl:i < listed.size:=by omega
    simp[Array.getD,hl]at j6 h1
    rw[j6]at h1;cases h1
  cases fuel with
  | zero=>exact⟨mK,hK _ _ _ _ hk aZ⟩
  | succ fuel=>exact⟨λ_=>hK _ _ _ _ hk aZ,λi hi=>by rw[mK]at hi;simp at hi⟩
 unfold Zi3 at h
 cases hh:E.hot id with
 | true=>
  simp only[hh,cond_true]at h
  obtain⟨_,h2⟩:=Zag h
  refine wpIn_region_any dH ?_
  exact ZnA hE hF hY aB hK ops.size [] _ S m a _ (by simp) (λj=>by simp[Array.getD,mem]) h2 hr.drew
 | false=>
 simp only[hh,cond_false]at h
 obtain⟨h1,h2⟩:=Zag h
 obtain⟨f,h2⟩:=ZuR h2
 have h2:ZhG E ops m f (E.dr id) (λS' μ=>Zy2 m μ (ZhI ops (E.dr id)) λM=>bif E.last id then Zsg E ops (E.lastK id) K S' M else K S' M) (Zi1 (E.dr id) S) (λ_=>m):=by
  cases oO:E.gb with
  | false=>simp only[oO,cond_false]at h2;exact h2
  | true=>simp only[oO,cond_true]at h2;exact Ziq h2
 simp only[Zw5,zA7,List.all_eq_true,List.any_eq_true]at h1
 obtain⟨⟨⟨⟨mI,aH⟩,cH⟩,fX⟩,eT⟩:=h1
 refine wpIn_region_any dH ?_
 have gi:∀i,i < (bif E.last id then ops.size - E.lastK id else ops.size)->∃d∈E.dr id,d.i=i:=λi hi=>by
  obtain⟨d,hd,e⟩:=mI i (List.mem_range.2 hi)
  exact⟨d,hd,Nat.eq_of_beq_eq_true e⟩
 have aH:(E.dr id).length<=ops.size:=Nat.le_of_ble_eq_true aH
 have inv0:Inv (E.dr id) (λj=>(Array.replicate ops.size false).getD j false) (E.dr id):=by
  refine⟨(List.filter_eq_self.2 λc hc=>?_).symm,λd hd nN=>?_⟩
  ·simp[Array.getD]
  ·simp[Array.getD]at nN
 have none0:∀j,(Array.replicate ops.size false).getD j false=true->False:=λj hj=>by simp[Array.getD]at hj
 have ids0:∀d∈E.dr id,(∀i,i∈d.ws->i∈(Zi1 (E.dr id) S).ids)/\∀k,d.tk=some k->k∈(Zi1 (E.dr id) S).tkeys:=λd hd=>
  ⟨λi hi=>List.mem_append_left _ (Znx hd hi),λk hk=>List.mem_append_left _ (Zny hd hk)⟩
 cases hl:E.last id with
 | false=>
  simp only[hl,cond_false]at h2 gi
  refine Znw hE hF hY aB (by simpa using fX) cH (e:=0) (λlisted _ i _ _ _ hi=>.inl ?_) (λfuel listed S' m' a' w' _ bJ cR _ hk aZ=>over fuel listed S' m' a' w' bJ (λj hj=>by obtain⟨d,hd,rfl⟩:=gi j hj;exact cR d hd) hk aZ) ops.size (rem:=E.dr id) (A:=m) (by simp) inv0 (by omega) ((Znz hr.drew (E.dr id))) (Mem.le_refl m) (λj hj=>(none0 j hj).elim) (λj hj=>(none0 j hj).elim) (λ_=>rfl) ids0 h2
  obtain⟨_,o,ho,_⟩:=mem_ready.1 hi
  exact gi i (Array.getElem?_eq_some_iff.1 ho).1
 | true=>
  simp only[hl,cond_true]at h2 gi eT
  generalize E.lastK id=k at *
  unfold Zw6 at eT
  simp only[zA7,List.all_eq_true]at eT
  obtain⟨⟨my,oU⟩,wj⟩:=eT
  have my:=Nat.le_of_ble_eq_true my
  have gC:∀i,ops.size - k<=i->i < ops.size->∃o,ops[i]?=some o/\(ops.size - k < i->i - 1∈Zc2 o)/\(∀j∈Zc2 o,j < i)/\(i=ops.size - k->∀j,j < ops.size - k->j∈Zc2 o\/∃p∈Zc2 o,∃c∈E.dr id,c.i=p/\j∈c.an):=by
   intro i h1 h2
   have:=oU (i - (ops.size - k)) (List.mem_range.2 (by omega))
   rw[show ops.size - k+(i - (ops.size - k))=i by omega]at this
   split at this
   ·cases this
   ·rename_i o ho
    simp only[zA7,List.all_eq_true]at this
    refine⟨o,by simpa using ho,λhj=>?_,λj hj=>Nat.le_of_ble_eq_true (this.2.1 j hj),λhi j hj=>?_⟩
    ·have h3:=this.1
     simp only[Bool.or_eq_true,ZbD]at h3
     rcases h3 with h3|h3
     ·have:=Nat.eq_of_beq_eq_true h3;omega
     ·exact h3
    ·have h3:=this.2.2
     rw[hi,Nat.sub_self]at h3
     simp only[show Nat.beq 0 0=true from rfl,cond_true,List.all_eq_true,Bool.or_eq_true,List.any_eq_true]at h3
     rcases h3 j (List.mem_range.2 hj)with h4|⟨p,hp,h4⟩
     ·exact .inl (ZbD.1 h4)
     ·obtain⟨c,hc,h5,h6⟩:=Zi6 (ZbD.1 h4)
      exact .inr ⟨p,hp,c,hc,h5,h6⟩
  have kL:∀d∈E.dr id,d.i < ops.size - k:=λd hd=>Nat.le_of_ble_eq_true (wj d hd)
  have x0:(E.dr id).length+k<=ops.size:=by
   have nL:(E.dr id).Pairwise λc d=>c.i≠d.i:=ZfG λl1 d l2 e c hc=>by
    obtain⟨o,_,_,h⟩:=Zi7 cH e
    exact(h c hc).2
   have eN:((E.dr id).map (·.i)).Nodup:=by
    unfold List.Nodup
    rw[List.pairwise_map]
    exact nL
   have:=List.Nodup.length_le_of_subset eN (l₂:=List.range (ops.size - k)) (λj hj=>by
    obtain⟨d,hd,rfl⟩:=List.mem_map.1 hj
    exact List.mem_range.2 (kL d hd))
   simp at this
   omega
  have tail:∀(r:List Oper)(i:Nat),ops.toList.drop i=r->ops.size - k<=i->i<=ops.size->∀(fuel:Nat)(listed:Array Bool)(S':St)(m':Mem)(a':Act)(w':World),r.length<=fuel->listed.size=ops.size->(∀j,j < i->listed.getD j false=true)->(∀j,i<=j->listed.getD j false=false)->Zsf E ops K r S' m'->Rel C S' m' a' w'->wpAnyIn F n E.P .any ops Q fuel listed a' w':=by
   intro r
   induction r with
   | nil=>
    intro i hi h1 h2 fuel listed S' m' a' w' _ bJ cR _ hk aZ
    have:ops.size<=i:=by
     have:=congrArg List.length hi
     simp at this
     omega
    exact over fuel listed S' m' a' w' bJ (λj hj=>cR j (by omega)) hk aZ
   | cons o r ih=>
    intro i hi h1 h2 fuel listed S' m' a' w' oQ bJ cR eS hk aZ
    have dh:i < ops.size:=by
     have:=congrArg List.length hi
     simp at this
     omega
    obtain⟨o',ho',x4,fN,_⟩:=gC i h1 dh
    have oT:ops.toList[i]?=some o:=by
     have:=congrArg (λl=>l[0]?) hi
     simpa using this
    have wk:o'=o:=by
     have:ops.toList[i]?=some o':=by simpa using ho'
     rw[oT]at this;cases this;rfl
    subst wk
    have wl:ops.toList.drop (i+1)=r:=by
     have:=congrArg (List.drop 1) hi
     simpa[List.drop_drop,Nat.add_comm]using this
    obtain⟨fuel,rfl⟩:∃k,fuel=k+1:=⟨fuel - 1,by simp at oQ;omega⟩
    have j6:listed.getD i false=false:=eS i (Nat.le_refl _)
    have d5:i < listed.size:=by omega
    refine⟨λcz=>?_,λq hq=>?_⟩
    ·exfalso
     have:i∈Region.ready .any ops listed:=mem_ready.2 ⟨by simpa[Array.getD,d5]using j6,o',ho',λe he hb=>?_⟩
     ·rw[cz]at this;simp at this
     ·have hm:e.on∈Zc2 o':=by
       simp only[Zc2,List.mem_map,List.mem_filter]
       exact⟨e,⟨by simpa using he,hb⟩,rfl⟩
      exact cR _ (fN _ hm)
    ·obtain⟨uh,o2,gy,gE⟩:=mem_ready.1 hq
     have hq':q < ops.size:=(Array.getElem?_eq_some_iff.1 gy).1
     have:q=i:=by
      by_cases h3:q < i
      ·have h4:=cR q h3
       have hl:q < listed.size:=by omega
       simp[Array.getD,hl]at uh h4
       rw[uh]at h4;cases h4
      ·by_cases h4:q=i
       ·exact h4
       ·exfalso
        obtain⟨o3,rW,rX,_⟩:=gC q (by omega) hq'
        rw[rW]at gy;cases gy
        have:=rX (by omega)
        simp only[Zc2,List.mem_map,List.mem_filter]at this
        obtain⟨e,⟨he,hb⟩,h5⟩:=this
        have:=gE e (by simpa using he) hb
        rw[h5,eS (q - 1) (by omega)]at this;cases this
     subst this
     simp only[Zsf]at hk
     have:=Zhq hE hF hY (ZdK aB _ o' oT) aZ hk (n:=n) (Q:=Q) (next:=wpAnyIn F n E.P .any ops Q fuel (listed.setIfInBounds q true)) (λS2 m2 a2 w2 iT jy=>ih (q+1) wl (by omega) (by omega) fuel _ S2 m2 a2 w2 (by simp at oQ;omega) (by simpa using bJ) (λj hj=>by
      by_cases e:j=q
      ·subst e;simp[Array.getD,d5]
      ·rw[getD_set_ne false (Ne.symm e)]
       exact cR j (by omega)) (λj hj=>by
      rw[getD_set_ne false (by omega)]
      exact eS j (by omega)) iT jy)
     unfold wpOpIn
     simp only[ho']
     exact this
  refine Znw hE hF hY aB (by simpa using fX) cH (e:=k) (λlisted rem i dI kK bJ hi=>?_) (λfuel listed S' m' a' w' oQ bJ cR kK hk aZ=>?_) ops.size (rem:=E.dr id) (A:=m) (by simp) inv0 (by omega) ((Znz hr.drew (E.dr id))) (Mem.le_refl _) (λj hj=>(none0 j hj).elim) (λj hj=>(none0 j hj).elim) (λ_=>rfl) ids0 h2
  ·obtain⟨_,o2,gy,cR⟩:=mem_ready.1 hi
   have hi':i < ops.size:=(Array.getElem?_eq_some_iff.1 gy).1
   by_cases gH:i < ops.size - k
   ·exact .inl (gi i gH)
   ·right
    obtain⟨o3,rW,rX,_,wm⟩:=gC i (by omega) hi'
    have wo:o2=o3:=by rw[rW]at gy;cases gy;rfl
    subst wo
    have ia:∀j∈Zc2 o2,listed.getD j false=true:=λj hj=>by
     simp only[Zc2,List.mem_map,List.mem_filter]at hj
     obtain⟨e,⟨he,hb⟩,h3⟩:=hj
     have:=cR e (by simpa using he) hb
     rw[h3]at this
     exact this
    intro d hd
    by_cases wp:i=ops.size - k
    ·rcases wm wp d.i (kL d hd)with h3|⟨p,hp,c,hc,h3,h4⟩
     ·exact ia _ h3
     ·exact dI.closed c hc (h3 ▸ ia p hp) d.i h4
    ·exfalso
     have h3:=ia _ (rX (by omega))
     obtain⟨d',hd',h4⟩:=kK _ h3
     have:=kL d' hd'
     omega
  ·unfold Zsg at hk
   refine tail _ (ops.size - k) rfl (Nat.le_refl _) (Nat.sub_le _ _) fuel listed S' m' a' w' (by simp;omega) bJ (λj hj=>?_) (λj hj=>?_) hk aZ
   ·obtain⟨d,hd,rfl⟩:=gi j hj
    exact cR d hd
   ·cases hb:listed.getD j false with
    | false=>rfl
    | true=>
     obtain⟨d,hd,h3⟩:=kK _ hb
     have:=kL d hd
     omega
theorem ZkA{E:Env}(hE:E.ok)(dH:E.P.follows .mixedOrders=true):ZcO E (λid ops K S m=>Zmf E id (λS m=>Zi3 E id ops K S m) S m):=by
 intro C F hF hY n id ops K S m a w Q aB hr h hK
 unfold Zmf at h
 split at h
 ·exact Zkz hE dH hF hY n id ops aB hr h hK
 ·split at h
  ·exact h.elim
  ·rename_i mm dQ
   obtain⟨c1,p,n',c,z1,z2,z3⟩:=Zag h
   simp only[zA7,Bool.not_eq_true']at c1
   exact Zkz hE dH hF hY n id ops aB (hr.acq hY dQ c1.2.2 z1 z2) z3 hK
theorem ZgF{E:Env}(hE:E.ok)(dH:E.P.follows .mixedOrders=true):ZcO E (Za1 E):=by
 intro C F hF hY n id ops K S m a w Q aB hr h hK
 obtain⟨S2,m2,dY,h2⟩:=Zhp hr h
 unfold Zql at h2
 split at h2
 ·exact ZkA hE dH hF hY n id ops aB dY h2 hK
 ·split at h2
  ·rename_i mm hL dQ
   obtain⟨c1,b,cs,y1,y2,y3,y4,y5⟩:=Zag h2
   simp only[zA7,Bool.not_eq_true']at c1
   obtain⟨T,cap,je⟩:=dY.acqB hY dQ c1.2.2 hL y1 y2 y3 y4
   exact ZkA hE dH hF hY n id ops aB je (y5 T cap) hK
  ·exact h2.elim
def ZgG(fn:Func):Code:=match fn.body with
 | some c=>c
 | none=>.skip
def Env.at(E:Env)(m:Mem):Env:={ E with m0:=some m }
def FW(E:Env)(fn:Func)(svs:List SV)(xs:List Box)(m:Mem)(R:Value->Mem->List (List Value)->Prop):Prop:=
 W (E.at m) (Za1 (E.at m)) (ZgG fn) (ZBQ (E.at m) fn.results.toList m xs R) (S0 svs xs) m
def Zzv(E:Env)(fn:Func)(svs:List SV)(xs:List Box):Bool:=
 !(fn.name == "runtime.NumGoroutine")&&fn.body.isSome&&Zat E (ZgG fn)&&Zbs fn.ntmps (ZgG fn)&&Zwt E.frz&&E.yl.isNone&&Nat.ble svs.length fn.ntmps&&Zko xs svs
theorem Zd6{fn:Func}(h:fn.body.isSome=true):fn.body=some (ZgG fn):=by
 unfold ZgG
 cases hb:fn.body with
 | none=>rw[hb]at h;cases h
 | some c=>rfl
theorem Zbd(E:Env)(m:Mem):∀c:Code,Zat (E.at m) c=Zat E c
 | .region _ _ _=>rfl
 | .seq a b=>by simp only[Zat,Zbd E m a,Zbd E m b];rfl
 | .cond _ a b=>by simp only[Zat,Zbd E m a,Zbd E m b]
 | .block _ a=>by simp only[Zat,Zbd E m a]
 | .loop a=>by simp only[Zat,Zbd E m a];rfl
 | .rangeFunc _ _ a b=>by simp only[Zat,Zbd E m a,Zbd E m b]
 | .scope a=>by simp only[Zat,Zbd E m a]
 | .skip=>rfl
 | .label _=>rfl
 | .goto _=>rfl
 | .exit _=>rfl
 | .ret=>rfl
 | .refuse _=>rfl
theorem Zqz{E:Env}(hE:E.ok)(dH:E.P.follows .mixedOrders=true){g:FuncId}{fn:Func}(hf:E.P.funcs[g]?=some fn){m:Mem}{R:Value->Mem->List (List Value)->Prop}(svs:List SV)(xs:List Box)
  (cH:Zzv E fn svs xs=true) (h:FW E fn svs xs m R):CX E.P g (svs.map (Zpo xs)).toArray m xs R:=by
 simp only[Zzv,zA7,Bool.not_eq_true']at cH
 obtain⟨⟨⟨⟨⟨⟨⟨h1,h2⟩,h3⟩,h4⟩,h5⟩,h8⟩,h6⟩,h7⟩:=cH
 exact ZwV (E:=E.at m) hE (Zi4 _) (ZgF (E:=E.at m) hE dH) hf h1 (Zd6 h2) (by rw[Zbd];exact h3) h4 h5 (show E.yl=none by simpa using h8) (λmm fw=>Option.some.inj fw) svs xs h6 h7 h
theorem Zad{E:Env}(hE:E.ok)(dH:E.P.follows .mixedOrders=true){g:FuncId}{fn:Func}(hf:E.P.funcs[g]?=some fn){m:Mem}{R:Value->Mem->List (List Value)->Prop}{vs:List Value}
  (cH:Zzv E fn (vs.map .v) []=true) (h:FW E fn (vs.map .v) [] m R):CX E.P g vs.toArray m [] R:=by
 have:=Zqz hE dH hf (vs.map .v) [] cH h
 rwa [ZwW]at this
theorem ZaX(E:Env)(l:Nat)(xs:List (List Value)):∀c:Code,Zat (E.yields l xs) c=Zat E c
 | .region _ _ _=>rfl
 | .seq a b=>by simp only[Zat,ZaX E l xs a,ZaX E l xs b];rfl
 | .cond _ a b=>by simp only[Zat,ZaX E l xs a,ZaX E l xs b]
 | .block _ a=>by simp only[Zat,ZaX E l xs a]
 | .loop a=>by simp only[Zat,ZaX E l xs a];rfl
 | .rangeFunc _ _ a b=>by simp only[Zat,ZaX E l xs a,ZaX E l xs b]
 | .scope a=>by simp only[Zat,ZaX E l xs a]
 | .skip=>rfl
 | .label _=>rfl
 | .goto _=>rfl
 | .exit _=>rfl
 | .ret=>rfl
 | .refuse _=>rfl
def FWI(E:Env)(fn:Func)(first captured:List Value)(m:Mem)(xs:List (List Value)):Prop:=
 ∀l,W (E.yields l xs) (Za1 (E.yields l xs)) (ZgG fn) (ZAq E fn.results.toList xs.length) (S0 ((first++.func (.yield l) #[] #[]::captured).map .v) []) m
def ZAs(E:Env)(fn:Func)(k:Nat):Bool:=
 !(fn.name == "runtime.NumGoroutine")&&fn.body.isSome&&Zat E (ZgG fn)&&Zbs fn.ntmps (ZgG fn)&&Nat.ble (k+1) fn.ntmps
theorem Zi9{E:Env}(hE:E.ok)(dH:E.P.follows .mixedOrders=true){g:FuncId}{fn:Func}(hf:E.P.funcs[g]?=some fn){m:Mem}(first captured:List Value)(xs:List (List Value))
  (cH:ZAs E fn (first.length+captured.length)=true) (h:FWI E fn first captured m xs):IX E.P g first captured m xs:=by
 simp only[ZAs,zA7,Bool.not_eq_true']at cH
 obtain⟨⟨⟨⟨h1,h2⟩,h3⟩,h4⟩,h5⟩:=cH
 exact ZwX (Za1:=Za1) hE hf h1 (Zd6 h2) h4 first captured xs h5 λl=>
  ⟨Zi4 _,ZgF (E:=E.yields l xs) hE dH,by rw[ZaX];exact h3,h l⟩
end Go.Eng
namespace Go.Eng
open Go Go.RowKit
set_option maxRecDepth 100000
def Zw9:List ResultVar->Nat
 | [.tmp d]=>d
 | _=>0
def ZBG(E:Env)(rs:List ResultVar)(m0:Mem)(esz:Nat)(R:Value->Mem->List (List Value)->Prop)(S:St)(m:Mem):Prop:=
 Zy0 E S m rs λvs=>(match S.tok (E.tokOf (Zw9 rs))with
  | none=>Ztu vs=.slice none 0 0
  | some t=>some t=some ⟨Ztu vs,esz⟩)/\R (Ztu vs) m []
def ZAt(E:Env)(rs:List ResultVar)(m0:Mem)(esz:Nat)(R:Value->Mem->List (List Value)->Prop):KT:=λe S m=>match e with
 | .normal=>ZBG E rs m0 esz R S m
 | .ret=>ZBG E rs m0 esz R S m
 | _=>False
theorem ZuW{E:Env}(hE:E.ok){Za1:Nat->Array Oper->(St->Mem->Prop)->St->Mem->Prop}(hD:ZdG E Za1)(fW:ZcO E Za1){g:FuncId}{fn:Func}{c:Code}
  (hf:E.P.funcs[g]?=some fn) (hn:(fn.name == "runtime.NumGoroutine")=false) (hb:fn.body=some c) (hc:Zat E c=true) (hl:Zbs fn.ntmps c=true) (fD:E.yl=none)
  {m:Mem} (dQ:∀mm,E.m0=some mm->m=mm) {esz:Nat} {R:Value->Mem->List (List Value)->Prop} (svs:List SV) (aH:Nat.ble svs.length fn.ntmps=true) (cH:Zko [] svs=true)
  (h:W E Za1 c (ZAt E fn.results.toList m esz R) (S0 svs []) m):CXT E.P g (svs.map (Zpo [])).toArray m esz R:=by
 refine⟨Zgl hf hn (by simp[hb]),λw hs=>?_⟩
 have aZ:=Znk (n:=fn.ntmps) (xs:=[]) hs (λx hx=>by cases hx) List.nodup_nil cH (Nat.le_of_ble_eq_true aH)
 refine callsIn_wide.1 (callsIn_of_wp_marks (F:=Fence.wide) (n:=0) hf hb trivial ?_)
 refine Zcl hE hD fW c hc (.inl rfl) (YOk.none fD (λmm fw=>⟨dQ mm fw,λg M w' hp k hk=>ZtL (λk hk=>by cases hk) hp k hk⟩)) (λl hl=>by cases hl) 0 hl aZ h ?_
 have key:∀S' m' a' w',ZBG E fn.results.toList m esz R S' m'->Rel (ZAT fn.ntmps m w (([]:List Box).map (·.b))) S' m' a' w'->LeavesInM Fence.wide 0 E.P fn a'.tmps (λe w'=>
   ∃v m',e=Ending.returned v/\m.le m'/\Sub m' w'/\ZeH m m' w w'/\Keep w.heap.size [] w w'/\TokOk m' w' ⟨v,esz⟩/\(∀b,(Tok.mk v esz).blk=some b->w.heap.size<=b)/\R v m' []) a'.defers .returning w':=by
  intro S' m' a' w' hk hr
  obtain⟨ms,q1,_,_⟩:=hr.defers
  refine Rel.leave ?_ ms a' w' rfl q1 hr
  clear hr q1
  intro a2 w2 ht hr
  rw[<-ht]
  obtain⟨vs,⟨aS,hk⟩,aV⟩:=ZdQ hE hr hk
  obtain⟨M,hd⟩:=hr.dom
  have eR:ZeH m m' w w2:=hd.new.mono λb h6=>by
   rcases hd.p.2 b h6 with h6|h6
   ·exact⟨h6.1,h6.2.2⟩
   ·cases h6
  split at aS
  ·refine⟨Ztu vs,Zdc aV,Ztu vs,m',rfl,hr.le,hr.sub,eR,hd.p.1,.inl aS,λb hb=>?_,hk⟩
   rw[aS]at hb;simp[Tok.blk]at hb
  ·rename_i t ht
   cases aS
   refine⟨Ztu vs,Zdc aV,Ztu vs,m',rfl,hr.le,hr.sub,eR,hd.p.1,(hr.toks _ _ ht).1,λb hb=>?_,hk⟩
   rcases hd.p.2 b (hd.tok _ _ _ ht hb)with h6|h6
   ·exact h6.1
   ·cases h6
 intro e S' m' a' w' hk hr
 cases e with
 | normal=>exact key S' m' a' w' hk hr
 | ret=>exact key S' m' a' w' hk hr
 | exit _=>exact hk.elim
 | goto _=>exact hk.elim
 | panic _=>exact hk.elim
 | outgrown=>exact hk.elim
def FWT(E:Env)(fn:Func)(svs:List SV)(m:Mem)(esz:Nat)(R:Value->Mem->List (List Value)->Prop):Prop:=
 W (E.at m) (Za1 (E.at m)) (ZgG fn) (ZAt (E.at m) fn.results.toList m esz R) (S0 svs []) m
theorem Zhx{E:Env}(hE:E.ok)(dH:E.P.follows .mixedOrders=true){g:FuncId}{fn:Func}(hf:E.P.funcs[g]?=some fn){m:Mem}{esz:Nat}{R:Value->Mem->List (List Value)->Prop}(svs:List SV)
  (cH:Zzv E fn svs []=true) (h:FWT E fn svs m esz R):CXT E.P g (svs.map (Zpo [])).toArray m esz R:=by
 simp only[Zzv,zA7,Bool.not_eq_true']at cH
 obtain⟨⟨⟨⟨⟨⟨⟨h1,h2⟩,h3⟩,h4⟩,h5⟩,h8⟩,h6⟩,h7⟩:=cH
 exact ZuW (E:=E.at m) hE (Zi4 _) (ZgF (E:=E.at m) hE dH) hf h1 (Zd6 h2) (by rw[Zbd];exact h3) h4 (show E.yl=none by simpa using h8) (λmm fw=>Option.some.inj fw) svs h6 h7 h
theorem CXT.toCX{P:Program}{g:FuncId}{args:Array Value}{m:Mem}{esz:Nat}{R:Value->Mem->List (List Value)->Prop}(h:CXT P g args m esz R):CX P g args m [] R:=
 ⟨h.1,λw h1 _ _=>(h.2 w h1).mono λ_ _ ⟨v,m',a1,a2,a3,a4,a5,_,_,a8⟩=>⟨v,m',[],a1,a2,a3,a4,a5,rfl,λi x cs hi=>by simp at hi,a8⟩⟩
theorem CXT.mono{P:Program}{g:FuncId}{args:Array Value}{m:Mem}{esz:Nat}{R R':Value->Mem->List (List Value)->Prop}(h:CXT P g args m esz R)(k:∀v m' css,m.le m'->R v m' css->R' v m' css):CXT P g args m esz R':=
 ⟨h.1,λw h1=>(h.2 w h1).mono λ_ _ ⟨v,m',a1,a2,a3,a4,a5,a6,a7,a8⟩=>⟨v,m',a1,a2,a3,a4,a5,a6,a7,k _ _ _ a2 a8⟩⟩
def Zzw(m m':Mem)(esz:Nat)(v:Value):Prop:=v=.slice none 0 0\/∃b o n c,v=.slice (some ⟨b,o,none⟩) n c/\n<=c/\m.free b/\∀q,n*esz<=q->q < c*esz->∃u,m' b (o+q)=some u
theorem CXT.room{P:Program}{g:FuncId}{args:Array Value}{m:Mem}{esz:Nat}{R:Value->Mem->List (List Value)->Prop}(h:CXT P g args m esz R):CX P g args m [] (λv m' _=>∃m1:Mem,m.le m1/\m1.le m'/\R v m1 []/\Zzw m m' esz v):=by
 refine⟨h.1,λw h1 _ _=>(h.2 w h1).mono ?_⟩
 rintro e w' ⟨v,m',a1,a2,a3,a4,a5,a6,a7,a8⟩
 have a9:=a6
 rcases a6 with h6|⟨b,o0,n,c,cur,T,fr,hv,gj,hh,bJ,_,cT⟩
 ·exact⟨v,m',[],a1,a2,a3,a4,a5,rfl,λi x cs hi=>by simp at hi,m',a2,Mem.le_refl _,a8,.inl h6⟩
 ·have hv:v=.slice (some ⟨b,o0,none⟩) n c:=hv
  have hb:w.heap.size<=b:=a7 b (by simp[Tok.blk,hv])
  have bI:m.free b:=λo=>by
   cases he:m b o with
   | none=>rfl
   | some u=>have:=h1.lt he;omega
  have x5:c*esz=n*esz+(c - n)*esz:=by rw[<-Nat.add_mul];congr 1;omega
  have cT:∀o,o0+n*esz<=o->o < o0+c*esz->m' b o=none:=cT
  have bJ:o0+c*esz<=cur.size:=bJ
  obtain⟨P0,mo⟩:∃P0,P0=o0+n*esz:=⟨_,rfl⟩
  obtain⟨zs,ui⟩:∃zs,zs=(cur.toList.drop P0).take ((c - n)*esz):=⟨_,rfl⟩
  have gA:zs.length=(c - n)*esz:=by rw[ui];simp;omega
  have rY:∀q v,zs[q]?=some v->cur[P0+q]?=some v:=λq v hq=>by
   rw[ui,List.getElem?_take]at hq
   split at hq
   ·rw[List.getElem?_drop]at hq;simpa using hq
   ·cases hq
  have cy:m'.le (m'.addAt b P0 zs):=⟨λb' o v hv'=>by
   simp only[Mem.addAt]
   split
   ·rename_i hc
    obtain⟨rfl,ho⟩:=hc
    cases hz:zs[o - P0]? with
    | none=>simp only[hz];exact hv'
    | some u=>
     have hq:=(zA0 hz).1
     rw[cT o (by omega) (by omega)]at hv';cases hv'
   ·exact hv',λ_ _ h=>h⟩
  have cx:∀b' o u,m'.addAt b P0 zs b' o=some u->m' b' o=some u\/(b'=b/\w'.cell? ⟨b',o,none⟩=some u):=λb' o u hu=>by
   simp only[Mem.addAt]at hu
   split at hu
   ·rename_i hc
    obtain⟨rfl,ho⟩:=hc
    cases hz:zs[o - P0]? with
    | none=>simp only[hz]at hu;exact .inl hu
    | some x=>
     simp only[hz]at hu;cases hu
     have:=rY _ _ hz
     rw[show P0+(o - P0)=o by omega]at this
     refine .inr ⟨rfl,?_⟩
     simp only[World.cell?,hh]
     simpa using this
   ·exact .inl hu
  refine⟨v,m'.addAt b P0 zs,[],a1,mLt a2 cy,⟨λb' o u hu=>(cx b' o u hu).elim (a3 b' o u) (·.2),a3.k⟩,a4.addAt _ ⟨hb,a9.wr (by simp[Tok.blk,hv])⟩,a5,rfl,λi x cs hi=>by simp at hi,m',a2,cy,a8,.inr ⟨b,o0,n,c,hv,gj,bI,λq gB oz=>?_⟩⟩
  have aB:o0+q - P0 < zs.length:=by omega
  refine⟨zs[o0+q - P0],?_⟩
  simp only[Mem.addAt]
  rw[if_pos ⟨trivial,by omega⟩,zA3 aB]
def Zlr:List Nat->List Tok->Nat->Option Tok
 | k::ks,t::ts=>λi=>bif Nat.beq i k then some t else Zlr ks ts i
 | _,_=>λ_=>none
theorem Zit:∀{ks:List Nat} {ts:List Tok} {i:Nat} {t:Tok},Zlr ks ts i=some t->∃q:Nat,ks[q]?=some i/\ts[q]?=some t
 | [],ts,i,t,h=>by simp[Zlr]at h
 | k::ks,[],i,t,h=>by simp[Zlr]at h
 | k::ks,t0::ts,i,t,h=>by
  by_cases hi:i=k
  ·subst hi;simp[Zlr]at h;subst h;exact⟨0,rfl,rfl⟩
  ·simp only[Zlr,Zas hi,cond_false]at h
   obtain⟨q,h1,h2⟩:=Zit h
   exact⟨q+1,by simpa using h1,by simpa using h2⟩
def S0Y(svs:List SV)(xs:List Box)(ks:List Nat)(ts:List Tok):St:={ S0 svs xs with tok:=Zlr ks ts,tkeys:=ks }
def Zja(S:St):List Nat->List Tok->(List Value->Prop)->Prop
 | k::ks,t::ts,r=>match S.tok k with
  | none=>False
  | some t'=>chk (Nat.beq t'.esz t.esz) (Zja S ks ts λtvs=>r (t'.v::tvs))
 | [],[],r=>r []
 | _,_,_=>False
theorem ZeQ{S:St}:∀{ks:List Nat} {ts:List Tok} {r:List Value->Prop},Zja S ks ts r->∃tvs,tvs.length=ts.length/\ks.length=ts.length/\(∀(i:Nat)(t:Tok)(tv:Value),ts[i]?=some t->tvs[i]?=some tv->∃k:Nat,ks[i]?=some k/\S.tok k=some ⟨tv,t.esz⟩)/\r tvs
 | [],[],r,h=>⟨[],rfl,rfl,λi t tv h=>by simp at h,h⟩
 | [],_::_,r,h=>h.elim
 | _::_,[],r,h=>h.elim
 | k::ks,t::ts,r,h=>by
  unfold Zja at h
  cases ht:S.tok k with
  | none=>simp[ht]at h
  | some t'=>
   simp only[ht]at h
   obtain⟨h1,h2⟩:=Zag h
   have he:=Nat.eq_of_beq_eq_true h1
   obtain⟨tvs,g1,g2,g3,g4⟩:=ZeQ h2
   refine⟨t'.v::tvs,by simp[g1],by simp[g2],λi t0 tv hi hv=>?_,g4⟩
   cases i with
   | zero=>
    simp at hi hv;subst hi hv
    exact⟨k,rfl,by rw[ht,<-he]⟩
   | succ i=>simpa using g3 i t0 tv (by simpa using hi) (by simpa using hv)
def Zy6(E:Env)(rs:List ResultVar)(xs:List Box)(ks:List Nat)(ts:List Tok)(R:Value->Mem->List (List Value)->List Value->Prop)(S:St)(m:Mem):Prop:=
 Zy0 E S m rs λvs=>Zws S 0 xs λcss=>Zja S ks ts λtvs=>ZwU E S m (R (Ztu vs) (ZrO S E.frz m) css tvs)
def ZAu(E:Env)(rs:List ResultVar)(xs:List Box)(ks:List Nat)(ts:List Tok)(R:Value->Mem->List (List Value)->List Value->Prop):KT:=λe S m=>match e with
 | .normal=>Zy6 E rs xs ks ts R S m
 | .ret=>Zy6 E rs xs ks ts R S m
 | _=>False
def Zy7(n:Nat)(m:Mem)(w:World)(B:Nat->Prop):Ctx where
 n:=n
 m0:=m
 me:=m
 mle:=Mem.le_refl m
 p:=λ_ M w'=>Upd B w w'/\∀k,M k->(w.heap.size<=k/\k < w'.heap.size/\Wr w' k)\/B k
 st:=by
  rintro g M M' w1 w2 ⟨h1,h2⟩ hu hg
  refine⟨⟨hu.os.trans h1.os,hu.tape.trans h1.tape,hu.output.trans h1.output,Nat.le_trans h1.size hu.size,λk hk hn=>?_,λk hl hk=>hu.wr k (Nat.lt_of_lt_of_le hl h1.size) (h1.wr k hl hk)⟩,λk hk=>?_⟩
  ·rw[hu.block k (Nat.lt_of_lt_of_le hk h1.size) λhm=>?_,h1.block k hk hn]
   rcases h2 k hm with h|h
   ·omega
   ·exact hn h
  ·rcases hg k hk with h|h
   ·exact(h2 k h).imp_left λh=>⟨h.1,Nat.lt_of_lt_of_le h.2.1 hu.size,hu.wr k h.2.1 h.2.2⟩
   ·have:=h1.size;exact .inl ⟨by omega,h.2⟩
theorem ZpA{n:Nat}{w:World}{m:Mem}{Y:Nat->Prop}{xs:List Box}{svs:List SV}{ks:List Nat}{ts:List Tok}(hs:Sub m w)(hx:∀x∈xs,Own m w x/\x.fz=false/\¬Y x.b)(eN:(xs.map (·.b)).Nodup)(cH:Zko xs svs=true)(hn:svs.length<=n)
  (ht:∀t∈ts,TokOk m w t/\∀b,t.blk=some b->Y b) (iE:Zwm ts) (hY:∀b,Y b->b < w.heap.size/\Wr w b):
  Rel (Zy7 n (m.off Y) w (λk=>k∈xs.map (·.b)\/Y k)) (S0Y svs xs ks ts) m { tmps:=(svs.map (Zpo xs)).toArray++Array.replicate (n - (svs.map (Zpo xs)).toArray.size) undef,defers:=[] } w:=by
 have hL:∀id x,(S0Y svs xs ks ts).L id=some x->100000<=id/\xs[id - 100000]?=some x:=λid x h=>by
  simp only[S0Y,S0]at h
  cases hb:Nat.ble 100000 id with
  | false=>simp[hb]at h
  | true=>simp only[hb,cond_true]at h;exact⟨Nat.le_of_ble_eq_true hb,h⟩
 have hT:∀k t,(S0Y svs xs ks ts).tok k=some t->∃q:Nat,ks[q]?=some k/\ts[q]?=some t:=λk t h=>Zit h
 refine⟨⟨[],rfl,List.nodup_nil,by simp⟩,by simp[Zy7];omega,?_,?_,?_,?_,?_,?_,?_,hs,Mem.off_le m Y,⟨λk=>k∈xs.map (·.b)\/Y k,⟨Upd.refl _ _,λk hk=>.inr hk⟩,λk hk=>?_,λid x hx=>?_,λk t b h1 h2=>?_,by simp,⟨λb o v hv=>?_,λb e he=>?_⟩⟩,λ_=>rfl⟩
 ·intro i sv he
  simp only[S0Y,S0]at he
  have aB:=(zA0 he).1
  have h1:=Zhs cH i sv he
  refine⟨Zpo xs sv,?_,?_⟩
  ·cases sv with
   | v x=>rfl
   | loc id off=>
    simp only[Zzs,zA7]at h1
    have h2:id - 100000 < xs.length:=Zlo h1.2
    simp[St.den,S0Y,S0,Zpo,h1.1,zA3 h2]
   | sl id n c=>
    simp only[Zzs,zA7]at h1
    have h2:id - 100000 < xs.length:=Zlo h1.2
    simp[St.den,S0Y,S0,Zpo,h1.1,zA3 h2]
  ·rw[Array.getElem?_append_left (by simpa using aB)]
   simp[he]
 ·intro id x hx'
  exact(hx x (zA2 (hL id x hx').2)).1
 ·intro id id' x x' h1 h2 hb
  obtain⟨g1,g2⟩:=hL _ _ h1
  obtain⟨g3,g4⟩:=hL _ _ h2
  have hi:=(zA0 g2).1
  have:=(List.getElem?_inj (l:=xs.map (·.b)) (i:=id - 100000) (j:=id' - 100000) (by simpa using hi) eN).1 (by simp[g2,g4,hb])
  omega
 ·intro id x h1
  obtain⟨g1,g2⟩:=hL _ _ h1
  have hi:=(zA0 g2).1
  simp only[S0Y,S0,List.mem_map,List.mem_range,bid]
  exact⟨id - 100000,hi,by omega⟩
 ·intro k t h1
  obtain⟨q,_,h2⟩:=hT k t h1
  obtain⟨g1,g2⟩:=ht t (zA2 h2)
  exact⟨g1,λb hb=>⟨λid x rP e=>(hx x (zA2 (hL id x rP).2)).2.2 (e ▸ g2 b hb),Mem.off_free (g2 b hb)⟩⟩
 ·intro k t h1
  obtain⟨q,h2,_⟩:=hT k t h1
  exact zA2 h2
 ·intro k k' t t' b h1 h2 h3 h4
  obtain⟨q,g1,g2⟩:=hT k t h1
  obtain⟨q',g3,g4⟩:=hT k' t' h2
  have:=iE q q' t t' b g2 g4 h3 h4
  subst this
  rw[g1]at g3;exact Option.some.inj g3
 ·rcases hk with hk|hk
  ·obtain⟨x,h1,h2⟩:=List.mem_map.1 hk
   exact h2 ▸ (hx x h1).1.lt
  ·exact(hY k hk).1
 ·exact .inl (List.mem_map.2 ⟨x,zA2 (hL id x hx).2,rfl⟩)
 ·obtain⟨q,_,g2⟩:=hT k t h1
  exact .inr ((ht t (zA2 g2)).2 b h2)
 ·by_cases eP:Y b
  ·exact .inr (.inr eP)
  ·exact .inl (by show m.off Y b o=some v;rw[Mem.off_at eP];exact hv)
 ·by_cases eP:Y b
  ·exact .inr (.inr eP)
  ·exact .inl (by show(m.off Y).k b=some e;rw[Mem.off_k eP];exact he)
theorem TokOk.sl{m:Mem}{w:World}{t:Tok}(h:TokOk m w t):ZbQ t.v=true:=by
 rcases h with h|⟨b,o0,n,c,_,_,_,h,_⟩
 ·rw[h];rfl
 ·rw[h];rfl
theorem ZuX{E:Env}(hE:E.ok){Za1:Nat->Array Oper->(St->Mem->Prop)->St->Mem->Prop}(hD:ZdG E Za1)(fW:ZcO E Za1){g:FuncId}{fn:Func}{c:Code}
  (hf:E.P.funcs[g]?=some fn) (hn:(fn.name == "runtime.NumGoroutine")=false) (hb:fn.body=some c) (hc:Zat E c=true) (hl:Zbs fn.ntmps c=true) (hz:Zwt E.frz=true) (fD:E.yl=none)
  {m:Mem} {Y:Nat->Prop} (dQ:∀mm,E.m0=some mm->m.off Y=mm) {R:Value->Mem->List (List Value)->List Value->Prop} (svs:List SV) (xs:List Box) (ks:List Nat) (ts:List Tok) (my:ZbT ks=true) (aH:Nat.ble svs.length fn.ntmps=true) (cH:Zko xs svs=true)
  (h:W E Za1 c (ZAu E fn.results.toList xs ks ts R) (S0Y svs xs ks ts) m):CXY E.P g (svs.map (Zpo xs)).toArray m Y xs ts R:=by
 refine⟨Zgl hf hn (by simp[hb]),λw hs hx eN ht iE hY=>?_⟩
 have aZ:=ZpA (n:=fn.ntmps) (ks:=ks) hs hx eN cH (Nat.le_of_ble_eq_true aH) ht iE hY
 refine callsIn_wide.1 (callsIn_of_wp_marks (F:=Fence.wide) (n:=0) hf hb trivial ?_)
 refine Zcl hE hD fW c hc (.inl rfl) (YOk.none fD (λmm fw=>⟨dQ mm fw,λg M w' hp k hk=>?_⟩)) (λl hl=>by cases hl) 0 hl aZ h ?_
 ·rcases hp.2 k hk with h1|h1|h1
  ·exact h1.2.2
  ·obtain⟨x,h2,rfl⟩:=List.mem_map.1 h1
   exact hp.1.wr _ (hx x h2).1.lt (hx x h2).1.wr
  ·exact hp.1.wr k (hY k h1).1 (hY k h1).2
 have key:∀S' m' a' w',Zy6 E fn.results.toList xs ks ts R S' m'->Rel (Zy7 fn.ntmps (m.off Y) w (λk=>k∈xs.map (·.b)\/Y k)) S' m' a' w'->LeavesInM Fence.wide 0 E.P fn a'.tmps (λe w'=>
   ∃v m' css tvs,e=.returned v/\(m.off Y).le m'/\Sub m' w'/\NewM m m' (λb=>Y b\/(w.heap.size<=b/\Wr w' b))/\Upd (λk=>k∈xs.map (·.b)\/Y k) w w'/\
   css.length=xs.length/\(∀(i:Nat)(x:Box)(cs:List Value),xs[i]?=some x->css[i]?=some cs->Own m' w' { x with cs:=cs })/\
   tvs.length=ts.length/\(∀(i:Nat)(t:Tok)(tv:Value),ts[i]?=some t->tvs[i]?=some tv->ZbQ tv=true/\TokOk m' w' ⟨tv,t.esz⟩/\∀b,(Tok.mk tv t.esz).blk=some b->(Y b\/w.heap.size<=b)/\b ∉ xs.map (·.b))/\
   Zwm ((ts.zip tvs).map λq=>⟨q.2,q.1.esz⟩)/\R v m' css tvs) a'.defers .returning w':=by
  intro S' m' a' w' hk hr
  obtain⟨ms,q1,_,_⟩:=hr.defers
  refine Rel.leave ?_ ms a' w' rfl q1 hr
  clear hr q1
  intro a2 w2 wq hr
  rw[<-wq]
  obtain⟨vs,hk,aV⟩:=ZdQ hE hr hk
  obtain⟨css,h1,h2,hk⟩:=ZfD hk
  obtain⟨tvs,k1,k2,k3,h5⟩:=ZeQ hk
  have h5:=Zkp hr h5
  obtain⟨M,hd⟩:=hr.dom
  simp only[Zwt,zA7]at hz
  have rO:=ZaZ hz.1
  have iS:=ZaZ my
  obtain⟨f1,f2,f3⟩:=Zqp hr rO
  have frzlt:∀id∈E.frz,id < 100000:=λid de=>Zlo (List.all_eq_true.1 hz.2 id de)
  have boxOf:∀b,b∈xs.map (·.b)->∃(i:Nat)(x:Box)(cs:List Value),xs[i]?=some x/\x.b=b/\S'.L (bid i)=some { x with cs:=cs }:=λb hb=>by
   obtain⟨y,hy,eP⟩:=List.mem_map.1 hb
   obtain⟨i,hi⟩:=List.getElem?_of_mem hy
   obtain⟨cs,_,fx⟩:=h2 i y hi
   exact⟨i,y,cs,hi,eP,by rw[Nat.zero_add]at fx;exact fx⟩
  have tokY:∀(i:Nat)(t:Tok)(tv:Value),ts[i]?=some t->tvs[i]?=some tv->∃k:Nat,ks[i]?=some k/\S'.tok k=some ⟨tv,t.esz⟩:=k3
  have frzNb:∀id∈E.frz,∀x,S'.L id=some x->x.b ∉ xs.map (·.b):=λid de x dZ hm=>by
   obtain⟨i,y,cs,_,eP,fx⟩:=boxOf _ hm
   have:=hr.apart _ _ _ _ dZ fx eP.symm
   have:=frzlt id de
   simp only[bid]at *
   omega
  refine⟨Ztu vs,Zdc aV,Ztu vs,ZrO S' E.frz m',css,tvs,rfl,mLt hr.le f1,f2,?_,hd.p.1,h1,?_,k1,?_,?_,h5⟩
  ·refine⟨λb o u hu=>?_,λb e he=>?_⟩
   rotate_left
   ·rw[Zpq]at he
    rcases hd.new.k b e he with h6|h6
    ·exact .inl ((Mem.off_le m Y).k b e h6)
    ·rcases hd.p.2 b h6 with h|h|h
     ·exact .inr (.inr ⟨h.1,h.2.2⟩)
     ·exfalso
      obtain⟨i,y,cs,hi,eP,fx⟩:=boxOf b h
      obtain⟨c0,T0,f0,h7⟩:=(hr.own _ _ fx).isC
      obtain⟨es,cl,h8,_⟩:=hr.sub.k b e he
      simp only[eP]at h7
      rw[h7]at h8;cases h8
     ·exact .inr (.inl h)
   have inM:M b->m b o=some u\/Y b\/(w.heap.size<=b/\Wr w2 b)\/b∈xs.map (·.b):=λhm=>by
    rcases hd.p.2 b hm with h|h|h
    ·exact .inr (.inr (.inl ⟨h.1,h.2.2⟩))
    ·exact .inr (.inr (.inr h))
    ·exact .inr (.inl h)
   rcases f3 b o u hu with hv|⟨id,de,x,dZ,gz⟩
   ·rcases hd.new b o u hv with h6|h6
    ·exact .inl (Mem.off_le m Y b o u h6)
    ·rcases inM h6 with h|h|h|h
     ·exact .inl h
     ·exact .inr (.inl h)
     ·exact .inr (.inr h)
     ·exfalso
      obtain⟨i,y,cs,hi,eP,fx⟩:=boxOf b h
      have:=(hr.own _ _ fx).free (hx y (zA2 hi)).2.1 o
      simp only[eP]at this
      rw[this]at hv;cases hv
   ·subst gz
    rcases inM (hd.own id x dZ)with h|h|h|h
    ·exact .inl h
    ·exact .inr (.inl h)
    ·exact .inr (.inr h)
    ·exact(frzNb id de x dZ h).elim
  ·intro i x cs hi bX
   obtain⟨cs',h6,h7⟩:=h2 i x hi
   rw[bX]at h6;cases h6
   have ho:=hr.own _ _ h7
   have kJ:=(hx x (zA2 hi)).2.1
   refine⟨ho.cells,λ_ o=>?_,λhz'=>by simp[kJ]at hz',ho.whole⟩
   show ZrO S' E.frz m' x.b o=none
   rw[ZdR S' m' (λid de y hy e=>frzNb id de y hy (e ▸ List.mem_map.2 ⟨x,zA2 hi,rfl⟩))]
   exact ho.free kJ o
  ·intro i t tv hi hv
   obtain⟨k,g1,g2⟩:=tokY i t tv hi hv
   obtain⟨g3,g4⟩:=hr.toks k _ g2
   refine⟨g3.sl,g3.same (λ_ _=>rfl) (λb o hb hn=>?_),λb hb=>⟨?_,λhm=>?_⟩⟩
   ·rw[ZdR S' m' (λid _ y hy e=>(g4 b hb).1 id y hy e)];exact hn
   ·rcases hd.p.2 b (hd.tok _ _ _ g2 hb)with h|h|h
    ·exact .inr h.1
    ·obtain⟨i,y,cs,_,eP,fx⟩:=boxOf b h
     exact((g4 b hb).1 _ _ fx eP).elim
    ·exact .inl h
   ·obtain⟨i,y,cs,_,eP,fx⟩:=boxOf b hm
    exact(g4 b hb).1 _ _ fx eP
  ·intro i j t t' b hi hj dt eY
   rw[List.getElem?_map]at hi hj
   obtain⟨⟨t0,tv⟩,gH,rfl⟩:=Option.map_eq_some_iff.1 hi
   obtain⟨⟨t0',tv'⟩,uj,rfl⟩:=Option.map_eq_some_iff.1 hj
   obtain⟨a1,a2⟩:=List.getElem?_zip_eq_some.1 gH
   obtain⟨a3,a4⟩:=List.getElem?_zip_eq_some.1 uj
   obtain⟨k,g1,g2⟩:=tokY i t0 tv a1 a2
   obtain⟨k',g3,g4⟩:=tokY j t0' tv' a3 a4
   have:=hr.tapart k k' _ _ b g2 g4 dt eY
   subst this
   have hi':=(zA0 g1).1
   exact(List.getElem?_inj (l:=ks) (i:=i) (j:=j) hi' iS).1 (by rw[g1,g3])
 intro e S' m' a' w' hk hr
 cases e with
 | normal=>exact key S' m' a' w' hk hr
 | ret=>exact key S' m' a' w' hk hr
 | exit _=>exact hk.elim
 | goto _=>exact hk.elim
 | panic _=>exact hk.elim
 | outgrown=>exact hk.elim
def FWY(E:Env)(fn:Func)(svs:List SV)(xs:List Box)(ks:List Nat)(ts:List Tok)(m:Mem)(Y:Nat->Prop)(R:Value->Mem->List (List Value)->List Value->Prop):Prop:=
 W (E.at (m.off Y)) (Za1 (E.at (m.off Y))) (ZgG fn) (ZAu (E.at (m.off Y)) fn.results.toList xs ks ts R) (S0Y svs xs ks ts) m
theorem Zdd{E:Env}(hE:E.ok)(dH:E.P.follows .mixedOrders=true){g:FuncId}{fn:Func}(hf:E.P.funcs[g]?=some fn){m:Mem}{Y:Nat->Prop}{R:Value->Mem->List (List Value)->List Value->Prop}(svs:List SV)(xs:List Box)(ks:List Nat)(ts:List Tok)(my:ZbT ks=true)
  (cH:Zzv E fn svs xs=true) (h:FWY E fn svs xs ks ts m Y R):CXY E.P g (svs.map (Zpo xs)).toArray m Y xs ts R:=by
 simp only[Zzv,zA7,Bool.not_eq_true']at cH
 obtain⟨⟨⟨⟨⟨⟨⟨h1,h2⟩,h3⟩,h4⟩,h5⟩,h8⟩,h6⟩,h7⟩:=cH
 exact ZuX (E:=E.at (m.off Y)) hE (Zi4 _) (ZgF (E:=E.at (m.off Y)) hE dH) hf h1 (Zd6 h2) (by rw[Zbd];exact h3) h4 h5 (show E.yl=none by simpa using h8) (λmm fw=>Option.some.inj fw) svs xs ks ts my h6 h7 h
theorem CXY.mono{P:Program}{g:FuncId}{args:Array Value}{m:Mem}{Y:Nat->Prop}{X:List Box}{ts:List Tok}{R R':Value->Mem->List (List Value)->List Value->Prop}(h:CXY P g args m Y X ts R)(k:∀v m' css tvs,(m.off Y).le m'->R v m' css tvs->R' v m' css tvs):CXY P g args m Y X ts R':=
 ⟨h.1,λw h1 h2 h3 h4 h5 h6=>(h.2 w h1 h2 h3 h4 h5 h6).mono λ_ _ ⟨v,m',css,tvs,a1,a2,a3,a4,a5,a6,a7,a8,a9,a10,a11⟩=>⟨v,m',css,tvs,a1,a2,a3,a4,a5,a6,a7,a8,a9,a10,k _ _ _ _ a2 a11⟩⟩
end Go.Eng
namespace Go.Eng
open Go Go.RowKit
def zok(i:TI):Bool:=Nat.beq i.zero.cells.size i.size&&ZeI i.zero.cells.toList&&(i.agg||Nat.beq i.size 1)
structure TRow (P:Program)(t:TypeId)(i:TI):Prop where
 und:P.underlying t=some i.d
 info:(P.info? t).map (λx=>(x.size,x.zero,x.bytes))=some (i.size,some i.zero,i.bytes)
 ok:zok i=true
theorem TRow.tok{P:Program}{t:TypeId}{i:TI}(h:TRow P t i):TOk P t i:=by
 have hz:=h.ok
 simp only[zok,zA7,Bool.or_eq_true]at hz
 refine⟨h.und,?_,Nat.eq_of_beq_eq_true hz.1.1,ZeU hz.1.2,λha=>?_⟩
 ·obtain⟨x,hx,e⟩:=Option.map_eq_some_iff.1 h.info
  simp only[Prod.mk.injEq]at e
  exact⟨x,hx,e.1,e.2.1,e.2.2⟩
 ·rcases hz.2 with h1|h1
  ·rw[ha]at h1;cases h1
  ·exact Nat.eq_of_beq_eq_true h1
def Zwv:List (Nat×TI)->Nat->Option TI
 | [],_=>none
 | q::l,t=>bif Nat.beq t q.1 then some q.2 else Zwv l t
def Zy8(P:Program):List (Nat×TI)->Prop
 | []=>True
 | q::l=>TRow P q.1 q.2/\Zy8 P l
theorem ZqA{P:Program}:∀{l:List (Nat×TI)},Zy8 P l->∀t i,Zwv l t=some i->TOk P t i
 | [],_,t,i,h=>by simp[Zwv]at h
 | q::l,hl,t,i,h=>by
  simp only[Zwv]at h
  cases hb:Nat.beq t q.1 with
  | true=>
   simp only[hb,cond_true,Option.some.injEq]at h
   rw[Nat.eq_of_beq_eq_true hb,<-h];exact hl.1.tok
  | false=>simp only[hb,cond_false]at h;exact ZqA hl.2 t i h
abbrev Zac(l:List (Option Box)):Prop:=l=l
abbrev lV(x:List Value)(K:List Value->Prop):Prop:=K x
abbrev lM(x:Mem)(K:Mem->Prop):Prop:=K x
abbrev lX(x:Value)(K:Value->Prop):Prop:=K x
abbrev lE{α:Type}(x:α)(K:α->Prop):Prop:=K x
abbrev atA(a:Option Addr)(K:Nat->Nat->Prop):Prop:=∃b o:Nat,a=some (Addr.mk b o none)/\K b o
abbrev inI(I:IT)(xs:List Value)(css:List (List Value))(ts:List Value)(m:Mem):Prop:=∃n,I xs css ts m n
abbrev nxI(k:Nat)(I:IT)(xs:List Value)(css:List (List Value))(ts:List Value)(m:Mem):Prop:=∃n,n < k/\I xs css ts m n
abbrev fzM(m:Mem)(l:List Value)(K:Nat->Mem->Prop):Prop:=∀(b:Nat)(m':Mem),m.le m'->m'.reads b 0 l->K b m'
abbrev rtM(m M:Mem)(R:RT)(v:Value):Prop:=∃m'':Mem,m.le m''/\m''.le M/\R v m'' []
abbrev kB(P:Program)(f:FuncId)(a:List Value)(m:Mem)(K:Bool->Mem->Prop):Prop:=∃R:RT,True/\CX P f (Array.mk a) m [] R/\(∀(v:Value)(m':Mem) (css:List (List Value)),R v m' css->Shape.fits .bool v=true)/\∀(b:Bool)(m':Mem),m.le m'->R (.bool b) m' []->K b m'
abbrev kI(P:Program)(f:FuncId)(a:List Value)(m:Mem)(K:Int->Mem->Prop):Prop:=∃R:RT,True/\CX P f (Array.mk a) m [] R/\(∀(v:Value)(m':Mem) (css:List (List Value)),R v m' css->Shape.fits (.int .i64) v=true)/\∀(n:Int)(m':Mem),m.le m'->R (.int .i64 n) m' []->K n m'
abbrev kS(P:Program)(f:FuncId)(a:List Value)(m:Mem)(K:Option Addr->Nat->Nat->Mem->Prop):Prop:=∃R:RT,True/\CX P f (Array.mk a) m [] R/\(∀(v:Value)(m':Mem) (css:List (List Value)),R v m' css->Shape.fits .slice v=true)/\∀(a:Option Addr)(n c:Nat)(m':Mem),m.le m'->R (.slice a n c) m' []->K a n c m'
abbrev kT(P:Program)(f:FuncId)(a:List Value)(m:Mem)(K:ByteArray->Mem->Prop):Prop:=∃R:RT,True/\CX P f (Array.mk a) m [] R/\(∀(v:Value)(m':Mem) (css:List (List Value)),R v m' css->Shape.fits .str v=true)/\∀(s:ByteArray)(m':Mem),m.le m'->R (.string s) m' []->K s m'
abbrev kF(P:Program)(f:FuncId)(a:List Value)(m:Mem)(K:Nat->List Value->List Value->Mem->Prop):Prop:=∃R:RT,True/\CX P f (Array.mk a) m [] R/\(∀(v:Value)(m':Mem) (css:List (List Value)),R v m' css->Shape.fits .fn v=true)/\∀(g:Nat)(fi ca:List Value)(m':Mem),m.le m'->R (.func (.func g) (Array.mk fi) (Array.mk ca)) m' []->K g fi ca m'
abbrev Ret(u:Value):Value->Mem->List (List Value)->Prop:=λv _ _=>v=u
theorem Zaf{m m':Mem}{R:Value->Mem->List (List Value)->Prop}{v:Value}(h:m.le m')(k:R v m []):∃m'':Mem,m.le m''/\m''.le m'/\R v m'' []:=⟨m,Mem.le_refl m,h,k⟩
theorem ZaN{m m':Mem}{R:Value->Mem->List (List Value)->Prop}{v:Value}(h:m.le m')(k:R v m' []):∃m'':Mem,m.le m''/\m''.le m'/\R v m'' []:=⟨m',h,Mem.le_refl _,k⟩
section
variable {P:Program} {g:FuncId} {args:Array Value} {m:Mem}
theorem Zah{K:Bool->Mem->Prop}{x:Bool}(h:CX P g args m [] (Ret (.bool x)))(k:∀m',m.le m'->K x m'):
  ∃R:Value->Mem->List (List Value)->Prop,True/\CX P g args m [] R/\(∀(v:Value)(m':Mem) (css:List (List Value)),R v m' css->Shape.fits .bool v=true)/\∀(b:Bool)(m':Mem),m.le m'->R (.bool b) m' []->K b m':=
 ⟨_,trivial,h,λv _ _ e=>by rw[e];rfl,λb m' hm e=>by cases e;exact k m' hm⟩
theorem ZcQ{kk:IntKind}{K:Int->Mem->Prop}{x:Int}(h:CX P g args m [] (Ret (.int kk x)))(k:∀m',m.le m'->K x m'):
  ∃R:Value->Mem->List (List Value)->Prop,True/\CX P g args m [] R/\(∀(v:Value)(m':Mem) (css:List (List Value)),R v m' css->Shape.fits (.int kk) v=true)/\∀(b:Int)(m':Mem),m.le m'->R (.int kk b) m' []->K b m':=
 ⟨_,trivial,h,λv _ _ e=>by rw[e];simp[Shape.fits],λb m' hm e=>by cases e;exact k m' hm⟩
theorem Zan{s:Shape}{R:Value->Mem->List (List Value)->Prop}{Q:(Value->Mem->List (List Value)->Prop)->Prop}(h:CX P g args m [] R)(hs:∀(v:Value)(m':Mem) (css:List (List Value)),R v m' css->s.fits v=true)(k:Q R):
  ∃R:Value->Mem->List (List Value)->Prop,True/\CX P g args m [] R/\(∀(v:Value)(m':Mem) (css:List (List Value)),R v m' css->s.fits v=true)/\Q R:=⟨R,trivial,h,hs,k⟩
end
theorem Zal{n:Int}(h1 : -9223372036854775808<=n)(h2:n<=9223372036854775807):IntKind.i64.wrap n=n:=by
 unfold IntKind.wrap
 simp only[IntKind.bits,IntKind.signed,Bool.true_and]
 have e:(2:Int) ^ 64=18446744073709551616:=by decide
 have e':(2:Int) ^ (64 - 1)=9223372036854775808:=by decide
 simp only[e,e']
 split
 ·rename_i h
  have:=zA6 h
  omega
 ·rename_i h
  have:¬(n % 18446744073709551616 ≥ 9223372036854775808):=λhh=>h (decide_eq_true hh)
  omega
theorem Zcu{f f':Nat}{a b a' b':List Value}(h:Value.func (.func f) a.toArray b.toArray=.func (.func f') a'.toArray b'.toArray):f=f'/\a=a'/\b=b':=by
 simpa using h
theorem Zaq{a b:Bool}(h:a=b):[Value.bool a]=[Value.bool b]:=by rw[h]
end Go.Eng
namespace Go.Eng
open Go Go.RowKit Go.ChangeShapes Go.WideShapes
def ZnB(W:World):Mem:=⟨λb o=>W.cell? ⟨b,o,none⟩,λ_=>none⟩
theorem ZfH{H:Type}{enc:TypeId×Value->H}{P:Program}(hl:laidOutB P=true){W W':World}{sp:Nat->Bool}:∀{ts:List TypeId} {vs:List Value} {ds:List (DataW H)} {ps:List MemPlace},(∀t∈ts,P.readableRec t=true/\t < P.types.size)->DataW.TrodAll enc P W 0 (λ_=>true) true ts vs ds ps->(∀p∈ps,W.sameAt W' p)->(∀p∈ps,sp p.block=true)->DataW.TrodAll enc P W' 0 sp true ts vs ds ps
 | [],[],[],ps,_,h,_,_=>h
 | t::ts,v::vs,d::ds,ps,ht,h,hs,mF=>by
  obtain⟨p,q,h1,h2,rfl⟩:=h
  exact⟨p,q,WideElems.Trod_stays hl (ht t (by simp)).1 (ht t (by simp)).2 h1 (λx hx=>hs x (by simp[hx])) (λx hx=>mF x (by simp[hx])),ZfH hl (λt' h'=>ht t' (by simp[h'])) h2 (λx hx=>hs x (by simp[hx])) (λx hx=>mF x (by simp[hx])),rfl⟩
 | [],[],_::_,_,_,h,_,_=>h.elim
 | [],_::_,_,_,_,h,_,_=>by simp[DataW.TrodAll]at h
 | _::_,[],_,_,_,h,_,_=>by simp[DataW.TrodAll]at h
 | _::_,_::_,[],_,_,h,_,_=>h.elim
theorem Zsn{H:Type}{enc:TypeId×Value->H}{P:Program}{g:FuncId}{f:Func}{s:ChangeSpec}{W:World}{args:Array Value}{ds gs:List (DataW H)}{before:List MemPlace}{tb:TypeId}(hl:laidOutB P=true)
  (nG:∀t∈f.params.toList,P.readableRec t=true/\t < P.types.size) (hW:DataW.Whole enc P f.params.toList s.vars false W args.toList ds gs before) (hv:s.vars=[])
  (hr:(s.fn H (ds++gs)).results=[.lit (.bool true)]) (ha:(s.fn H (ds++gs)).args=ds) (hw:(s.fn H (ds++gs)).vars=[]) (kD:f.resultTypes=#[tb]) (wt:P.underlying tb=some .bool)
  (fP:CX P g args (ZnB W) [] (Ret (.bool true))):
  Calls P g args W λe W'=>∃v,e=.returned v/\s.post enc P f false true false false W args v W':=by
 refine(fP.2 W ⟨λ_ _ _ h=>h,λ_ _ h=>by cases h⟩ (by simp) (by simp)).mono ?_
 rintro e W' ⟨v,m',css,rfl,hm,dx,bN,hk,_,_,rfl⟩
 have hb:Below W.heap.size W W':=hk.below
 have aB:∀p∈before,p.block < W.heap.size:=λp hp=>by simpa using hW.lt p hp
 have hW':=hW
 obtain⟨p,q,hA,hV,rfl,hz,hn⟩:=hW
 rw[hv]at hV
 obtain⟨rfl,rfl⟩:gs=[]/\q=[]:=by
  cases gs with
  | nil=>exact⟨rfl,hV⟩
  | cons g gs=>exact hV.elim
 refine⟨_,rfl,ds,[],p++[],[],p,[],hW',?_,?_,?_,hb.frame _,λh=>by cases h⟩
 ·rw[hr,kD]
  exact trodAll_cons_mk (shut_bool wt _) trodAll_mk0
 ·rw[ha]
  exact ZfH hl nG hA (λx hx=>hb.same (aB x (by simp[hx]))) (λx hx=>by simpa using aB x (by simp[hx]))
 ·rw[hw,hv];rfl
end Go.Eng