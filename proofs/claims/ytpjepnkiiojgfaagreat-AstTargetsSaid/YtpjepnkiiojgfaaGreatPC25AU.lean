/- Part of the proof: functions of the program. No condition. -/
import Derived.Test.YtpjepnkiiojgfaaGreatPC25E
import Derived.Test.YtpjepnkiiojgfaaGreatPC25MJ
import Derived.Test.YtpjepnkiiojgfaaGreatMr
import Derived.Test.YtpjepnkiiojgfaaGreatPEnv
import Derived.Test.YtpjepnkiiojgfaaGreatMc
import Derived.Test.YtpjepnkiiojgfaaGreatPVM
import Derived.Test.YtpjepnkiiojgfaaGreatPC25MA
set_option linter.unusedVariables false
set_option linter.unusedSimpArgs false
set_option linter.unusedSectionVars false
noncomputable section
namespace Go.Proofs.YtpjepnkiiojgfaaGreat
open Go Go.Eng Go.Rx Go.Proofs Go.RowKit
set_option maxRecDepth 100000
set_option maxHeartbeats 4000000 in
def CntW(b n p:Int):Prop:=0<=n/\n<=b/\(n=p\/(20000 < n/\20000 < p))
theorem CntW.out{b n p t:Int}(h:CntW b n p)(hn:n > 20000)(ht:p<=t):t > 20000:=by
 rcases h.2.2 with e|⟨_,e⟩ <;> omega
theorem CntW.eq{b n p:Int}(h:CntW b n p)(hn:¬n > 20000):n=p:=by
 rcases h.2.2 with e|⟨e,_⟩ <;> omega
theorem Zb9(s:Sc)(m:Mem)(hr:RepC m s):CX Tryz.prog 19 #[s.v] m [] (Ret (.bool s.light)):=by
 apply ZlI
 intro b m1 aE _
 have iB:=hr.vlen
 have eR:=hr.len
 unfold few at iB eR
 have dark:∀{M:Mem},m1.le M->s.weight > 20000->∀{n:Int},n > 20000->∃m'':Mem,m.le m''/\m''.le M/\Ret (.bool s.light) (.bool (decide (n<=20000))) m'' []:=λ{M} hM hw {n} hn=>Zaf (mLt aE hM) (by
  show Value.bool _=Value.bool s.light
  unfold Sc.light
  rw[decide_eq_false (by omega),decide_eq_false (by omega)])
 generalize hV:((s.vars.length:Int)+s.states.length)=V0
 have tu:0<=V0/\V0<=200000:=by omega
 rw[Zak (by omega) (by omega)]
 have md:s.weight=V0+ZaB (s.states.map wS):=by unfold Sc.weight;omega
 refine⟨λxs _ _ m' q=>∃(i:Nat)(n:Int),i<=s.states.length/\xs=[.int .i64 n,.int .i64 i]/\CntW 300000 n (V0+ZaB ((s.states.take i).map wS))/\q=s.states.length - i,⟨_,0,V0,by omega,rfl,⟨by omega,by omega,.inl (by simp[ZaB])⟩,rfl⟩,?_⟩
 rintro n k0 m2 q aK ⟨i,n',hi,hx,hC,hq⟩
 simp only[List.cons.injEq,Value.int.injEq,and_true,true_and]at hx
 obtain⟨rfl,rfl⟩:=hx
 subst hq
 have gM:IntKind.i64.wrap ((i:Int)+1)=((i+1:Nat):Int):=by rw[Zak (by omega) (by omega)];rfl
 simp only[gM,zA8]
 refine ZaG (λaC=>?_) (λbL=>?_)
 ·have aI:i < s.states.length:=by omega
  obtain⟨x,hx⟩:=ZcC aI
  have mq:=zA2 hx
  obtain⟨b1,o1,ha,eL⟩:=Zai Sta.len ((hr.mono (mLt aE aK)).row) hx (by omega)
  have dJ:=hr.all x mq
  have lq:=dJ.len
  unfold few at lq
  refine⟨b1,o1,ha,⟨by omega,by omega⟩,_,_,eL,λb2=>Zaa rfl (Zaa rfl ?_)⟩
  generalize mV:V0+ZaB ((s.states.take i).map wS)=P0 at hC
  have vg:V0+ZaB ((s.states.take (i+1)).map wS)=P0+wS x:=by rw[ZfE wS hx];omega
  have xv:P0+wS x<=s.weight:=by rw[<-vg,md];have:=ZfF wS ZzO s.states (i+1);omega
  refine⟨λxs _ _ m' q=>∃(k:Nat)(n:Int),k<=x.rules.length/\xs=[.int .i64 n,.int .i64 k]/\CntW 300000 n (P0+ZaB ((x.rules.take k).map wR))/\q=x.rules.length - k,⟨_,0,n,by omega,rfl,by simpa[ZaB]using hC,rfl⟩,?_⟩
  rintro n1 k1 m3 q aQ ⟨k,n1',hk,gX,mt,hq⟩
  simp only[List.cons.injEq,Value.int.injEq,and_true,true_and]at gX
  obtain⟨rfl,rfl⟩:=gX
  subst hq
  have gv:IntKind.i64.wrap ((k:Int)+1)=((k+1:Nat):Int):=by rw[Zak (by omega) (by omega)];rfl
  simp only[gv,zA8]
  have dQ:m.le m3:=mLt aE (mLt aK aQ)
  refine ZaG (λdO=>?_) (λdX=>?_)
  ·have kj:k < x.rules.length:=by have:(k:Int) < (x.rules.length:Int):=dO;omega
   obtain⟨r,il⟩:=ZcC kj
   have ve:=zA2 il
   have gE:=dJ.all r ve
   obtain⟨b3,o3,fu,lu⟩:=Zai Ru.len ((dJ.row).mono dQ) il (by omega)
   have oB:=gE.len
   unfold few at oB
   generalize yO:P0+ZaB ((x.rules.take k).map wR)=P1 at mt
   have pS:P0+ZaB ((x.rules.take (k+1)).map wR)=P1+wR r:=by rw[ZfE wR il];omega
   have xw:P1+wR r<=s.weight:=by
    rw[<-pS]
    have:=ZfF wR ZyA x.rules (k+1)
    unfold wS at xv
    omega
   refine Zaa rfl ⟨b3,o3,fu,⟨by omega,by show(k:Int) < (x.rules.length:Int);omega⟩,_,_,_,_,_,_,_,_,_,_,_,_,_,_,_,_,lu,λb4=>Zaa rfl ?_⟩
   have bE:=ZfH r.t
   refine Zco (Zt2 r.t m3 (gE.t.mono dQ)) λm4 bZ=>?_
   have jr:(if(20000:Int) < r.t.size then(20000:Int)else r.t.size)=Zgc r.t.size 20000:=rfl
   have eS:0<=Zgc r.t.size 20000/\Zgc r.t.size 20000<=20000:=by unfold Zgc;split <;> omega
   rw[jr]
   have yP:=mt.1
   have yQ:=mt.2.1
   refine⟨λxs _ _ m'=>∃n:Int,xs=[.int .i64 n]/\CntW 330000 n (P1+1+Zgc r.t.size 20000+(if r.t.light then 0 else 20001)),?_,?_⟩
   ·refine Zah (Zhr r.t m4 (gE.t.mono (mLt dQ bZ))) λm5 cO=>Zab (λh=>⟨by trivial,20001,rfl,?_⟩) (λh=>⟨by trivial,_,rfl,?_⟩)
    ·have hl:r.t.light=false:=by simpa using h
     rw[hl,if_neg (by decide)]
     have hp:0<=P1:=by rcases mt.2.2 with e|⟨_,e⟩ <;> omega
     exact⟨by omega,by omega,.inr ⟨by omega,by omega⟩⟩
    ·have hl:r.t.light=true:=by simpa using h
     rw[hl,if_pos rfl,Zak (n:=1+Zgc r.t.size 20000) (by omega) (by omega),Zak (by omega) (by omega)]
     refine⟨by omega,by omega,?_⟩
     rcases mt.2.2 with e|⟨e1,e2⟩
     ·left;omega
     ·right;omega
   ·rintro n2 m5 cO ⟨n2',mR,sY⟩
    obtain rfl:n2=n2':=by simpa using mR
    generalize xx:P1+1+Zgc r.t.size 20000+(if r.t.light then 0 else 20001)=P2 at sY
    have fK:wR r=(P2 - P1)+ZaB (r.acts.map wA):=by unfold wR;rw[<-xx];omega
    have iz:m.le m5:=mLt dQ (mLt bZ cO)
    refine Zaa rfl ⟨λxs _ _ m' q=>∃(j:Nat)(n:Int),j<=r.acts.length/\xs=[.int .i64 n,.int .i64 j]/\CntW (330000+j*200000) n (P2+ZaB ((r.acts.take j).map wA))/\q=r.acts.length - j,⟨_,0,n2,by omega,rfl,by simpa[ZaB]using sY,rfl⟩,?_⟩
    rintro n3 k3 m6 q eY ⟨j,n3',hj,pT,mE,hq⟩
    simp only[List.cons.injEq,Value.int.injEq,and_true,true_and]at pT
    obtain⟨rfl,rfl⟩:=pT
    subst hq
    have xy:IntKind.i64.wrap ((j:Int)+1)=((j+1:Nat):Int):=by rw[Zak (by omega) (by omega)];rfl
    simp only[xy,zA8]
    have gC:=mLt iz eY
    have gl:=mE.1
    have uZ:=mE.2.1
    refine ZaG (λfg=>?_) (λgD=>?_)
    ·have pU:j < r.acts.length:=by have:(j:Int) < (r.acts.length:Int):=fg;omega
     obtain⟨a,nJ⟩:=ZcC pU
     have iO:=gE.all a (zA2 nJ)
     obtain⟨b5,o5,ly,xz⟩:=Zai Ac.len ((gE.row).mono gC) nJ (by omega)
     have jD:=iO.n
     unfold few at jD
     have yR:=ZfG a.e
     generalize yS:P2+ZaB ((r.acts.take j).map wA)=P3 at mE
     have tw:P2+ZaB ((r.acts.take (j+1)).map wA)=P3+wA a:=by rw[ZfE wA nJ];omega
     have xA:P3+wA a<=s.weight:=by
      have:=ZfF wA Zqk r.acts (j+1)
      omega
     refine Zaa rfl ⟨b5,o5,ly,⟨by omega,by show(j:Int) < (r.acts.length:Int);omega⟩,_,_,_,_,_,_,_,_,xz,λb6=>Zaa rfl ?_⟩
     refine⟨λ_ _ _=>Ret (.int .i64 (nE a.e)),_,rfl,Zoq a.e m6 (RepE.mono' iO.e gC),λv _ _ e=>by rw[show v=_ from e];rfl,λn8 m7 fD jF=>Zaa rfl λM gm fy=>Zaa rfl ?_⟩
     obtain rfl:n8=nE a.e:=by cases jF;rfl
     have tx:slN (Value.slice a.pa a.parts.length a.pc)=a.parts.length:=rfl
     rw[tx,Zak (n:=1+nE a.e) (by omega) (by omega),Zak (n:=1+nE a.e+(a.parts.length:Int)) (by omega) (by omega),Zak (by omega) (by omega)]
     have xB:wA a=(1+nE a.e+a.parts.length)+ZaB (a.parts.map λp=>nE p.e):=by unfold wA;omega
     have lz:=mLt gC gm
     refine⟨λxs _ _ m' q=>∃(w:Nat)(n:Int),w<=a.parts.length/\xs=[.int .i64 n,.int .i64 w]/\CntW (330000+(j+1)*200000) n (P3+(1+nE a.e+a.parts.length)+ZaB ((a.parts.take w).map λp=>nE p.e))/\q=a.parts.length - w,⟨_,0,_,by omega,rfl,⟨by omega,by omega,?_⟩,rfl⟩,?_⟩
     ·simp only[List.take_zero,List.map_nil,ZaB]
      rcases mE.2.2 with e|⟨e1,e2⟩
      ·left;omega
      ·right;omega
     rintro n4 k4 m8 q eZ ⟨w,n4',hw,nI,nK,hq⟩
     simp only[List.cons.injEq,Value.int.injEq,and_true,true_and]at nI
     obtain⟨rfl,rfl⟩:=nI
     subst hq
     have ti:IntKind.i64.wrap ((w:Int)+1)=((w+1:Nat):Int):=by rw[Zak (by omega) (by omega)];rfl
     simp only[ti,zA8]
     have qZ:=mLt lz eZ
     have oC:m1.le m8:=mLt aK (mLt aQ (mLt bZ (mLt cO (mLt eY (mLt gm eZ)))))
     have oz:=nK.1
     have tz:=nK.2.1
     refine ZaG (λlB=>?_) (λlC=>?_)
     ·have pV:w < a.parts.length:=by have:(w:Int) < (a.parts.length:Int):=lB;omega
      obtain⟨p,i6⟩:=ZcC pV
      have ib:=iO.all p (zA2 i6)
      obtain⟨b7,o7,tA,xC⟩:=Zai Pt.len ((iO.row).mono qZ) i6 (by omega)
      have yU:=ZfG p.e
      have bW:=ZfE (λp:Pt=>nE p.e) i6
      have xD:=ZfF (λp:Pt=>nE p.e) (λp=>(ZfG p.e).1) a.parts w
      refine Zaa rfl ⟨b7,o7,tA,⟨by omega,by show(w:Int) < (a.parts.length:Int);omega⟩,_,_,_,_,_,_,_,_,xC,λb8=>Zaa rfl (ZaG (λhd=>dark oC (nK.out hd (by omega)) hd) (λhd=>?_))⟩
      refine Zco (Zoq p.e m8 (RepE.mono' ib.e qZ)) λm9 gT=>⟨by trivial,a.parts.length - (w+1),by omega,w+1,_,by omega,rfl,?_,rfl⟩
      have he:=nK.eq hd
      rw[Zak (by omega) (by omega),bW]
      exact⟨by omega,by omega,.inl (by omega)⟩
     ·have hw':w=a.parts.length:=by have:¬(w:Int) < (a.parts.length:Int):=lC;omega
      subst hw'
      rw[List.take_length]at nK
      refine⟨by trivial,r.acts.length - (j+1),by omega,j+1,n4,by omega,rfl,?_,rfl⟩
      rw[tw,xB]
      exact⟨nK.1,by push_cast;omega,by rcases nK.2.2 with e|e;left;omega;right;omega⟩
    ·have hj':j=r.acts.length:=by have:¬(j:Int) < (r.acts.length:Int):=gD;omega
     subst hj'
     rw[List.take_length]at mE
     have lx:m1.le m6:=mLt aK (mLt aQ (mLt bZ (mLt cO eY)))
     refine ZaG (λhd=>dark lx (mE.out hd (by omega)) hd) (λhd=>⟨by trivial,x.rules.length - (k+1),by omega,k+1,n3,by omega,rfl,?_,rfl⟩)
     rw[pS,fK]
     exact⟨mE.1,by omega,.inl (by have:=mE.eq hd;omega)⟩
  ·have hk':k=x.rules.length:=by have:¬(k:Int) < (x.rules.length:Int):=dX;omega
   subst hk'
   rw[List.take_length]at mt
   refine⟨by trivial,s.states.length - (i+1),by omega,i+1,n1,by omega,rfl,?_,rfl⟩
   rw[vg];exact mt
 ·have hi':i=s.states.length:=by omega
  subst hi'
  rw[List.take_length,<-md]at hC
  refine Zaf (mLt aE aK) ?_
  show Value.bool _=Value.bool s.light
  unfold Sc.light
  congr 1
  rw[decide_eq_decide]
  rcases hC.2.2 with e|⟨e1,e2⟩ <;> omega
theorem ZsV{x:List Value}{K:List Value->Prop}(h:∀y,K y):lV x K:=h x
theorem Zvw(cb:Nat)(Q:Pt->Pt->Mem->Prop)(L:List Pt)(a:Option Addr)(d:Nat)(m:Mem)(aB:rowRd m a (L.map Pt.cs).flatten)(hl:L.length<=few)(gV:∀x∈L,∀m2,m.le m2->CX Tryz.prog cb #[.agg x.cs.toArray] m2 [] (λv m3 _=>∃y:Pt,v=.agg y.cs.toArray/\Q x y (nw m2 m3))):
  CX Tryz.prog 91 #[.slice a L.length d,.func (.func cb) #[] #[]] m [] (Zqw Pt.cs Q m L):=by
 have hl:L.length<=100000:=hl
 apply ZbU (p1fi:=[]) (p1ca:=[])
 refine⟨λxs css tvs m' q=>∃(k:Nat)(a':Option Addr)(c':Nat)(L':List Pt)(μ:Nat->Mem),k<=L.length/\q=L.length - k/\xs=[.slice a' L'.length c',.int .i64 k]/\tvs=[.slice a' L'.length c']/\Each Pt.cs Q m m' (L.take k) a' c' L' μ,⟨_,0,none,0,[],_,by omega,rfl,rfl,rfl,Each.nil m⟩,?_⟩
 rintro a1 n1 c1 z a2 n2 c2 m2 q _ ⟨k,a',c',L',μ,hk,hq,cK,cH,hE⟩
 simp only[List.cons.injEq,Value.slice.injEq,Value.int.injEq,true_and,and_true]at cK cH
 obtain⟨⟨rfl,rfl,rfl⟩,rfl⟩:=cK
 obtain⟨rfl,rfl,rfl⟩:=cH
 have jh:L'.length=k:=by rw[hE.len,List.length_take];omega
 refine Zab (λaC=>?_) (λbL=>?_)
 ·have aI:k < L.length:=by have:=zA6 aC;omega
  obtain⟨x,hx⟩:=Zaq aI
  obtain⟨b,o,ha,cG⟩:=Zai Pt.len aB hx (by omega)
  have hw:IntKind.i64.wrap ((k:Int)+1)=((k+1:Nat):Int):=by rw[Zak (by omega) (by omega)];rfl
  refine⟨b,o,ha,⟨by omega,by omega⟩,_,_,_,_,_,_,_,_,cG.mono hE.le,λb3=>Zaa rfl ⟨_,trivial,gV x (zA2 hx) m2 hE.le,(λv _ _ ⟨y,h,_⟩=>by rw[h];rfl),?_⟩⟩
  intros
  refine ZsV λys=>?_
  rintro aQ ⟨y,hv,hQ⟩ b4 fM
  obtain rfl:ys=y.cs:=by simpa using hv
  have bE:(L'.length+1)*96<=140737488355328:=by omega
  refine Zcr Pt.len Pt.one fM y (hE.row.mono aQ) 96 bE (by omega) (.inl rfl) λa5 c5 m5 cO bP aR=>?_
  have bW:=hE.step Pt.len (by omega) hx aQ hQ fM cO bP aR
  exact⟨L.length - (k+1),by omega,k+1,a5,c5,L'++[y],_,by omega,rfl,by rw[hw,zA1];rfl,by rw[zA1];rfl,bW⟩
 ·have dF:k=L.length:=by have:=of_decide_eq_false bL;omega
  rw[dF,List.take_length]at hE
  exact⟨m2,hE.le,Mem.le_refl _,_,_,L',μ,rfl,hE⟩
theorem Zvx(cb:Nat)(Q:Ac->Ac->Mem->Prop)(L:List Ac)(a:Option Addr)(d:Nat)(m:Mem)(aB:rowRd m a (L.map Ac.cs).flatten)(hl:L.length<=few)(gV:∀x∈L,∀m2,m.le m2->CX Tryz.prog cb #[.agg x.cs.toArray] m2 [] (λv m3 _=>∃y:Ac,v=.agg y.cs.toArray/\Q x y (nw m2 m3))):
  CX Tryz.prog 88 #[.slice a L.length d,.func (.func cb) #[] #[]] m [] (Zqw Ac.cs Q m L):=by
 have hl:L.length<=100000:=hl
 apply Zbo (p1fi:=[]) (p1ca:=[])
 refine⟨λxs css tvs m' q=>∃(k:Nat)(a':Option Addr)(c':Nat)(L':List Ac)(μ:Nat->Mem),k<=L.length/\q=L.length - k/\xs=[.slice a' L'.length c',.int .i64 k]/\tvs=[.slice a' L'.length c']/\Each Ac.cs Q m m' (L.take k) a' c' L' μ,⟨_,0,none,0,[],_,by omega,rfl,rfl,rfl,Each.nil m⟩,?_⟩
 rintro a1 n1 c1 z a2 n2 c2 m2 q _ ⟨k,a',c',L',μ,hk,hq,cK,cH,hE⟩
 simp only[List.cons.injEq,Value.slice.injEq,Value.int.injEq,true_and,and_true]at cK cH
 obtain⟨⟨rfl,rfl,rfl⟩,rfl⟩:=cK
 obtain⟨rfl,rfl,rfl⟩:=cH
 have jh:L'.length=k:=by rw[hE.len,List.length_take];omega
 refine Zab (λaC=>?_) (λbL=>?_)
 ·have aI:k < L.length:=by have:=zA6 aC;omega
  obtain⟨x,hx⟩:=Zaq aI
  obtain⟨b,o,ha,cG⟩:=Zai Ac.len aB hx (by omega)
  have hw:IntKind.i64.wrap ((k:Int)+1)=((k+1:Nat):Int):=by rw[Zak (by omega) (by omega)];rfl
  refine⟨b,o,ha,⟨by omega,by omega⟩,_,_,_,_,_,_,_,_,cG.mono hE.le,λb3=>Zaa rfl ⟨_,trivial,gV x (zA2 hx) m2 hE.le,(λv _ _ ⟨y,h,_⟩=>by rw[h];rfl),?_⟩⟩
  intros
  refine ZsV λys=>?_
  rintro aQ ⟨y,hv,hQ⟩ b4 fM
  obtain rfl:ys=y.cs:=by simpa using hv
  have bE:(L'.length+1)*112<=140737488355328:=by omega
  refine Zcr Ac.len Ac.one fM y (hE.row.mono aQ) 112 bE (by omega) (.inl rfl) λa5 c5 m5 cO bP aR=>?_
  have bW:=hE.step Ac.len (by omega) hx aQ hQ fM cO bP aR
  exact⟨L.length - (k+1),by omega,k+1,a5,c5,L'++[y],_,by omega,rfl,by rw[hw,zA1];rfl,by rw[zA1];rfl,bW⟩
 ·have dF:k=L.length:=by have:=of_decide_eq_false bL;omega
  rw[dF,List.take_length]at hE
  exact⟨m2,hE.le,Mem.le_refl _,_,_,L',μ,rfl,hE⟩
theorem Zvy(cb:Nat)(Q:Ru->Ru->Mem->Prop)(L:List Ru)(a:Option Addr)(d:Nat)(m:Mem)(aB:rowRd m a (L.map Ru.cs).flatten)(hl:L.length<=few)(gV:∀x∈L,∀m2,m.le m2->CX Tryz.prog cb #[.agg x.cs.toArray] m2 [] (λv m3 _=>∃y:Ru,v=.agg y.cs.toArray/\Q x y (nw m2 m3))):
  CX Tryz.prog 57 #[.slice a L.length d,.func (.func cb) #[] #[]] m [] (Zqw Ru.cs Q m L):=by
 have hl:L.length<=100000:=hl
 apply ZbV (p1fi:=[]) (p1ca:=[])
 refine⟨λxs css tvs m' q=>∃(k:Nat)(a':Option Addr)(c':Nat)(L':List Ru)(μ:Nat->Mem),k<=L.length/\q=L.length - k/\xs=[.slice a' L'.length c',.int .i64 k]/\tvs=[.slice a' L'.length c']/\Each Ru.cs Q m m' (L.take k) a' c' L' μ,⟨_,0,none,0,[],_,by omega,rfl,rfl,rfl,Each.nil m⟩,?_⟩
 rintro a1 n1 c1 z a2 n2 c2 m2 q _ ⟨k,a',c',L',μ,hk,hq,cK,cH,hE⟩
 simp only[List.cons.injEq,Value.slice.injEq,Value.int.injEq,true_and,and_true]at cK cH
 obtain⟨⟨rfl,rfl,rfl⟩,rfl⟩:=cK
 obtain⟨rfl,rfl,rfl⟩:=cH
 have jh:L'.length=k:=by rw[hE.len,List.length_take];omega
 refine Zab (λaC=>?_) (λbL=>?_)
 ·have aI:k < L.length:=by have:=zA6 aC;omega
  obtain⟨x,hx⟩:=Zaq aI
  obtain⟨b,o,ha,cG⟩:=Zai Ru.len aB hx (by omega)
  have hw:IntKind.i64.wrap ((k:Int)+1)=((k+1:Nat):Int):=by rw[Zak (by omega) (by omega)];rfl
  refine⟨b,o,ha,⟨by omega,by omega⟩,_,_,_,_,_,_,_,_,_,_,_,_,_,_,_,_,cG.mono hE.le,λb3=>Zaa rfl ⟨_,trivial,gV x (zA2 hx) m2 hE.le,(λv _ _ ⟨y,h,_⟩=>by rw[h];rfl),?_⟩⟩
  intros
  refine ZsV λys=>?_
  rintro aQ ⟨y,hv,hQ⟩ b4 fM
  obtain rfl:ys=y.cs:=by simpa using hv
  have bE:(L'.length+1)*168<=140737488355328:=by omega
  refine Zcr Ru.len Ru.one fM y (hE.row.mono aQ) 168 bE (by omega) (.inl rfl) λa5 c5 m5 cO bP aR=>?_
  have bW:=hE.step Ru.len (by omega) hx aQ hQ fM cO bP aR
  exact⟨L.length - (k+1),by omega,k+1,a5,c5,L'++[y],_,by omega,rfl,by rw[hw,zA1];rfl,by rw[zA1];rfl,bW⟩
 ·have dF:k=L.length:=by have:=of_decide_eq_false bL;omega
  rw[dF,List.take_length]at hE
  exact⟨m2,hE.le,Mem.le_refl _,_,_,L',μ,rfl,hE⟩
theorem Zvz(cb:Nat)(Q:Sta->Sta->Mem->Prop)(L:List Sta)(a:Option Addr)(d:Nat)(m:Mem)(aB:rowRd m a (L.map Sta.cs).flatten)(hl:L.length<=few)(gV:∀x∈L,∀m2,m.le m2->CX Tryz.prog cb #[.agg x.cs.toArray] m2 [] (λv m3 _=>∃y:Sta,v=.agg y.cs.toArray/\Q x y (nw m2 m3))):
  CX Tryz.prog 55 #[.slice a L.length d,.func (.func cb) #[] #[]] m [] (Zqw Sta.cs Q m L):=by
 have hl:L.length<=100000:=hl
 apply ZbB (p1fi:=[]) (p1ca:=[])
 refine⟨λxs css tvs m' q=>∃(k:Nat)(a':Option Addr)(c':Nat)(L':List Sta)(μ:Nat->Mem),k<=L.length/\q=L.length - k/\xs=[.slice a' L'.length c',.int .i64 k]/\tvs=[.slice a' L'.length c']/\Each Sta.cs Q m m' (L.take k) a' c' L' μ,⟨_,0,none,0,[],_,by omega,rfl,rfl,rfl,Each.nil m⟩,?_⟩
 rintro a1 n1 c1 z a2 n2 c2 m2 q _ ⟨k,a',c',L',μ,hk,hq,cK,cH,hE⟩
 simp only[List.cons.injEq,Value.slice.injEq,Value.int.injEq,true_and,and_true]at cK cH
 obtain⟨⟨rfl,rfl,rfl⟩,rfl⟩:=cK
 obtain⟨rfl,rfl,rfl⟩:=cH
 have jh:L'.length=k:=by rw[hE.len,List.length_take];omega
 refine Zab (λaC=>?_) (λbL=>?_)
 ·have aI:k < L.length:=by have:=zA6 aC;omega
  obtain⟨x,hx⟩:=Zaq aI
  obtain⟨b,o,ha,cG⟩:=Zai Sta.len aB hx (by omega)
  have hw:IntKind.i64.wrap ((k:Int)+1)=((k+1:Nat):Int):=by rw[Zak (by omega) (by omega)];rfl
  refine⟨b,o,ha,⟨by omega,by omega⟩,_,_,cG.mono hE.le,λb3=>Zaa rfl ⟨_,trivial,gV x (zA2 hx) m2 hE.le,(λv _ _ ⟨y,h,_⟩=>by rw[h];rfl),?_⟩⟩
  intros
  refine ZsV λys=>?_
  rintro aQ ⟨y,hv,hQ⟩ b4 fM
  obtain rfl:ys=y.cs:=by simpa using hv
  have bE:(L'.length+1)*40<=140737488355328:=by omega
  refine Zcr Sta.len Sta.one fM y (hE.row.mono aQ) 40 bE (by omega) (.inl rfl) λa5 c5 m5 cO bP aR=>?_
  have bW:=hE.step Sta.len (by omega) hx aQ hQ fM cO bP aR
  exact⟨L.length - (k+1),by omega,k+1,a5,c5,L'++[y],_,by omega,rfl,by rw[hw,zA1];rfl,by rw[zA1];rfl,bW⟩
 ·have dF:k=L.length:=by have:=of_decide_eq_false bL;omega
  rw[dF,List.take_length]at hE
  exact⟨m2,hE.le,Mem.le_refl _,_,_,L',μ,rfl,hE⟩
def CpE(m:Mem)(t:E):Value->Mem->List (List Value)->Prop:=λv m' _=>∃t':E,v=t'.v/\t'.er=t.er/\RepE (nw m m') t'
theorem Zrc{m:Mem}{t:E}:∀(v:Value)(m':Mem) (css:List (List Value)),CpE m t v m' css->Shape.fits (.agg [.int .u8,.any,.str,.int .i64,.slice]) v=true:=λv _ _ ⟨t,e,_⟩=>by rw[e];rfl
theorem Zrd(t:E)(m:Mem)(hr:RepE m t)(hl:t.light=true):CX Tryz.prog 90 #[t.v] m [] (CpE m t):=by
 apply Zlw
 intro b m1 aE _ b1
 have h:=ZcR t m1 (hr.mono' aE)
 rw[hl]at h
 refine Zah h λm2 aK=>Zn4 rfl (Zan (ZkL t m2 (hr.mono' (mLt aE aK)) (zA6 hl)) ZfP ?_)
 rintro n v s n1 a n2 c m3 aQ ⟨t',hv,hr',he,hn⟩
 obtain⟨rfl,rfl,rfl,rfl,rfl,rfl,rfl⟩:=ZpC hv
 exact Zaa rfl ⟨m3,mLt aE (mLt aK aQ),Mem.le_refl _,t',rfl,he,Zt8 t' hr' (hn.less (mLt aE aK))⟩
theorem Zzn(p:Pt)(m:Mem)(hr:RepP m p)(hl:p.e.light=true):CX Tryz.prog 92 #[.agg p.cs.toArray] m [] (λv m' _=>∃q:Pt,v=.agg q.cs.toArray/\QP p q (nw m m')):=by
 apply Zd6
 intro b b1
 refine Zan (Zrd p.e m hr.e hl) Zrc ?_
 rintro n v s n1 a n2 c m3 aQ ⟨t',hv,he,cX⟩
 obtain⟨rfl,rfl,rfl,rfl,rfl,rfl,rfl⟩:=ZpC hv
 refine Zaa rfl (Zaa rfl ⟨m3,aQ,Mem.le_refl _,⟨p.k,p.s,p.g,t'⟩,rfl,?_,hr.k,hr.s,hr.g,cX⟩)
 simp only[Pt.er,he]
theorem Zzo(x:Ac)(m:Mem)(hr:RepA m x)(hl:LtA x):CX Tryz.prog 89 #[.agg x.cs.toArray] m [] (λv m' _=>∃q:Ac,v=.agg q.cs.toArray/\QA x q (nw m m')):=by
 apply Zfc
 intro b b1
 refine Zan (Zrd x.e m hr.e hl.1) Zrc ?_
 rintro n v s n1 a n2 c m1 aE ⟨t',hv,he,cX⟩
 obtain⟨rfl,rfl,rfl,rfl,rfl,rfl,rfl⟩:=ZpC hv
 refine Zaa rfl ⟨_,trivial,Zvw 92 QP x.parts x.pa x.pc m1 (hr.row.mono aE) hr.n (λp hp m2 aK=>Zzn p m2 ((hr.all p hp).mono (mLt aE aK)) (hl.2 p hp)),Ze4,?_⟩
 rintro a' n' c' m2 aK ⟨a5,c5,L',μ,hv',hE⟩
 simp only[Value.slice.injEq]at hv'
 obtain⟨rfl,rfl,rfl⟩:=hv'
 refine Zaa rfl ⟨m2,mLt aE aK,Mem.le_refl _,⟨x.k,x.s,a',c',L',t'⟩,rfl,?_,Zsj hr hE (Zd3 aE (Mem.le_refl _)) (cX.mono' (Zd3 (Mem.le_refl _) aK))⟩
 simp only[Ac.er,he,hE.same λ_ _ _ h=>h.1]
theorem Zzp(x:Ru)(m:Mem)(hr:RepR m x)(hl:LtR x):CX Tryz.prog 49 #[.agg x.cs.toArray] m [] (λv m' _=>∃q:Ru,v=.agg q.cs.toArray/\QR x q (nw m m')):=by
 apply ZgQ
 intro b b1
 refine Zan (Zvp x.t m hr.t (zA6 hl.1)) Zvo ?_
 rintro n0 n1 n2 n3 n4 n5 n6 a n c m1 aE ⟨t',hv,he,cX⟩
 simp only[T.v,Value.agg.injEq,Array.mk.injEq,List.cons.injEq,Value.int.injEq,Value.slice.injEq,true_and,and_true]at hv
 obtain⟨rfl,rfl,rfl,rfl,rfl,rfl,rfl,rfl,rfl,rfl⟩:=hv
 refine⟨_,trivial,Zvx 89 QA x.acts x.aa x.ac m1 (hr.row.mono aE) hr.len (λp hp m2 aK=>Zzo p m2 ((hr.all p hp).mono (mLt aE aK)) (hl.2 p hp)),Ze4,?_⟩
 rintro a' n' c' m2 aK ⟨a5,c5,L',μ,hv',hE⟩
 simp only[Value.slice.injEq]at hv'
 obtain⟨rfl,rfl,rfl⟩:=hv'
 refine⟨m2,mLt aE aK,Mem.le_refl _,⟨x.k,x.bg,x.en,t',x.s,x.n,a',c',L',x.go,x.code⟩,rfl,?_,Zsk hr hE (Zd3 aE (Mem.le_refl _)) (cX.mono (Zd3 (Mem.le_refl _) aK))⟩
 simp only[Ru.er,he,hE.same λ_ _ _ h=>h.1]
theorem Zzq(x:Sta)(m0 m:Mem)(h0:m0.le m)(hr:RepS m x)(hl:∀r∈x.rules,LtR r):CX Tryz.prog 56 #[.agg x.cs.toArray] m [] (λv m' _=>∃q:Sta,v=.agg q.cs.toArray/\QS m0 x q (nw m m')):=by
 apply Zjs
 intro b m1 aE _ b1
 refine⟨λ_ _ μ=>Zqw Ru.cs QR μ x.rules,_,rfl,Zvy 49 QR x.rules x.ra x.rc m1 (hr.row.mono aE) hr.len (λp hp m2 aK=>Zzp p m2 ((hr.all p hp).mono (mLt aE aK)) (hl p hp)),Ze4,?_⟩
 rintro a' n' c' m2 aK ⟨a5,c5,L',μ,hv',hE⟩ M _ hM
 simp only[Value.slice.injEq]at hv'
 obtain⟨rfl,rfl,rfl⟩:=hv'
 exact⟨m2,mLt aE aK,hM,⟨x.s,a',c',L'⟩,rfl,(ZwV (mLt h0 aE) (hr.mono aE) hE).mono (Zd3 aE (Mem.le_refl _))⟩
def ZyI(m:Mem)(l:List Va):Value->Mem->List (List Value)->Prop:=λv m' _=>∃a' c',v=.slice a' l.length c'/\rowRd (nw m m') a' (l.map Va.cs).flatten/\l.length<=c'
theorem Zor(a:Option Addr)(c:Nat)(l:List Va)(m:Mem)(h:rowRd m a (l.map Va.cs).flatten)(hl:l.length<=few):CXT Tryz.prog 54 #[.slice a l.length c] m 4 (ZyI m l):=by
 have hl:l.length<=100000:=hl
 apply Zbu
 have aH:(l.map Va.cs).flatten.length=l.length*4:=ZaY Va.len l
 refine Zab (λha=>?_) (λha=>⟨⟨rfl,Int.le_refl _,by decide,by decide⟩,λb hf _=>⟨.inl rfl,[],(l.map Va.cs).flatten,rfl,aH,.inl rfl,h,?_,by omega,by omega,λa' c' m' hm aB iM=>⟨rfl,?_⟩⟩⟩)
 ·obtain rfl:a=none:=by simpa using ha
  have h0:l=[]:=by
   rcases h with h|⟨_,_,h,_⟩
   ·rw[h]at aH;exact List.eq_nil_of_length_eq_zero (by simp at aH;omega)
   ·cases h
  subst h0
  exact⟨rfl,none,0,rfl,.inl rfl,Nat.le_refl _⟩
 ·intro u hu
  simp only[List.mem_flatten,List.mem_map]at hu
  obtain⟨_,⟨e,_,rfl⟩,hu⟩:=hu
  exact Va.one e u hu
 ·simp only[Nat.zero_add]at iM ⊢
  refine⟨a',c',rfl,Zmb aB ?_,iM.1⟩
  rcases(iM.old (λ_ _ e=>by cases e;rfl)).2 with h1|⟨b',h1,h2|h2⟩
  ·exact .inr λb o e=>by rw[h1]at e;cases e
  ·exact .inr λb' o e=>by rw[<-h2]at e;cases e;exact hf
  ·exact .inr λb o e=>by rw[h1]at e;cases e;exact h2
def CpC(m:Mem)(s:Sc):Value->Mem->List (List Value)->Prop:=λv m' _=>∃s':Sc,v=s'.v/\s'.er=s.er/\RepC (nw m m') s'/\(s'.states=[]\/∃b μ,SepC m m' s' b μ)
theorem Zre{m:Mem}{s:Sc}:∀(v:Value)(m':Mem) (css:List (List Value)),CpC m s v m' css->Shape.fits (.agg [.int .i64,.slice,.slice]) v=true:=λv _ _ ⟨t,e,_⟩=>by rw[e];rfl
theorem ZsW{m:Mem}{l:List Va}:∀(v:Value)(m':Mem) (css:List (List Value)),ZyI m l v m' css->Shape.fits .slice v=true:=λv _ _ ⟨_,_,h,_⟩=>by rw[h];rfl
theorem Zuc(s:Sc)(m:Mem)(hr:RepC m s)(hl:s.light=true):CX Tryz.prog 18 #[s.v] m [] (CpC m s):=by
 apply Zn9
 intro b m1 aE _ b1
 have h:=Zb9 s m1 (hr.mono aE)
 rw[hl]at h
 refine Zah h λm2 aK=>Zn4 rfl ?_
 have eG:=hr.mono (mLt aE aK)
 have cR:=mLt aE aK
 refine⟨λi _ μ=>if i=4 then ZyI μ s.vars else Zqw Sta.cs (QS m) μ s.states,_,rfl,(Zor s.va s.vc s.vars m2 eG.vrow eG.vlen).toCX,ZsW,?_⟩
 rintro a n c m3 aQ ⟨a',c',hv,aB,cS⟩
 simp only[Value.slice.injEq]at hv
 obtain⟨rfl,rfl,rfl⟩:=hv
 refine⟨_,rfl,Zvz 56 (QS m) s.states s.sa s.sc m3 (eG.row.mono aQ) eG.len (λx hx m4 bZ=>Zzq x m m4 (mLt cR (mLt aQ bZ)) ((eG.all x hx).mono (mLt aQ bZ)) (ZuN hl x hx)),Ze4,?_⟩
 rintro a4 n4 c4 m4 bZ ⟨a5,c5,L',μ,hv',hE⟩ M _ fw gJ
 simp only[Value.slice.injEq]at hv'
 obtain⟨rfl,rfl,rfl⟩:=hv'
 have dQ:=mLt cR aQ
 have lU:(nw m3 m4).le (nw m M):=Zd3 dQ gJ
 refine⟨M,mLt cR (mLt aQ fw),Mem.le_refl _,⟨s.n,a,c,s.vars,a4,c4,L'⟩,rfl,?_,⟨hr.n,hr.vlen,aB.mono (Zd3 cR fw),hr.vall,by rw[hE.len];exact hr.len,hE.rows.mono lU,λy hy=>?_,cS,hE.cap⟩,?_⟩
 ·simp only[Sc.er,hE.same (f:=Sta.er) (g:=Sta.er) λ_ _ _ h=>h.1]
 ·obtain⟨i,x,_,_,hq,hs⟩:=hE.at hy
  exact hq.2.1.mono (mLt hs lU)
 ·rcases hE.blk with⟨h1,_⟩|⟨_,b,hb,hf,hk,hμ⟩
  ·exact .inl (List.eq_nil_of_length_eq_zero (by rw[hE.len,h1];rfl))
  ·refine .inr ⟨b,μ,hb,⟨Zbk dQ hf,Zer dQ hk⟩,λi y hy=>?_,λi j pz hj b'=>hE.ap i j pz (by rw[<-hE.len];exact hj) b',nw m2 m3,aB,Zd3 cR fw,Zbk (Zgd _ _) hf,λi hi b'=>?_⟩
   ·have aC:i < s.states.length:=by rw[<-hE.len];exact(zA0 hy).1
    have hq:=hE.q i _ _ (zA3 aC) hy
    exact⟨hq.2.1,hq.2.2,mLt (hE.sub i aC) lU,(hμ i aC).1⟩
   ·by_cases fW:(nw m2 m3).free b'
    ·exact .inl fW
    ·exact .inr (Zbk (hE.sub i (by rw[<-hE.len];exact hi)) (Zsh λh=>fW (Zbk (Zgd _ _) h)))
theorem ZvA(x:Sta)(name:ByteArray)(b:Nat)(m:Mem)(hb:m.reads b 0 [.string name]):CX Tryz.prog 51 #[.agg x.cs.toArray,.pointer (some ⟨b,0,none⟩)] m [] (Ret (.bool (eqS x.s name))):=by
 apply ZjJ (c0b:=b) (c0o:=0)
 intro b1 m1 aE _
 exact⟨_,(hb.mono aE) 0 _ rfl,Zaa rfl (Zaf aE rfl)⟩
variable {m:Mem} {b:Nat}
def ZAA(l:List Pt)(i:Nat)(p:Pt):Bool:=!ZfX p||(decide (i > 0)&&(p.k == 1&&(match l[i - 1]? with
 | some q=>q.k == 1
 | none=>false)))
def ZAB(s:Sc)(p:Pt):Bool:=(p.k == 2&&!(ZhA s p.s).2)||(p.k == 4&&!Zdy s p.e)
def ZAC(r:Ru)(p:Pt):Bool:=(p.k == 3&&decide (p.g > Zdp r))||(p.k == 4&&decide (p.e.most > Zdp r))
theorem Zqt(s:Sc)(r:Ru)(l:List Pt)(i:Nat)(p:Pt):ZlX s r l i p=Zcz [(307,ZAA l i p),(308,ZAB s p),(309,ZAC r p)]:=rfl
def ZBv(s:Sc)(i n:Nat):List Value:=(List.range n).map λj=>.int .i64 (totals s i j)
def TotI(s:Sc)(i:Nat)(a:Option Addr)(vs:List Value)(m:Mem):Prop:=vs.length=i/\rowRd m a vs/\∀(k:Nat)(x:Sta),k < i->s.states[k]?=some x->∃ak ck,vs[k]?=some (.slice ak x.rules.length ck)/\rowRd m ak (ZBv s k x.rules.length)
theorem TotI.mono{s:Sc}{i:Nat}{a:Option Addr}{vs:List Value}{m m':Mem}(h:TotI s i a vs m)(hm:m.le m'):TotI s i a vs m':=⟨h.1,h.2.1.mono hm,λk x hk hx=>by
 obtain⟨ak,ck,h1,h2⟩:=h.2.2 k x hk hx
 exact⟨ak,ck,h1,h2.mono hm⟩⟩
theorem Zz0{m:Mem}{a:Option Addr}{vs:List Value}(h:rowRd m a vs){k:Nat}{v:Value}(hk:vs[k]?=some v):∃b o,a=some ⟨b,o,none⟩/\m.c b (o+k*1)=some v:=by
 rcases h with h|⟨b,o,ha,h⟩
 ·rw[h]at hk;simp at hk
 ·exact⟨b,o,ha,by rw[Nat.mul_one];exact h k v hk⟩
end Go.Proofs.YtpjepnkiiojgfaaGreat
namespace Go.Proofs.YtpjepnkiiojgfaaGreat
open Go Go.Eng Go.Proofs Go.RowKit
open Go.Value (int slice agg bool string tuple func)
open Go.IntKind (u8 u64 i64)
set_option maxRecDepth 100000
def ZjM:Env:={ EB with
 loops:=(λi=>bif Nat.beq i 5 then⟨[(15,.int .i64)],[],[],false⟩ else⟨[],[],[],false⟩)
 frzNew:=[1]
 frzAt:=(λi=>bif Nat.beq i 37 then[3]else[])
 thaw:=true
 kF:=true }
theorem ZhY(aA:Int)(aW:Option Addr)(aP aX:Nat)(aN:Option Addr)(aJ aV:Nat)(m:Mem)(R:RT)(h:
 lV [int i64 aA,slice aW aP aX,slice aN aJ aV] λxL=>fzM m xL λb m'=>lE [some (Box.mk b xL 32 3 true true)] λxL_1=>m.free b->(∀(b' o:Nat)(u:Value),m' b' o=some u->m b' o
 = some u\/b'=b)->Mem.k m b=none->kB Tryz.prog 19 [agg (Array.mk xL)] m' λb m'=>br (!b) (rtM m m' R (slice none 0 0)) (∀(b:Nat),lX (Value.map (some b)) λyL=>m'.free b->Mem.k m' b=none->∀(b_1
 : Nat),∃(I:IT),lE (some (Box.mk b_1 [yL] 146 1 false true)::xL_1) λxL=>inI I [int i64 0] [] [] (Mem.updK m' b [])/\∀(n:Int)(m':Mem)(n_1:Nat),lV [int i64 (i64.wrap (n+(1:Int)))] fun
 xL_2=>True->I [int i64 n] [] [] m' n_1->br (decide (n < (↑aJ:Int))) (atA aN λb o=>Zad n aJ/\∃v v_1:Value,m'.reads b (o+Int.toNat n*2) [v,v_1]/\∀(b:Nat),chk
 (v.oneCell'&&(v_1.oneCell'&&true)) (∃(b:Nat),∃(es:List (Value×Value)),∃(v_2:Value),∃(o:Bool),yL=Value.map (some b)/\Mem.k m' b=some es/\Ztn Tryz.prog 9 v/\LookIs Tryz.prog 9 v
 es (int i64 0) v_2 o/\br (!o) (∃(b:Nat),∃(es:List (Value×Value)),∃(es':List (Value×Value)),yL=Value.map (some b)/\Mem.k m' b=some es/\Ztn Tryz.prog 9 v/\ZiH Tryz.prog 9 v (int i64 n) es es'
 /\ Mem.k m b=none/\Zac xL/\nxI n_1 I xL_2 [] [] (Mem.updK m' b es')) (Zac xL/\nxI n_1 I xL_2 [] [] m'))) (∀(m'_1:Mem),m'.le m'_1->m'_1.reads b_1 0 [yL]->kS Tryz.prog 77 [slice aN aJ aV,
 func (Fn.func 78) (Array.mk []) (Array.mk [Value.pointer (some (Addr.mk b_1 0 none))])] m'_1 λa n c m'=>rtM m m' R (slice a n c)))):CX Tryz.prog 32 #[.agg #[.int .i64 aA,.slice aW aP aX,.slice aN aJ aV]] m [] R:=
 Zae (E:=ZjM) Zao mix Tryz.func32 (by kernel_rfl) (Eq.mp (by kernel_rfl) h)
def Zg0:Env:={ EB with
 loops:=(λi=>bif Nat.beq i 3 then⟨[(4,.slice),(12,.int .i64)],[],[(32,1)],false⟩ else⟨[],[],[],false⟩)
 joins:=(λi=>bif Nat.beq i 6 then some [(28,.bool)]else none)
 tokOf:=(λi=>bif Nat.beq i 32 then 32 else 0)
 frzNew:=[2]
 thaw:=true
 lentC:=(λi=>bif Nat.beq i 35 then some [(32,1)]else bif Nat.beq i 37 then some [(32,1)]else none) }
theorem Zf4(aA:ByteArray)(aW:Option Addr)(aP aX c0b c0o:Nat)(m:Mem)(R:RT)(h:
 lV [string aA,slice aW aP aX] λxL=>fzM m xL λb m'=>lE [some (Box.mk b xL 36 2 true true)] λxL=>m.free b->(∀(b' o:Nat)(u:Value),m' b' o=some u->m b' o=some u\/b'=b)->∃(I:
 IT),inI I [slice none 0 0,int i64 0] [] [slice none 0 0] m'/\∀(a:Option Addr)(n c:Nat)(af:Int)(a3:Option Addr)(a4 a5:Nat)(m':Mem)(ai:Nat),lX (slice a3 a4 a5) λyL=>lE (Tok.mk yL 1) λag=>
 lE [some ag] λah=>lV [int i64 (i64.wrap (af+(1:Int)))] λak=>lE (n+1) λac=>lX (slice a n c) λad=>True->I [ad,int i64 af] [] [yL] m' ai->br (decide (af < (↑aP:Int))) (atA aW
 λb o=>Zad af aP/\∃v al am an ao ap aq ar au av aw ax ay az ae a0:Value,lV [v,al,am,an,ao,ap,aq,ar,au,av,aw,ax,ay,az,ae,a0] λa1=>m'.reads b (o+Int.toNat af*16) a1/\∀(b:Nat),lE (some
 (Box.mk b a1 47 16 false true)::xL) λa2=>chk (v.oneCell'&&(al.oneCell'&&(am.oneCell'&&(an.oneCell'&&(ao.oneCell'&&(ap.oneCell'&&(aq.oneCell' &&
 (ar.oneCell'&&(au.oneCell'&&(av.oneCell'&&(aw.oneCell'&&(ax.oneCell'&&(ay.oneCell'&&(az.oneCell'&&(ae.oneCell'&&(a0.oneCell'&&true))))))))))))))))
 (∃(v:Value),m' c0b c0o=some v/\∃(b:Nat),∃(es:List (Value×Value)),∃(aj:Value),∃(o:Bool),lV (List.append (Array.toList (Value.cells aj)) []) λa6=>v=Value.map (some b)/\Mem.k m' b=some es
 /\ Ztn Tryz.prog 9 ae/\LookIs Tryz.prog 9 ae es (int i64 0) aj o/\∃(b:Bool),br o (chk (Zfh ae&&true) (Zac a2/\ah=ah/\[bool !ByteArray.toList (ZbX ae) == ByteArray.toList bE0]
 = [bool b])) (Zac a2/\ah=ah/\[bool false]=[bool b])/\br b (chk (Nat.beq (List.length (Array.toList (Value.cells aj))) 1&&true) (∀(b:Nat),lM (m'.add b a6) λmL=>m'.free b->(ag=Tok.mk ad 1\/
 ad=slice none 0 0\/c < ac)/\∃(xs:List Value),∃(ys:List Value),xs.length=n*1/\ys.length=1*1/\rowRd mL a xs/\rowRd mL (some (Addr.mk b 0 none)) ys/\(∀(u:Value),u∈ys->u.oneCell'=true)/\ac*8<=140737488355328/\ac<=9223372036854775807/\∀(a':Option Addr)(c':Nat)(m':Mem),mL.le m'->rowRd m' a' (List.append xs ys)->TokFact mL a a' ac c'->Zac xL/\nxI ai I (slice a' ac c'
 :: ak) [] [slice a' ac c'] m')) (Zac xL/\nxI ai I (ad::ak) [] [yL] m'))) (∃(Y:Nat->Prop),∃(R_1:Value->Mem->List (List Value)->List Value->Prop),CXY Tryz.prog 36 (Array.mk [ad]) m' Y [] [ag] R_1/\(∀
 (t:Tok),t∈[ag]->∀(b:Nat),Tok.blk t=some b->Y b)/\(∀(aa:Nat),Y aa->(∃(t:Tok),t∈[ag]/\Tok.blk t=some aa)\/(m.free aa/\Mem.k m aa=none)/\((∃(o:Nat),∃(v:Value),m' aa o=some v)
 \/ ∃(e:List (Value×Value)),Mem.k m' aa=some e)/\b≠aa/\True)/\(∀(v:Value)(m':Mem) (css:List (List Value)) (tvs:List Value),R_1 v m' css tvs->Shape.fits (Shape.tup []) v=true)/\∀(ab:Mem),
 Mem.le (Mem.off m' Y) ab->(NewM m' ab λb=>Y b\/m'.free b)->∀(a:Option Addr)(c d:Nat),lE [Tok.mk (slice a c d) 1] λxL=>R_1 (tuple (Array.mk [])) ab [] [slice a c d]->∃(Y:Nat->Prop),∃(R_2:
 Value->Mem->List (List Value)->List Value->Prop),CXY Tryz.prog 37 (Array.mk [ad]) ab Y [] xL R_2/\(∀(t:Tok),t∈xL->∀(b:Nat),Tok.blk t=some b->Y b)/\(∀(aa:Nat),Y aa->(∃(t:Tok),t∈xL/\
 Tok.blk t=some aa)\/(m.free aa/\Mem.k m aa=none)/\((∃(o:Nat),∃(v:Value),ab aa o=some v)\/∃(e:List (Value×Value)),Mem.k ab aa=some e)/\b≠aa/\True)/\(∀(v:Value)(m':Mem) (css:List
 (List Value)) (tvs:List Value),R_2 v m' css tvs->Shape.fits Shape.slice v=true)/\∀(a:Option Addr)(n c:Nat)(m':Mem),Mem.le (Mem.off ab Y) m'->(NewM ab m' λb=>Y b\/ab.free b)->∀(a7:Option
 Addr) (a8 d:Nat),R_2 (slice a n c) m' [] [slice a7 a8 d]->rtM m m' R (slice a n c))):CX Tryz.prog 78 #[.agg #[.string aA,.slice aW aP aX],.pointer (some ⟨c0b,c0o,none⟩)] m [] R:=
 Zae (E:=Zg0) Zao mix Tryz.func78 (by kernel_rfl) (Eq.mp (by kernel_rfl) h)
def ZcB:Env:={ EB with
 loops:=(λi=>bif Nat.beq i 3 then⟨[(5,.slice),(10,.int .i64)],[],[(19,1)],false⟩ else⟨[],[],[],false⟩)
 tokOf:=(λi=>bif Nat.beq i 19 then 19 else 0)
 thaw:=true }
theorem Zcm(p0a:Option Addr)(p0n p0c p1g:Nat)(p1fi p1ca:List Value)(m:Mem)(R:RT)(h:
 ∃(I:IT),inI I [slice none 0 0,int i64 0] [] [slice none 0 0] m/\∀(a:Option Addr)(n c:Nat)(n_1:Int)(a_1:Option Addr)(n_2 c_1:Nat)(m':Mem)(n_3:Nat),lX (slice a n c) λyL=>lE (n+1) fun
 yL_1=>True->I [yL,int i64 n_1] [] [slice a_1 n_2 c_1] m' n_3->br (decide (n_1 < (↑p0n:Int))) (atA p0a λb o=>Zad n_1 p0n/\∃v v_1:Value,m'.reads b (o+Int.toNat n_1*2) [v,v_1]/\
 ∀(b:Nat),chk (v.oneCell'&&(v_1.oneCell'&&true)) (kS Tryz.prog p1g (List.append (List.append p1fi [agg (Array.mk [v,v_1])]) p1ca) m' λa_4 n_4 c_2 m'=>∀(b:Nat),lM (m'.add b [slice a_4 n_4
 c_2]) λmL=>m'.free b->(Tok.mk (slice a_1 n_2 c_1) 1=Tok.mk yL 1\/yL=slice none 0 0\/c < yL_1)/\∃(xs:List Value),∃(ys:List Value),xs.length=n*1/\ys.length=1*1/\rowRd mL a xs/\
 rowRd mL (some (Addr.mk b 0 none)) ys/\(∀(u:Value),u∈ys->u.oneCell'=true)/\yL_1*24<=140737488355328/\yL_1<=9223372036854775807/\∀(a':Option Addr)(c':Nat)(m':Mem),mL.le m'->rowRd m'
 a' (List.append xs ys)->TokFact mL a a' yL_1 c'->nxI n_3 I [slice a' yL_1 c',int i64 (i64.wrap (n_1+(1:Int)))] [] [slice a' yL_1 c'] m')) (rtM m m' R yL)):CX Tryz.prog 77 #[.slice p0a p0n p0c,.func (.func p1g) p1fi.toArray p1ca.toArray] m [] R:=
 Zae (E:=ZcB) Zao mix Tryz.func77 (by kernel_rfl) (Eq.mp (by kernel_rfl) h)
def ZlL:Env:={ EB with
 loops:=(λi=>bif Nat.beq i 1 then⟨[(7,.int .i64)],[100000],[(18,1),(900,1)],false⟩ else⟨[],[],[],false⟩)
 tokOf:=(λi=>bif Nat.beq i 18 then 900 else 0)
 thaw:=true }
theorem ZhZ(p0a:Option Addr)(p0n p0c c0b:Nat)(c0_0a:Option Addr)(c0_0n c0_0c:Nat)(t0a:Option Addr)(t0n t0c:Nat)(m:Mem)(Y:Nat->Prop)(R:RTY)(h:
 ∃(I:IT),lE [some (Box.mk c0b [] 80 1 false true)] λxL=>lE (Box.mk c0b [slice c0_0a c0_0n c0_0c] 80 1 false true) λyL=>inI I [int i64 0] [[slice c0_0a c0_0n c0_0c]] [slice none 0 0,slice t0a t0n t0c] m/\∀
 (n:Int) (cs:List Value) (a:Option Addr) (n_1 c:Nat) (a_1:Option Addr) (n_2 c_1:Nat) (m':Mem) (n_3:Nat),lX (slice a n_1 c) λyL_1=>lV [int i64 (i64.wrap (n+(1:Int)))] λxL_1=>lX
 (slice a_1 n_2 c_1) λyL_2=>True->I [int i64 n] [cs] [yL_1,yL_2] m' n_3->br (decide (n < (↑p0n:Int))) (atA p0a λb o=>Zad n p0n/\∃(v:Value),lV (List.append (Array.toList (Value.cells v)) []) fun
 xL_2=>m' b (o+Int.toNat n*1)=some v/\Eng.Zth cs 0 λv_1=>kB Tryz.prog 29 [v_1,v] m' λb m'=>br (!b) (Eng.Zth cs 0 λv_2=>lE (slN v_2+1) λyL=>chk (Nat.beq (List.length (Array.toList
 (Value.cells v))) 1&&true) (∀(b:Nat),lM (m'.add b xL_2) λmL=>m'.free b->chk (ZbM v_2&&true) ((Tok.mk yL_2 1=Tok.mk v_2 1\/v_2=slice none 0 0\/slC v_2 < yL)/\∃(xs:List Value),∃(ys:
 List Value),xs.length=slN v_2*1/\ys.length=1*1/\rowRd mL (slA v_2) xs/\rowRd mL (some (Addr.mk b 0 none)) ys/\(∀(u:Value),u∈ys->u.oneCell'=true)/\yL*16<=140737488355328/\yL <=
 9223372036854775807/\∀(a':Option Addr)(c':Nat)(m':Mem),mL.le m'->rowRd m' a' (List.append xs ys)->TokFact mL (slA v_2) a' yL c'->Zac xL/\([none]:List (Option Tok))=[none]/\nxI n_3 I xL_1
 [[slice a' yL c']] [yL_1,slice a' yL c'] m'))) (Zac xL/\([none]:List (Option Tok))=[none]/\nxI n_3 I xL_1 [cs] [yL_1,yL_2] m')) (yL=yL/\R (tuple (Array.mk [])) m' [cs] [yL_2])):CXY Tryz.prog 108 #[.slice p0a p0n p0c,.pointer (some ⟨c0b,0,none⟩)] m Y [⟨c0b,[.slice c0_0a c0_0n c0_0c],80,1,false,true⟩] [⟨.slice t0a t0n t0c,1⟩] R:=
 Zkr (E:=ZlL) Zao mix Tryz.func108 [.v (.slice p0a p0n p0c),.loc 100000 0] [⟨c0b,[.slice c0_0a c0_0n c0_0c],80,1,false,true⟩] [900] [⟨.slice t0a t0n t0c,1⟩] (by decide) (by kernel_rfl) (Eq.mp (by kernel_rfl) h)
def ZpH:Env:={ EB with
 loops:=(λi=>bif Nat.beq i 7 then⟨[(18,.agg [.int .u8,.str,.slice,.int .u8,.any,.str,.int .i64,.slice])],[5],[(900,1)],false⟩ else bif Nat.beq i 13 then⟨[(44,.int .i64)],[5],[(900,1)],false⟩ else⟨[],[],[],false⟩)
 joins:=(λi=>bif Nat.beq i 8 then some [(27,.bool)]else none)
 dr:=(λi=>bif Nat.beq i 11 then[⟨0,[6],[],none,[],[]⟩,⟨1,[7],[],none,[],[]⟩,⟨2,[7],[],none,[1],[]⟩,⟨3,[],[],none,[1,2],[]⟩]else bif Nat.beq i 19 then[⟨0,[6],[],none,[],[]⟩,⟨1,[9],[],none,[],[]⟩,⟨2,[9],[],none,[1],[]⟩,⟨3,[],[],none,[1,2],[]⟩]else[])
 borrow:=(λi=>bif Nat.beq i 32 then[5]else bif Nat.beq i 40 then[5]else bif Nat.beq i 56 then[5]else bif Nat.beq i 63 then[5]else[])
 frzNew:=[2,3]
 last:=(λi=>bif Nat.beq i 11 then true else bif Nat.beq i 19 then true else false)
 lastK:=(λi=>bif Nat.beq i 11 then 1 else bif Nat.beq i 19 then 1 else 1)
 thaw:=true
 cuts:=λi=>bif Nat.beq i 12 then some ⟨[],[5],[(900,1)],false⟩ else none
 lentC:=(λi=>bif Nat.beq i 32 then some [(900,1)]else bif Nat.beq i 40 then some [(900,1)]else bif Nat.beq i 56 then some [(900,1)]else bif Nat.beq i 63 then some [(900,1)]else none) }
theorem Zos(aA:Int)(aD aG:Bool)(aF bG bH bI eo ep eu:Int)(cA:Option Addr)(cB cC:Nat)(cZ:ByteArray)(dA:Int)(cD:Option Addr)(cE cF:Nat)(dB:ByteArray)(dC:Int)(p1:Bool)(m:Mem)(R:RT)(h:
 lV [bool p1] λxL=>lV [int u8 aA,bool aD,bool aG,int u8 aF,int u64 bG,int u64 bH,int u64 bI,int u64 eo,int i64 ep,int i64 eu,slice cA cB cC,string cZ,int i64 dA,
 slice cD cE cF,string dB,int i64 dC] λan=>fzM m an λb m'=>lE [some (Box.mk b an 47 16 true true)] λbc=>m.free b->(∀(b' o:Nat)(u:Value),m' b' o=some u->m b' o=some u\/
 b'=b)->fzM m' xL λae aw=>lE (some (Box.mk ae xL 4 1 true true)::bc) λxL=>m'.free ae->(∀(b' o:Nat)(u:Value),aw b' o=some u->m' b' o=some u\/b'=ae)->∃(R_1:RT),True/\CX Tryz.prog 75
 (Array.mk [agg (Array.mk an)]) aw [] R_1/\ZbC (Shape.agg [Shape.int i64,Shape.slice,Shape.slice]) R_1/\∀(n:Int)(a:Option Addr)(bd c:Nat)(be:Option Addr)(bf bg:Nat)(m':Mem),lX (agg (Array.mk [int
 i64 n,slice a bd c,slice be bf bg])) λyL=>aw.le m'->R_1 yL m' []->kB Tryz.prog 19 [yL] m' λbh m'=>br (!bh) (rtM m m' R (slice none 0 0)) (∀(ao bi:Nat),∃(R_2:RT),lV [Value.pointer (some (Addr.mk
 ao 0 none))] λaj=>lE (some (Box.mk bi [func (Fn.func 108) (Array.mk []) (Array.mk aj)] 180 1 false true)) λyL=>lE (yL::some (Box.mk ao [] 80 1 false true)::xL) λad=>True/\CX Tryz.prog 75 (Array.mk
 [agg (Array.mk an)]) m' [] R_2/\ZbC (Shape.agg [Shape.int i64,Shape.slice,Shape.slice]) R_2/\∀(n:Int)(a:Option Addr)(bj c:Nat)(bk:Option Addr)(bl bm:Nat)(ax:Mem),lX (agg (Array.mk [int i64 n,
 slice a bj c,slice bk bl bm])) λa2=>m'.le ax->R_2 a2 ax []->kF Tryz.prog 71 [a2] ax λg fi ca m'=>∃(mi:Mem),mi.le m'/\∃(xs:List (List Value)),IX Tryz.prog g fi ca mi xs/\(∀(x:List
 Value),x∈xs->Shape.fitsL [Shape.agg [Shape.int u8,Shape.str,Shape.slice,Shape.int u8,Shape.any,Shape.str,Shape.int i64,Shape.slice]] x=true)/\∃(I:IT),I [] [[slice none 0 0]] [slice none 0 0] m' 0/\(∀
 (n:Int) (s:ByteArray) (a:Option Addr) (ay c:Nat) (bn:Int) (v:Value) (bo:ByteArray) (bp:Int) (bq:Option Addr) (bs bt:Nat) (cs:List Value) (bu:Option Addr) (bv bw:Nat) (m':Mem) (ak:Nat),lX
 (slice bu bv bw) λap=>lE (Tok.mk ap 1) λaf=>lE [some af] λaq=>lV [string s] λbx=>lE (Box.mk ao cs 80 1 false true) λar=>lV [int u8 bn,v,string bo,int i64 bp,slice bq bs bt] λaz=>lV (int
 u8 n::string s::slice a ay c::az) λa3=>mi.le m'->List.get?Internal xs ak=some [agg (Array.mk a3)]->I [] [cs] [ap] m' ak->∀(bz:Nat),lE (some (Box.mk bz a3 54 8 false true)) λag=>chk
 (v.oneCell'&&true) (br p1 (∃(ab:Bool),br (n == (2:Int)) (Zac (ag::yL::some ar::xL)/\aq=aq/\[bool true]=[bool ab]) (Zac (ag::yL::some ar::xL)/\aq=aq/\[bool (n == (3:Int))] =
 [bool ab])/\br ab (∀(al:Nat),lM (m'.add al bx) λmL=>m'.free al->∃(Y:Nat->Prop),∃(R:Value->Mem->List (List Value)->List Value->Prop),CXY Tryz.prog 108 (Array.mk (slice (some (Addr.mk al 0
 none)) 1 1::aj)) mL Y [ar] [af] R/\(∀(t:Tok),t∈[af]->∀(b:Nat),Tok.blk t=some b->Y b)/\(∀(aa:Nat),Y aa->(∃(t:Tok),t∈[af]/\Tok.blk t=some aa)\/(m.free aa/\Mem.k m aa=none)/\((∃(o
 : Nat),∃(v:Value),mL aa o=some v)\/∃(e:List (Value×Value)),Mem.k mL aa=some e)/\al≠aa/\ae≠aa/\b≠aa/\True)/\(∀(v:Value)(m':Mem) (css:List (List Value)) (tvs:List Value),R v m' css
 tvs->Shape.fits (Shape.tup []) v=true)/\∀(m':Mem),Mem.le (Mem.off mL Y) m'->(NewM mL m' λb=>Y b\/mL.free b)->∀(cs:List Value)(a:Option Addr)(c d:Nat),R (tuple (Array.mk [])) m' [cs] [slice
 a c d]->mi.le m'/\Zac ad/\I [] [cs] [slice a c d] m' (ak+1)) (mi.le m'/\Zac ad/\I [] [cs] [ap] m' (ak+1))) (∃(J:JT),br (n == (3:Int)) (∃(f:Fx),∃(R:RT),R=f 3 [agg (Array.mk az)] m'
 /\ CX Tryz.prog 109 (Array.mk [agg (Array.mk az)]) m' [] R/\ZbC Shape.slice R/\∀(a:Option Addr)(n c:Nat)(ah:Mem),m'.le ah->R (slice a n c) ah []->∀(M:Mem),m'.le M->ah.le M->∃(Y:Nat->
 Prop),∃(R:Value->Mem->List (List Value)->List Value->Prop),CXY Tryz.prog 108 (Array.mk (slice a n c::aj)) M Y [ar] [af] R/\(∀(t:Tok),t∈[af]->∀(b:Nat),Tok.blk t=some b->Y b)/\(∀(ab:Nat),Y
 ab->(∃(t:Tok),t∈[af]/\Tok.blk t=some ab)\/(m.free ab/\Mem.k m ab=none)/\((∃(o:Nat),∃(v:Value),M ab o=some v)\/∃(e:List (Value×Value)),Mem.k M ab=some e)/\ae≠ab/\b≠ab/\True)/\
 (∀(v:Value)(m':Mem) (css:List (List Value)) (tvs:List Value),R v m' css tvs->Shape.fits (Shape.tup []) v=true)/\∀(m':Mem),Mem.le (Mem.off M Y) m'->(NewM M m' λb=>Y b\/M.free b)->∀(cs:
 List Value) (a:Option Addr) (c d:Nat),R (tuple (Array.mk [])) m' [cs] [slice a c d]->Zac (ag::ad)/\([none]:List (Option Tok))=[none]/\J [] [cs] [slice a c d] m') (Zac (ag::ad)/\([none]:List
 (Option Tok))=[none]/\J [] [cs] [ap] m')/\∀(cs:List Value)(a4:Option Addr)(n c:Nat)(m':Mem),True->J [] [cs] [slice a4 n c] m'->∃(am:IT),inI am [int i64 0] [cs] [slice a4 n c] m'/\∀(n:Int) (cs
 : List Value) (cb:Option Addr) (cc c:Nat) (m':Mem) (au:Nat),lE [Box.mk ao cs 80 1 false true] λxL=>lX (slice cb cc c) λyL=>lV [int i64 (i64.wrap (n+(1:Int)))] λa0=>lE [Tok.mk yL 1]
 λai=>True->am [int i64 n] [cs] [yL] m' au->br (decide (n < (↑ay:Int))) (atA a λab o=>Zad n ay/\∃v av a5 a6 a7 a8 a9 ba:Value,lV [a6,a7,a8,a9,ba] λa1=>lE (Za9 u8 v&&decide (u8=u8)) λbb=>lV (List.append (Array.toList (Value.cells av)) []) λcd=>m'.reads ab (o+Int.toNat n*8) (v::av::a5
 :: a1)/\∀(al:Nat),chk (v.oneCell'&&(av.oneCell'&&(a5.oneCell'&&(a6.oneCell'&&(a7.oneCell'&&(a8.oneCell'&&(a9.oneCell'&&(ba.oneCell'&&true)))))))) (chk
 bb (br (RowKit.intOf v == (2:Int)) (chk (Nat.beq (List.length (Array.toList (Value.cells av))) 1&&true) (∀(aa:Nat),lM (m'.add aa cd) λmL=>m'.free aa->∃(Y:Nat->Prop),∃(R:Value->Mem->List
 (List Value)->List Value->Prop),CXY Tryz.prog 108 (Array.mk (slice (some (Addr.mk aa 0 none)) 1 1::aj)) mL Y xL ai R/\(∀(t:Tok),t∈ai->∀(b:Nat),Tok.blk t=some b->Y b)/\(∀(ac:Nat),Y ac->(∃(t:
 Tok),t∈ai/\Tok.blk t=some ac)\/(m.free ac/\Mem.k m ac=none)/\((∃(o:Nat),∃(v:Value),mL ac o=some v)\/∃(e:List (Value×Value)),Mem.k mL ac=some e)/\aa≠ac/\ae≠ac/\b≠ac/\True)/\(∀
 (v:Value) (m':Mem) (css:List (List Value)) (tvs:List Value),R v m' css tvs->Shape.fits (Shape.tup []) v=true)/\∀(m':Mem),Mem.le (Mem.off mL Y) m'->(NewM mL m' λb=>Y b\/mL.free b)->∀(cs:
 List Value) (a:Option Addr) (c d:Nat),R (tuple (Array.mk [])) m' [cs] [slice a c d]->Zac (ag::ad)/\([none,none]:List (Option Tok))=[none,none]/\nxI au am a0 [cs] [slice a c d] m')) (chk bb (br
 (RowKit.intOf v == (4:Int)) (∃(f:Fx),∃(R:RT),R=f 3 [agg (Array.mk a1)] m'/\CX Tryz.prog 109 (Array.mk [agg (Array.mk a1)]) m' [] R/\ZbC Shape.slice R/\∀(a:Option Addr)(n c:Nat)(ah:Mem),m'.le ah->R (slice a n c) ah []->∀(M:Mem),m'.le M->ah.le M->∃(Y:Nat->Prop),∃(R:Value->Mem->List (List Value)->List Value->Prop),CXY Tryz.prog 108 (Array.mk (slice a n c::aj)) M Y xL ai R/\(∀
 (t:Tok),t∈ai->∀(b:Nat),Tok.blk t=some b->Y b)/\(∀(aa:Nat),Y aa->(∃(t:Tok),t∈ai/\Tok.blk t=some aa)\/(m.free aa/\Mem.k m aa=none)/\((∃(o:Nat),∃(v:Value),M aa o=some v)\/∃
 (e:List (Value×Value)),Mem.k M aa=some e)/\ae≠aa/\b≠aa/\True)/\(∀(v:Value)(m':Mem) (css:List (List Value)) (tvs:List Value),R v m' css tvs->Shape.fits (Shape.tup []) v=true)/\∀(m':Mem),
 Mem.le (Mem.off M Y) m'->(NewM M m' λb=>Y b\/M.free b)->∀(cs:List Value)(a:Option Addr)(c d:Nat),R (tuple (Array.mk [])) m' [cs] [slice a c d]->Zac (ag::ad)/\([none,none]:List (Option
 Tok))=[none,none]/\nxI au am a0 [cs] [slice a c d] m') (Zac (ag::ad)/\([none,none]:List (Option Tok))=[none,none]/\nxI au am a0 [cs] [yL] m')))))) (mi.le m'/\Zac ad/\I [] [cs] [yL] m' (ak +
 1)))))/\∀(cs:List Value)(a:Option Addr)(n c:Nat)(m':Mem),mi.le m'->I [] [cs] [slice a n c] m' (xs.length)->Eng.Zth cs 0 λv=>rtM m m' R v)):CX Tryz.prog 74 #[.agg #[.int .u8 aA,.bool aD,.bool aG,.int .u8 aF,.int .u64 bG,.int .u64 bH,.int .u64 bI,.int .u64 eo,.int .i64 ep,.int .i64 eu,.slice cA cB cC,.string cZ,.int .i64 dA,.slice cD cE cF,.string dB,.int .i64 dC],.bool p1] m [] R:=
 Zae (E:=ZpH) Zao mix Tryz.func74 (by kernel_rfl) (Eq.mp (by kernel_rfl) h)
def Zot:Env:={ EB with
 frzNew:=[1] }
theorem ZlM(aA:Int)(aD aG:Bool)(aF bG bH bI eo ep eu:Int)(cA:Option Addr)(cB cC:Nat)(cZ:ByteArray)(dA:Int)(cD:Option Addr)(cE cF:Nat)(dB:ByteArray)(dC:Int)(m:Mem)(R:RT)(h:
 lV [int u8 aA,bool aD,bool aG,int u8 aF,int u64 bG,int u64 bH,int u64 bI,int u64 eo,int i64 ep,int i64 eu,slice cA cB cC,string cZ,int i64 dA,slice cD cE
 cF,string dB,int i64 dC] λxL=>fzM m xL λb m'=>kS Tryz.prog 74 [agg (Array.mk xL),bool false] m' λa n c m'=>rtM m m' R (slice a n c)):CX Tryz.prog 27 #[.agg #[.int .u8 aA,.bool aD,.bool aG,.int .u8 aF,.int .u64 bG,.int .u64 bH,.int .u64 bI,.int .u64 eo,.int .i64 ep,.int .i64 eu,.slice cA cB cC,.string cZ,.int .i64 dA,.slice cD cE cF,.string dB,.int .i64 dC]] m [] R:=
 Zae (E:=Zot) Zao mix Tryz.func27 (by kernel_rfl) (Eq.mp (by kernel_rfl) h)
def ZlN:Env:={ EB with
 frzNew:=[1] }
theorem ZjN(aA:Int)(aD aG:Bool)(aF bG bH bI eo ep eu:Int)(cA:Option Addr)(cB cC:Nat)(cZ:ByteArray)(dA:Int)(cD:Option Addr)(cE cF:Nat)(dB:ByteArray)(dC:Int)(m:Mem)(R:RT)(h:
 lV [int u8 aA,bool aD,bool aG,int u8 aF,int u64 bG,int u64 bH,int u64 bI,int u64 eo,int i64 ep,int i64 eu,slice cA cB cC,string cZ,int i64 dA,slice cD cE
 cF,string dB,int i64 dC] λxL=>fzM m xL λb m'=>kS Tryz.prog 74 [agg (Array.mk xL),bool true] m' λa n c m'=>rtM m m' R (slice a n c)):CX Tryz.prog 28 #[.agg #[.int .u8 aA,.bool aD,.bool aG,.int .u8 aF,.int .u64 bG,.int .u64 bH,.int .u64 bI,.int .u64 eo,.int .i64 ep,.int .i64 eu,.slice cA cB cC,.string cZ,.int .i64 dA,.slice cD cE cF,.string dB,.int .i64 dC]] m [] R:=
 Zae (E:=ZlN) Zao mix Tryz.func28 (by kernel_rfl) (Eq.mp (by kernel_rfl) h)
def ZpI:Env:={ EB with
 loops:=(λi=>bif Nat.beq i 6 then⟨[(14,.agg [.int .u8,.str,.slice,.int .u8,.any,.str,.int .i64,.slice])],[3],[],false⟩ else bif Nat.beq i 9 then⟨[(26,.int .i64)],[3],[],false⟩ else⟨[],[],[],false⟩)
 dr:=(λi=>bif Nat.beq i 7 then[⟨0,[3],[],none,[],[]⟩,⟨1,[4],[],none,[],[]⟩,⟨2,[4],[],none,[1],[]⟩,⟨3,[],[],none,[1,2],[]⟩,⟨4,[],[],none,[0,1,2,3],[]⟩,⟨5,[3],[3],none,[0,1,2,3,4],[]⟩]else bif Nat.beq i 15 then[⟨0,[3],[],none,[],[]⟩,⟨1,[6],[],none,[],[]⟩,⟨2,[6],[],none,[1],[]⟩,⟨3,[],[],none,[1,2],[]⟩,⟨4,[],[],none,[0,1,2,3],[]⟩,⟨5,[3],[3],none,[0,1,2,3,4],[]⟩]else[])
 frzNew:=[1]
 cuts:=λi=>bif Nat.beq i 8 then some ⟨[],[3],[],false⟩ else none }
theorem Zou(aA:Int)(aD aG:Bool)(aF bG bH bI eo ep eu:Int)(cA:Option Addr)(cB cC:Nat)(cZ:ByteArray)(dA:Int)(cD:Option Addr)(cE cF:Nat)(dB:ByteArray)(dC:Int)(m:Mem)(R:RT)(h:
 lV [int u8 aA,bool aD,bool aG,int u8 aF,int u64 bG,int u64 bH,int u64 bI,int u64 eo,int i64 ep,int i64 eu,slice cA cB cC,string cZ,int i64 dA,slice cD cE
 cF,string dB,int i64 dC] λxL=>fzM m xL λb m'=>∃(R_1:RT),lE [some (Box.mk b xL 47 16 true true)] λav=>True/\CX Tryz.prog 75 (Array.mk [agg (Array.mk xL)]) m' [] R_1/\ZbC (Shape.agg
 [Shape.int i64,Shape.slice,Shape.slice]) R_1/\∀(n:Int)(a:Option Addr)(aw c:Nat)(ax:Option Addr)(ay az:Nat)(ag:Mem),lX (agg (Array.mk [int i64 n,slice a aw c,slice ax ay az])) λyL=>m'.le ag->R_1 yL ag []->kB Tryz.prog 19 [yL] ag λb m'=>br (!b) (rtM m m' R (int i64 0)) (∀(b:Nat),∃(R_2:RT),lE (some (Box.mk b [] 3 1 false true)::av) λal=>True/\CX Tryz.prog 75 (Array.mk [agg (Array.mk
 xL)]) m' [] R_2/\ZbC (Shape.agg [Shape.int i64,Shape.slice,Shape.slice]) R_2/\∀(n:Int)(a:Option Addr)(a0 c:Nat)(a1:Option Addr)(a2 a3:Nat)(ah:Mem),lX (agg (Array.mk [int i64 n,slice a a0 c,
 slice a1 a2 a3])) λyL=>m'.le ah->R_2 yL ah []->kF Tryz.prog 71 [yL] ah λg fi ca m'=>∃(xs:List (List Value)),IX Tryz.prog g fi ca m' xs/\(∀(x:List Value),x∈xs->Shape.fitsL [Shape.agg
 [Shape.int u8,Shape.str,Shape.slice,Shape.int u8,Shape.any,Shape.str,Shape.int i64,Shape.slice]] x=true)/\∃(I:IT),I [] [[int i64 (-1:Int)]] [] m' 0/\(∀(n:Int)(s:ByteArray)(a:Option Addr) (ai c
 : Nat) (a4:Int) (v:Value) (a5:ByteArray) (a6:Int) (a7:Option Addr) (a8 a9:Nat) (cs:List Value) (aa:Mem) (aj:Nat),lV [int u8 a4,v,string a5,int i64 a6,slice a7 a8 a9] λxL=>lV (int u8 n ::
 string s::slice a ai c::xL) λam=>m'.le aa->List.get?Internal xs aj=some [agg (Array.mk am)]->I [] [cs] [] aa aj->∀(b:Nat),lE (some (Box.mk b am 54 8 false true)::al) λac=>chk (v.oneCell'&&true) (∃(J:JT),br (n == (3:Int)) (∃(f:Fx),Eng.Zth cs 0 λv=>∃(R:RT),R=f 3 [agg (Array.mk xL)] aa/\CX Tryz.prog 76 (Array.mk [agg (Array.mk xL)]) aa [] R/\ZbC (Shape.int i64) R/\∀(n:Int)
 (m':Mem),aa.le m'->R (int i64 n) m' []->chk (Za9 i64 v&&decide (i64=i64)) (∀(M:Mem),aa.le M->m'.le M->Zac ac/\J [] [[int i64 (if n > RowKit.intOf v then n else RowKit.intOf v)]] [] M))
 (Zac ac/\J [] [cs] [] aa)/\∀(cs:List Value)(m':Mem),aa.le m'->J [] [cs] [] m'->∃(ad:IT),inI ad [int i64 0] [cs] [] m'/\∀(n:Int)(cs:List Value)(ab:Mem)(af:Nat),lV [int i64
 (i64.wrap (n+(1:Int)))] λxL=>m'.le ab->ad [int i64 n] [cs] [] ab af->br (decide (n < (↑ai:Int))) (atA a λb o=>Zad n ai/\∃v an ae ao ap aq ar au:Value,lV [ao,ap,aq,ar,au] λak=>lE (Za9 u8 v&&decide (u8=u8)) λyL=>ab.reads b (o+Int.toNat n*8) (v::an::ae::ak)/\∀(b:Nat),chk
 (v.oneCell'&&(an.oneCell'&&(ae.oneCell'&&(ao.oneCell'&&(ap.oneCell'&&(aq.oneCell'&&(ar.oneCell'&&(au.oneCell'&&true)))))))) (chk yL (br (RowKit.intOf v ==
 (3:Int)) (Eng.Zth cs 0 λv=>chk (Za9 i64 v&&Za9 i64 ae) (Zac ac/\nxI af ad xL [[int i64 (if RowKit.intOf ae > RowKit.intOf v then RowKit.intOf ae else RowKit.intOf v)]] [] ab)) (chk yL (br (RowKit.intOf
 v == (4:Int)) (∃(f:Fx),Eng.Zth cs 0 λv=>∃(R:RT),R=f 3 [agg (Array.mk ak)] ab/\CX Tryz.prog 76 (Array.mk [agg (Array.mk ak)]) ab [] R/\ZbC (Shape.int i64) R/\∀(n:Int)(m':Mem),ab.le m'->R
 (int i64 n) m' []->chk (Za9 i64 v&&decide (i64=i64)) (∀(M:Mem),ab.le M->m'.le M->Zac ac/\nxI af ad xL [[int i64 (if n > RowKit.intOf v then n else RowKit.intOf v)]] [] M)) (Zac ac/\nxI af ad
 xL [cs] [] ab)))))) (Zac al/\I [] [cs] [] ab (aj+1))))/\∀(cs:List Value)(aa:Mem),m'.le aa->I [] [cs] [] aa (xs.length)->Eng.Zth cs 0 λv=>rtM m aa R v)):CX Tryz.prog 30 #[.agg #[.int .u8 aA,.bool aD,.bool aG,.int .u8 aF,.int .u64 bG,.int .u64 bH,.int .u64 bI,.int .u64 eo,.int .i64 ep,.int .i64 eu,.slice cA cB cC,.string cZ,.int .i64 dA,.slice cD cE cF,.string dB,.int .i64 dC]] m [] R:=
 Zae (E:=ZpI) Zao mix Tryz.func30 (by kernel_rfl) (Eq.mp (by kernel_rfl) h)
def Zc0:Env:={ EB with
 loops:=(λi=>bif Nat.beq i 4 then⟨[(13,.int .i64)],[],[],false⟩ else⟨[],[],[],false⟩)
 dr:=(λi=>bif Nat.beq i 6 then[⟨0,[],[],none,[],[]⟩,⟨1,[],[],none,[],[]⟩,⟨2,[],[],none,[0,1],[]⟩,⟨3,[],[],none,[0,1,2],[]⟩,⟨4,[],[],none,[],[]⟩,⟨5,[],[],none,[],[]⟩,⟨6,[],[],none,[4,5],[]⟩,⟨7,[],[],none,[4,5,6],[]⟩,⟨8,[],[],none,[0,1,2,3,4,5,6,7],[]⟩]else[]) }
theorem ZcU(p0a:Option Addr)(p0n p0c:Nat)(p1a:Option Addr)(p1n p1c:Nat)(m:Mem)(R:RT)(h:
 br (!(↑p0n:Int) == (↑p1n:Int)) (rtM m m R (bool false)) (∃(I:IT),inI I [int i64 0] [] [] m/\∀(n:Int)(m':Mem)(n_1:Nat),m.le m'->I [int i64 n] [] [] m' n_1->br (decide (n < (↑p0n:Int))) (atA p0a
 λb o=>Zad n p0n/\∃(v:Value),m' b (o+Int.toNat n*1)=some v/\atA p1a λb o=>Zad n p1n/\∃(v_1:Value),m' b (o+Int.toNat n*1)=some v_1/\chk (Za9 i64 v&&Za9 i64 v_1) (br
 (!RowKit.intOf v == RowKit.intOf v_1) (rtM m m' R (bool false)) (nxI n_1 I [int i64 (i64.wrap (n+(1:Int)))] [] [] m'))) (rtM m m' R (bool true)))):CX Tryz.prog 38 #[.slice p0a p0n p0c,.slice p1a p1n p1c] m [] R:=
 Zae (E:=Zc0) Zao mix Tryz.func38 (by kernel_rfl) (Eq.mp (by kernel_rfl) h)
def Zb2:Env:={ EB with
 loops:=(λi=>bif Nat.beq i 4 then⟨[(13,.int .i64)],[],[],false⟩ else⟨[],[],[],false⟩)
 dr:=(λi=>bif Nat.beq i 6 then[⟨0,[],[],none,[],[]⟩,⟨1,[],[],none,[],[]⟩,⟨2,[],[],none,[0,1],[]⟩,⟨3,[],[],none,[0,1,2],[]⟩,⟨4,[],[],none,[],[]⟩,⟨5,[],[],none,[],[]⟩,⟨6,[],[],none,[4,5],[]⟩,⟨7,[],[],none,[4,5,6],[]⟩,⟨8,[],[],none,[0,1,2,3,4,5,6,7],[]⟩]else[]) }
theorem ZbW(p0a:Option Addr)(p0n p0c:Nat)(p1a:Option Addr)(p1n p1c:Nat)(m:Mem)(R:RT)(h:
 br (!(↑p0n:Int) == (↑p1n:Int)) (rtM m m R (bool false)) (∃(I:IT),inI I [int i64 0] [] [] m/\∀(n:Int)(m':Mem)(n_1:Nat),m.le m'->I [int i64 n] [] [] m' n_1->br (decide (n < (↑p0n:Int))) (atA p0a
 λb o=>Zad n p0n/\∃(v:Value),m' b (o+Int.toNat n*1)=some v/\atA p1a λb o=>Zad n p1n/\∃(v_1:Value),m' b (o+Int.toNat n*1)=some v_1/\chk (Zfh v&&Zfh v_1) (br
 (!ByteArray.toList (ZbX v) == ByteArray.toList (ZbX v_1)) (rtM m m' R (bool false)) (nxI n_1 I [int i64 (i64.wrap (n+(1:Int)))] [] [] m'))) (rtM m m' R (bool true)))):CX Tryz.prog 42 #[.slice p0a p0n p0c,.slice p1a p1n p1c] m [] R:=
 Zae (E:=Zb2) Zao mix Tryz.func42 (by kernel_rfl) (Eq.mp (by kernel_rfl) h)
end Go.Proofs.YtpjepnkiiojgfaaGreat
namespace Go.Proofs.YtpjepnkiiojgfaaGreat
open Go Go.Eng Go.Rx Go.Proofs Go.RowKit
set_option maxRecDepth 100000
def iC(z:Int):List Value:=[.int .i64 z]
theorem ZvB(z:Int):(iC z).length=1:=rfl
theorem ZxO(z:Int):∀u∈iC z,u.oneCell'=true:=λu hu=>by
 obtain rfl:u=.int .i64 z:=by simpa[iC]using hu
 rfl
theorem Zg1:∀l:List Int,(l.map iC).flatten=Zcf l
 | []=>rfl
 | z::l=>by
  have:=Zg1 l
  simp only[List.map_cons,List.flatten_cons,this];rfl
theorem ZAD(a b:ByteArray):(a == b)=decide (a=b):=by
 rw[Bool.eq_iff_iff,decide_eq_true_eq]
 cases a with|mk x=>cases b with|mk y=>
 show(x == y)=true↔_
 rw[beq_iff_eq,ByteArray.mk.injEq]
theorem ZvC(a b:ByteArray):EqIs Tryz.prog 9 (.string a) (.string b) (decide (a=b)):=by
 rw[<-ZAD]
 exact Zur Tryz.underlying9 (by simp[Instr.sameNow]) (λop ox oy w=>by cases op <;> simp[eqGuard])
abbrev gN(k:Nat):Value:=.int .i64 k
def Zv7(m:Mem)(bm:Nat)(L:List Sta)(i:Nat):Prop:=m.k bm=some (ZzV Value.string gN (ZcP L i))
theorem Zov{m:Mem}{bm:Nat}{L:List Sta}{i:Nat}(hm:Zv7 m bm L i)(n:ByteArray):∃r:Option Nat,LookIs Tryz.prog 9 (.string n) (ZzV Value.string gN (ZcP L i)) (.int .i64 0) ((r.map gN).getD (.int .i64 0)) r.isSome/\(∀k,r=some k->(n,k)∈ZcP L i)/\(r=none->n ∉ (ZcP L i).map (·.1)):=by
 by_cases h:n∈(ZcP L i).map (·.1)
 ·obtain⟨q,hq,gZ⟩:=List.mem_map.1 h
  obtain⟨n',k⟩:=q
  obtain rfl:n'=n:=gZ
  exact⟨some k,⟨some (gN k),ZtQ ZvC n' k _ hq (ZkC L i),rfl,rfl⟩,(λk' e=>by cases e;exact hq),λe=>by cases e⟩
 ·exact⟨none,⟨none,ZqD ZvC n _ h,rfl,rfl⟩,(λk' e=>by cases e),λ_=>h⟩
theorem ZvD{L:List Sta}{n:ByteArray}{r:Option Nat}(h1:∀k,r=some k->(n,k)∈ZcP L L.length)(h2:r=none->n ∉ (ZcP L L.length).map (·.1)):goI L n=r:=by
 cases r with
 | some k=>exact Zmf.2 (h1 k rfl)
 | none=>
  cases e:goI L n with
  | none=>rfl
  | some k=>exact absurd (List.mem_map.2 ⟨_,Zmf.1 e,rfl⟩) (h2 rfl)
structure Il where
 a:Option Addr
 c:Nat
 l:List Int
def Il.cs(y:Il):List Value:=[.slice y.a y.l.length y.c]
theorem Il.len(y:Il):y.cs.length=1:=rfl
theorem Il.one(y:Il):∀u∈y.cs,u.oneCell'=true:=λu hu=>by
 obtain rfl:u=_:=by simpa[Il.cs]using hu
 rfl
def QT(L:List Sta)(x:Sta)(y:Il)(μ:Mem):Prop:=y.l=Zsr L x/\rowRd μ y.a (Zcf y.l)
def TgI(L:List Sta)(m:Mem)(x:Sta):Value->Mem->List (List Value)->Prop:=λv m' _=>∃y:Il,v=.slice y.a y.l.length y.c/\QT L x y (nw m m')
theorem Zow(L:List Sta)(x:Sta)(m:Mem)(c0b bm:Nat)(hx:RepS m x)(hc:m.reads c0b 0 [.map (some bm)])(hk:Zv7 m bm L L.length):
  CX Tryz.prog 78 #[.agg x.cs.toArray,.pointer (some ⟨c0b,0,none⟩)] m [] (TgI L m x):=by
 have iZ:x.rules.length<=100000:=hx.len
 apply Zf4 (c0b:=c0b) (c0o:=0)
 intro b m1 aE jx fW vh
 refine⟨λxs css tvs mm q=>∃(i:Nat)(a:Option Addr)(c:Nat),i<=x.rules.length/\xs=[.slice a (Zis L (x.rules.take i)).length c,.int .i64 i]/\tvs=[.slice a (Zis L (x.rules.take i)).length c]/\m1.le mm/\rowRd mm a (Zcf (Zis L (x.rules.take i)))/\(∀b',Yi (.slice a (Zis L (x.rules.take i)).length c) b'->m1.free b'/\m1.k b'=none)/\q=x.rules.length - i,⟨_,0,none,0,by omega,rfl,rfl,Mem.le_refl _,.inl rfl,(λb' h=>by simp[Yi,Tok.blk]at h),rfl⟩,?_⟩
 rintro a n c z a2 n2 c2 mm q _ ⟨i,a',c',hi,cK,cH,hM,aB,bK,rfl⟩
 simp only[List.cons.injEq,Value.slice.injEq,Value.int.injEq,true_and,and_true]at cK cH
 obtain⟨⟨rfl,rfl,rfl⟩,rfl⟩:=cK
 obtain⟨rfl,rfl,rfl⟩:=cH
 have aH:=Zw1 L (x.rules.take i)
 rw[List.length_take]at aH
 have jG:IntKind.i64.wrap ((i:Int)+1)=((i+1:Nat):Int):=by rw[Zak (by omega) (by omega)];rfl
 have lz:=mLt aE hM
 refine ZaG (λaC=>?_) (λbL=>?_)
 ·have aC:(i:Int) < (x.rules.length:Nat):=aC
  obtain⟨r,hr⟩:=ZcC (show i < x.rules.length by omega)
  obtain⟨b2,o2,fh,km⟩:=Zai Ru.len (hx.mono lz).row hr (by omega)
  have bW:=Zu0 (L:=L) hr
  obtain⟨ro,tB,ij,jQ⟩:=Zov (m:=m) hk r.go
  have oD:=ZvD ij jQ
  refine⟨b2,o2,fh,⟨by omega,aC⟩,_,_,_,_,_,_,_,_,_,_,_,_,_,_,_,_,km,λb3=>Zaa rfl ⟨_,(hc.mono lz) 0 _ rfl,bm,_,_,_,rfl,lz.k _ _ hk,ZiI Tryz.underlying9 _,tB,?_⟩⟩
  have ji:Zsq L r=none->nxI (x.rules.length - i) (λxs css tvs mm q=>∃(i:Nat)(a:Option Addr)(c:Nat),i<=x.rules.length/\xs=[.slice a (Zis L (x.rules.take i)).length c,.int .i64 i]/\tvs=[.slice a (Zis L (x.rules.take i)).length c]/\m1.le mm/\rowRd mm a (Zcf (Zis L (x.rules.take i)))/\(∀b',Yi (.slice a (Zis L (x.rules.take i)).length c) b'->m1.free b'/\m1.k b'=none)/\q=x.rules.length - i) [.slice a2 (Zis L (x.rules.take i)).length c2,.int .i64 (IntKind.i64.wrap ((i:Int)+1))] [] [.slice a2 (Zis L (x.rules.take i)).length c2] mm:=λhe=>by
   rw[he,Option.toList_none,List.append_nil]at bW
   exact⟨x.rules.length - (i+1),by omega,i+1,a2,c2,by omega,by rw[jG,bW],by rw[bW],hM,by rw[bW];exact aB,by rw[bW];exact bK,rfl⟩
  cases ro with
  | none=>
   have ht:Zsq L r=none:=by unfold Zsq;rw[oD];split <;> rfl
   exact⟨false,Zn4 rfl ⟨rfl,rfl,rfl⟩,Zn4 rfl ⟨rfl,ji ht⟩⟩
  | some k=>
   by_cases hz:r.go.size=0
   ·have ht:Zsq L r=none:=by unfold Zsq;rw[if_pos hz]
    refine⟨false,ZqY rfl (Zaa rfl ⟨rfl,rfl,?_⟩),Zn4 rfl ⟨rfl,ji ht⟩⟩
    show[Value.bool (!(r.go.toList == ByteArray.toList ⟨#[]⟩))]=_
    rw[Zr8,hz];rfl
   ·have ht:Zsq L r=some (k:Int):=by unfold Zsq;rw[if_neg hz,oD];rfl
    have kY:=Zy4 oD
    refine⟨true,ZqY rfl (Zaa rfl ⟨rfl,rfl,?_⟩),ZqY rfl (Zaa rfl λb4 fM=>?_)⟩
    ·show[Value.bool (!(r.go.toList == ByteArray.toList ⟨#[]⟩))]=_
     rw[Zr8,show(r.go.size == 0)=false by simpa using hz];rfl
    rw[ht,Option.toList_some]at bW
    refine Zcr ZvB ZxO (ts:=Zis L (x.rules.take i)) fM (k:Int) (by rw[Zg1];exact aB) 8 (by omega) (by omega) (.inl rfl) λa5 c5 m5 cO bP iM=>?_
    have nL:=mLt (Mem.le_add fM _) cO
    refine⟨rfl,x.rules.length - (i+1),by omega,i+1,a5,c5,by omega,by rw[jG,bW,zA1];rfl,by rw[bW,zA1];rfl,mLt hM nL,by rw[bW,<-Zg1];exact bP,λb' hb'=>?_,rfl⟩
    rcases iM.2 with h|⟨bb,oo,ha',h⟩
    ·rw[h]at hb';simp[Yi,Tok.blk]at hb'
    ·subst ha'
     obtain rfl:bb=b':=by simpa[Yi,Tok.blk]using hb'
     rcases h with h|⟨_,h2,h3⟩
     ·exact bK _ (by rw[h];simp[Yi,Tok.blk])
     ·have pW:=mLt hM (Mem.le_add fM (iC k))
      exact⟨Zbk pW h2,Zer pW h3⟩
 ·have bL:¬(i:Int) < (x.rules.length:Nat):=bL
  have hi:i=x.rules.length:=by omega
  subst hi
  rw[List.take_length]at aB bK aH ⊢
  have eR:=Ze8 (Zis L x.rules)
  have mF:∀b',Yi (.slice a2 (Zis L x.rules).length c2) b'->m.free b'/\m.k b'=none:=λb' h=>⟨Zbk aE (bK b' h).1,Zer aE (bK b' h).2⟩
  refine⟨_,_,ZgO (Zis L x.rules) a2 c2 mm aB (by omega),(λt ht bb dN=>by
   obtain rfl:t=_:=by simpa using ht
   exact dN),(λbb dN=>.inl ⟨_,by simp,dN⟩),(λv _ _ _ h=>by rw[h.1];rfl),?_⟩
  rintro m2 aK _ a3 c3 d3 ⟨_,_,cH,dH⟩
  simp only[List.cons.injEq,Value.slice.injEq,and_true]at cH
  obtain⟨rfl,rfl,rfl⟩:=cH
  have pX:=Zd5 (Zgf (Zis L x.rules)) a3 d3 m2 dH (by omega)
  rw[eR]at pX
  refine⟨_,_,pX,(λt ht bb dN=>by
   obtain rfl:t=_:=by simpa using ht
   exact dN),(λbb dN=>.inl ⟨_,by simp,dN⟩),(λv _ _ _ h=>by rw[h.1];rfl),?_⟩
  rintro a4 n4 c4 m3 aQ _ a6 c6 d6 ⟨hv,_,_,fj⟩
  simp only[Value.slice.injEq]at hv
  obtain⟨rfl,rfl,rfl⟩:=hv
  have ft:m.le m2:=mLt (Ze3 lz mF) aK
  have gS:m.le m3:=mLt (Ze3 ft mF) aQ
  refine ZaH gS ⟨⟨a4,c4,Zsr L x⟩,rfl,rfl,Zmb ?_ ?_⟩
  ·rcases fj with h|⟨b5,o5,ly,h⟩
   ·refine .inl ?_
    unfold Zcf at h ⊢
    rw[List.map_append]at h
    exact(List.append_eq_nil_iff.1 h).1
   ·refine .inr ⟨b5,o5,ly,λj v hj=>h j v ?_⟩
    have hj:(Zcf (Go.Lib.compact (Zgf (Zis L x.rules))))[j]?=some v:=hj
    unfold Zcf at hj ⊢
    rw[List.map_append,zA5 (zA0 hj).1]
    exact hj
  ·refine .inr λb o e=>(mF b ?_).1
   have e:a4=some ⟨b,o,none⟩:=e
   rw[e];simp[Yi,Tok.blk]
theorem ZvE(cb:Nat)(ca:List Value)(Q:Sta->Il->Mem->Prop)(L:List Sta)(a:Option Addr)(d:Nat)(m:Mem)(aB:rowRd m a (L.map Sta.cs).flatten)(hl:L.length<=few)(gV:∀x∈L,∀m2,m.le m2->CX Tryz.prog cb (Array.mk (.agg x.cs.toArray::ca)) m2 [] (λv m3 _=>∃y:Il,v=.slice y.a y.l.length y.c/\Q x y (nw m2 m3))):
  CX Tryz.prog 77 #[.slice a L.length d,.func (.func cb) #[] (Array.mk ca)] m [] (Zqw Il.cs Q m L):=by
 have hl:L.length<=100000:=hl
 apply Zcm (p1fi:=[]) (p1ca:=ca)
 refine⟨λxs css tvs m' q=>∃(k:Nat)(a':Option Addr)(c':Nat)(L':List Il)(μ:Nat->Mem),k<=L.length/\q=L.length - k/\xs=[.slice a' L'.length c',.int .i64 k]/\tvs=[.slice a' L'.length c']/\Each Il.cs Q m m' (L.take k) a' c' L' μ,⟨_,0,none,0,[],_,by omega,rfl,rfl,rfl,Each.nil m⟩,?_⟩
 rintro a1 n1 c1 z a2 n2 c2 m2 q _ ⟨k,a',c',L',μ,hk,hq,cK,cH,hE⟩
 simp only[List.cons.injEq,Value.slice.injEq,Value.int.injEq,true_and,and_true]at cK cH
 obtain⟨⟨rfl,rfl,rfl⟩,rfl⟩:=cK
 obtain⟨rfl,rfl,rfl⟩:=cH
 have jh:L'.length=k:=by rw[hE.len,List.length_take];omega
 refine Zab (λaC=>?_) (λbL=>?_)
 ·have aI:k < L.length:=by have:=zA6 aC;omega
  obtain⟨x,hx⟩:=Zaq aI
  obtain⟨b,o,ha,cG⟩:=Zai Sta.len aB hx (by omega)
  have hw:IntKind.i64.wrap ((k:Int)+1)=((k+1:Nat):Int):=by rw[Zak (by omega) (by omega)];rfl
  refine⟨b,o,ha,⟨by omega,by omega⟩,_,_,cG.mono hE.le,λb3=>Zaa rfl ⟨_,trivial,gV x (zA2 hx) m2 hE.le,(λv _ _ ⟨y,h,_⟩=>by rw[h];rfl),?_⟩⟩
  rintro ya yn yc m3 aQ ⟨y,hv,hQ⟩ b4 fM
  simp only[Value.slice.injEq]at hv
  obtain⟨rfl,rfl,rfl⟩:=hv
  refine Zcr Il.len Il.one fM y (hE.row.mono aQ) 24 (by omega) (by omega) (.inl rfl) λa5 c5 m5 cO bP aR=>?_
  have bW:=hE.step Il.len (by omega) hx aQ hQ fM cO bP aR
  exact⟨L.length - (k+1),by omega,k+1,a5,c5,L'++[y],_,by omega,rfl,by rw[hw,zA1];rfl,by rw[zA1];rfl,bW⟩
 ·have dF:k=L.length:=by have:=of_decide_eq_false bL;omega
  rw[dF,List.take_length]at hE
  exact⟨m2,hE.le,Mem.le_refl _,_,_,L',μ,rfl,hE⟩
def TgR(s:Sc):Value->Mem->List (List Value)->Prop:=λv m' _=>∃(a:Option Addr)(c:Nat)(L':List Il),v=.slice a L'.length c/\L'.map Il.l=(if s.light then s.states.map (Zsr s.states)else[])/\rowRd m' a (L'.map Il.cs).flatten/\∀y∈L',rowRd m' y.a (Zcf y.l)
theorem Zmp{s}:∀(v:Value)(m':Mem) (css:List (List Value)),TgR s v m' css->Shape.fits .slice v=true:=λv _ _ ⟨_,_,_,h,_⟩=>by rw[h];rfl
theorem Zht(s:Sc)(m:Mem)(hr:RepC m s):CX Tryz.prog 32 #[s.v] m [] (TgR s):=by
 have eR:s.states.length<=100000:=hr.len
 apply ZhY
 intro b m1 aE _ fW _ _
 refine Zah (Zb9 s m1 (hr.mono aE)) λm2 aK=>Zab (λh=>Zaf (mLt aE aK) ?_) (λh=>?_)
 ·have hl:s.light=false:=by simpa using h
  exact⟨none,0,[],rfl,by rw[hl];rfl,.inl rfl,λy hy=>by cases hy⟩
 have hl:s.light=true:=by simpa using h
 have cR:=mLt aE aK
 intro bm hf hk b1
 have iw:m.k bm=none:=Zer cR hk
 refine⟨λxs _ _ mm q=>∃i:Nat,i<=s.states.length/\xs=[.int .i64 i]/\m2.le mm/\Zv7 mm bm s.states i/\q=s.states.length - i,⟨_,0,by omega,rfl,Mem.le_updK (Mem.le_refl _) hk _,Mem.updK_same _ _ _,rfl⟩,?_⟩
 rintro z mm q _ ⟨i,hi,hz,hM,hE,rfl⟩
 obtain rfl:z=i:=by simpa using hz
 have jG:IntKind.i64.wrap ((i:Int)+1)=((i+1:Nat):Int):=by rw[Zak (by omega) (by omega)];rfl
 have lz:=mLt cR hM
 refine ZaG (λaC=>?_) (λbL=>?_)
 ·have aC:(i:Int) < (s.states.length:Nat):=aC
  obtain⟨x,hx⟩:=ZcC (show i < s.states.length by omega)
  obtain⟨b2,o2,fh,km⟩:=Zai Sta.len (hr.mono lz).row hx (by omega)
  obtain⟨ro,tB,ij,jQ⟩:=Zov hE x.s
  have bW:=Zsp hx
  refine⟨b2,o2,fh,⟨by omega,aC⟩,_,_,km,λb3=>Zaa rfl ⟨bm,_,_,_,rfl,hE,ZiI Tryz.underlying9 _,tB,?_⟩⟩
  cases ro with
  | some k=>
   have e8:Zy3 (ZcP s.states i) x.s=true:=ZfL.2 (List.mem_map.2 ⟨_,ij k rfl,rfl⟩)
   rw[if_pos e8]at bW
   exact Zn4 rfl ⟨rfl,s.states.length - (i+1),by omega,i+1,by omega,by rw[jG],hM,by unfold Zv7;rw[bW];exact hE,rfl⟩
  | none=>
   have iI:=jQ rfl
   have e8:Zy3 (ZcP s.states i) x.s=false:=by
    cases e:Zy3 (ZcP s.states i) x.s with
    | false=>rfl
    | true=>exact absurd (ZfL.1 e) iI
   rw[e8,if_neg (by decide)]at bW
   exact ZqY rfl ⟨bm,_,_,rfl,hE,ZiI Tryz.underlying9 _,ZtP (g:=gN) ZvC x.s i _ iI,iw,rfl,s.states.length - (i+1),by omega,i+1,by omega,by rw[jG],Mem.le_updK hM hk _,by unfold Zv7;rw[bW];exact Mem.updK_same _ _ _,rfl⟩
 ·have bL:¬(i:Int) < (s.states.length:Nat):=bL
  have hi:i=s.states.length:=by omega
  subst hi
  intro m3 aQ j5
  have dQ:=mLt lz aQ
  have kM:=hr.mono dQ
  refine Zan (ZvE 78 _ (QT s.states) s.states s.sa s.sc m3 kM.row hr.len λx hx m4 bZ=>?_) Ze4 ?_
  ·exact Zow s.states x m4 b1 bm ((kM.all x hx).mono bZ) (j5.mono bZ) (bZ.k _ _ (aQ.k _ _ hE))
  ·rintro a n c m5 cO ⟨a',c',L',μ,hv,tC⟩
   simp only[Value.slice.injEq]at hv
   obtain⟨rfl,rfl,rfl⟩:=hv
   refine ZaH (mLt dQ cO) ⟨_,_,L',rfl,?_,tC.row,λy hy=>?_⟩
   ·rw[hl,if_pos rfl]
    exact tC.same λx y μ hq=>hq.1
   ·obtain⟨i,x,_,_,hq,hs⟩:=tC.at hy
    exact hq.2.mono (mLt hs (Zgd _ _))
end Go.Proofs.YtpjepnkiiojgfaaGreat
end
