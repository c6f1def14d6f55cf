/- Part of the proof: functions of the program. No condition. -/
import Derived.Test.YtpjepnkiiojgfaaGreatPC25E
import Derived.Test.YtpjepnkiiojgfaaGreatPC25MJ
import Derived.Test.YtpjepnkiiojgfaaGreatMr
import Derived.Test.YtpjepnkiiojgfaaGreatPEnv
import Derived.Test.YtpjepnkiiojgfaaGreatMc
import Derived.Test.YtpjepnkiiojgfaaGreatPVM
import Derived.Test.YtpjepnkiiojgfaaGreatPC25MA
set_option linter.unusedVariables false
set_option linter.unusedSimpArgs false
set_option linter.unusedSectionVars false
noncomputable section
namespace Go.Proofs.YtpjepnkiiojgfaaGreat
open Go Go.Eng Go.Rx Go.Proofs Go.RowKit
set_option maxRecDepth 100000
set_option maxHeartbeats 4000000 in
def CntW(b n p:Int):Prop:=0<=n/\n<=b/\(n=p\/(20000 < n/\20000 < p))
theorem CntW.out{b n p t:Int}(h:CntW b n p)(hn:n > 20000)(ht:p<=t):t > 20000:=by
 rcases h.2.2 with e|⟨_,e⟩ <;> omega
theorem CntW.eq{b n p:Int}(h:CntW b n p)(hn:¬n > 20000):n=p:=by
 rcases h.2.2 with e|⟨e,_⟩ <;> omega
theorem Zce(s:Sc)(m:Mem)(hr:RepC m s):CX Tryz.prog 19 #[s.v] m [] (Ret (.bool s.light)):=by
 apply Zk8
 intro b m1 aG _
 have gY:=hr.vlen
 have eG:=hr.len
 unfold few at gY eG
 have dark:∀{M:Mem},m1.le M->s.weight > 20000->∀{n:Int},n > 20000->∃m'':Mem,m.le m''/\m''.le M/\Ret (.bool s.light) (.bool (decide (n<=20000))) m'' []:=λ{M} hM hw {n} hn=>Zaf (mLt aG hM) (by
  show Value.bool _=Value.bool s.light
  unfold Sc.light
  rw[decide_eq_false (by omega),decide_eq_false (by omega)])
 generalize hV:((s.vars.length:Int)+s.states.length)=V0
 have sm:0<=V0/\V0<=200000:=by omega
 rw[Zak (by omega) (by omega)]
 have ua:s.weight=V0+ZaR (s.states.map wS):=by unfold Sc.weight;omega
 refine⟨λxs _ _ m' q=>∃(i:Nat)(n:Int),i<=s.states.length/\xs=[.int .i64 n,.int .i64 i]/\CntW 300000 n (V0+ZaR ((s.states.take i).map wS))/\q=s.states.length - i,⟨_,0,V0,by omega,rfl,⟨by omega,by omega,.inl (by simp[ZaR])⟩,rfl⟩,?_⟩
 rintro n k0 m2 q aJ ⟨i,n',hi,hx,hC,hq⟩
 simp only[List.cons.injEq,Value.int.injEq,and_true,true_and]at hx
 obtain⟨rfl,rfl⟩:=hx
 subst hq
 have fQ:IntKind.i64.wrap ((i:Int)+1)=((i+1:Nat):Int):=by rw[Zak (by omega) (by omega)];rfl
 simp only[fQ,zA8]
 refine ZaE (λaC=>?_) (λbG=>?_)
 ·have aI:i < s.states.length:=by omega
  obtain⟨x,hx⟩:=Zdh aI
  have ly:=zA2 hx
  obtain⟨b1,o1,ha,eh⟩:=Zam Sta.len ((hr.mono (mLt aG aJ)).row) hx (by omega)
  have cY:=hr.all x ly
  have kz:=cY.len
  unfold few at kz
  refine⟨b1,o1,ha,⟨by omega,by omega⟩,_,_,eh,λb2=>Zaa rfl (Zaa rfl ?_)⟩
  generalize lY:V0+ZaR ((s.states.take i).map wS)=P0 at hC
  have ub:V0+ZaR ((s.states.take (i+1)).map wS)=P0+wS x:=by rw[Zfo wS hx];omega
  have wu:P0+wS x<=s.weight:=by rw[<-ub,ua];have:=Zfp wS Zyb s.states (i+1);omega
  refine⟨λxs _ _ m' q=>∃(k:Nat)(n:Int),k<=x.rules.length/\xs=[.int .i64 n,.int .i64 k]/\CntW 300000 n (P0+ZaR ((x.rules.take k).map wR))/\q=x.rules.length - k,⟨_,0,n,by omega,rfl,by simpa[ZaR]using hC,rfl⟩,?_⟩
  rintro n1 k1 m3 q aQ ⟨k,n1',hk,gD,lB,hq⟩
  simp only[List.cons.injEq,Value.int.injEq,and_true,true_and]at gD
  obtain⟨rfl,rfl⟩:=gD
  subst hq
  have fl:IntKind.i64.wrap ((k:Int)+1)=((k+1:Nat):Int):=by rw[Zak (by omega) (by omega)];rfl
  simp only[fl,zA8]
  have dH:m.le m3:=mLt aG (mLt aJ aQ)
  refine ZaE (λdZ=>?_) (λee=>?_)
  ·have jD:k < x.rules.length:=by have:(k:Int) < (x.rules.length:Int):=dZ;omega
   obtain⟨r,ib⟩:=Zdh jD
   have t8:=zA2 ib
   have fZ:=cY.all r t8
   obtain⟨b3,o3,eX,kD⟩:=Zam Ru.len ((cY.row).mono dH) ib (by omega)
   have nB:=fZ.len
   unfold few at nB
   generalize xy:P0+ZaR ((x.rules.take k).map wR)=P1 at lB
   have oU:P0+ZaR ((x.rules.take (k+1)).map wR)=P1+wR r:=by rw[Zfo wR ib];omega
   have ww:P1+wR r<=s.weight:=by
    rw[<-oU]
    have:=Zfp wR Zw0 x.rules (k+1)
    unfold wS at wu
    omega
   refine Zaa rfl ⟨b3,o3,eX,⟨by omega,by show(k:Int) < (x.rules.length:Int);omega⟩,_,_,_,_,_,_,_,_,_,_,_,_,_,_,_,_,kD,λb4=>Zaa rfl ?_⟩
   have bE:=ZjU r.t
   refine ZcD (ZsR r.t m3 (fZ.t.mono dH)) λm4 bZ=>?_
   have iR:(if(20000:Int) < r.t.size then(20000:Int)else r.t.size)=ZhR r.t.size 20000:=rfl
   have ep:0<=ZhR r.t.size 20000/\ZhR r.t.size 20000<=20000:=by unfold ZhR;split <;> omega
   rw[iR]
   have xz:=lB.1
   have xA:=lB.2.1
   refine⟨λxs _ _ m'=>∃n:Int,xs=[.int .i64 n]/\CntW 330000 n (P1+1+ZhR r.t.size 20000+(if r.t.light then 0 else 20001)),?_,?_⟩
   ·refine Zai (ZgY r.t m4 (fZ.t.mono (mLt dH bZ))) λm5 cF=>Zab (λh=>⟨by trivial,20001,rfl,?_⟩) (λh=>⟨by trivial,_,rfl,?_⟩)
    ·have hl:r.t.light=false:=by simpa using h
     rw[hl,if_neg (by decide)]
     have hp:0<=P1:=by rcases lB.2.2 with e|⟨_,e⟩ <;> omega
     exact⟨by omega,by omega,.inr ⟨by omega,by omega⟩⟩
    ·have hl:r.t.light=true:=by simpa using h
     rw[hl,if_pos rfl,Zak (n:=1+ZhR r.t.size 20000) (by omega) (by omega),Zak (by omega) (by omega)]
     refine⟨by omega,by omega,?_⟩
     rcases lB.2.2 with e|⟨e1,e2⟩
     ·left;omega
     ·right;omega
   ·rintro n2 m5 cF ⟨n2',kR,rT⟩
    obtain rfl:n2=n2':=by simpa using kR
    generalize wx:P1+1+ZhR r.t.size 20000+(if r.t.light then 0 else 20001)=P2 at rT
    have gt:wR r=(P2 - P1)+ZaR (r.acts.map wA):=by unfold wR;rw[<-wx];omega
    have jE:m.le m5:=mLt dH (mLt bZ cF)
    refine Zaa rfl ⟨λxs _ _ m' q=>∃(j:Nat)(n:Int),j<=r.acts.length/\xs=[.int .i64 n,.int .i64 j]/\CntW (330000+j*200000) n (P2+ZaR ((r.acts.take j).map wA))/\q=r.acts.length - j,⟨_,0,n2,by omega,rfl,by simpa[ZaR]using rT,rfl⟩,?_⟩
    rintro n3 k3 m6 q eo ⟨j,n3',hj,oV,lK,hq⟩
    simp only[List.cons.injEq,Value.int.injEq,and_true,true_and]at oV
    obtain⟨rfl,rfl⟩:=oV
    subst hq
    have wy:IntKind.i64.wrap ((j:Int)+1)=((j+1:Nat):Int):=by rw[Zak (by omega) (by omega)];rfl
    simp only[wy,zA8]
    have fy:=mLt jE eo
    have fK:=lK.1
    have tV:=lK.2.1
    refine ZaE (λgB=>?_) (λil=>?_)
    ·have oW:j < r.acts.length:=by have:(j:Int) < (r.acts.length:Int):=gB;omega
     obtain⟨a,mN⟩:=Zdh oW
     have im:=fZ.all a (zA2 mN)
     obtain⟨b5,o5,mO,wz⟩:=Zam Ac.len ((fZ.row).mono fy) mN (by omega)
     have iB:=im.n
     unfold few at iB
     have xB:=Zg6 a.e
     generalize xC:P2+ZaR ((r.acts.take j).map wA)=P3 at lK
     have so:P2+ZaR ((r.acts.take (j+1)).map wA)=P3+wA a:=by rw[Zfo wA mN];omega
     have wB:P3+wA a<=s.weight:=by
      have:=Zfp wA Zrb r.acts (j+1)
      omega
     refine Zaa rfl ⟨b5,o5,mO,⟨by omega,by show(j:Int) < (r.acts.length:Int);omega⟩,_,_,_,_,_,_,_,_,wz,λb6=>Zaa rfl ?_⟩
     refine⟨λ_ _ _=>Ret (.int .i64 (nE a.e)),_,rfl,ZnB a.e m6 (RepE.mono' im.e fy),λv _ _ e=>by rw[show v=_ from e];rfl,λn8 m7 eT je=>Zaa rfl λM iI fe=>Zaa rfl ?_⟩
     obtain rfl:n8=nE a.e:=by cases je;rfl
     have sq:slN (Value.slice a.pa a.parts.length a.pc)=a.parts.length:=rfl
     rw[sq,Zak (n:=1+nE a.e) (by omega) (by omega),Zak (n:=1+nE a.e+(a.parts.length:Int)) (by omega) (by omega),Zak (by omega) (by omega)]
     have wC:wA a=(1+nE a.e+a.parts.length)+ZaR (a.parts.map λp=>nE p.e):=by unfold wA;omega
     have kH:=mLt fy iI
     refine⟨λxs _ _ m' q=>∃(w:Nat)(n:Int),w<=a.parts.length/\xs=[.int .i64 n,.int .i64 w]/\CntW (330000+(j+1)*200000) n (P3+(1+nE a.e+a.parts.length)+ZaR ((a.parts.take w).map λp=>nE p.e))/\q=a.parts.length - w,⟨_,0,_,by omega,rfl,⟨by omega,by omega,?_⟩,rfl⟩,?_⟩
     ·simp only[List.take_zero,List.map_nil,ZaR]
      rcases lK.2.2 with e|⟨e1,e2⟩
      ·left;omega
      ·right;omega
     rintro n4 k4 m8 q eS ⟨w,n4',hw,mM,mP,hq⟩
     simp only[List.cons.injEq,Value.int.injEq,and_true,true_and]at mM
     obtain⟨rfl,rfl⟩:=mM
     subst hq
     have si:IntKind.i64.wrap ((w:Int)+1)=((w+1:Nat):Int):=by rw[Zak (by omega) (by omega)];rfl
     simp only[si,zA8]
     have qb:=mLt kH eS
     have qc:m1.le m8:=mLt aJ (mLt aQ (mLt bZ (mLt cF (mLt eo (mLt iI eS)))))
     have nr:=mP.1
     have sr:=mP.2.1
     refine ZaE (λkJ=>?_) (λkK=>?_)
     ·have oX:w < a.parts.length:=by have:(w:Int) < (a.parts.length:Int):=kJ;omega
      obtain⟨p,iw⟩:=Zdh oX
      have gd:=im.all p (zA2 iw)
      obtain⟨b7,o7,ss,wD⟩:=Zam Pt.len ((im.row).mono qb) iw (by omega)
      have xD:=Zg6 p.e
      have cA:=Zfo (λp:Pt=>nE p.e) iw
      have wE:=Zfp (λp:Pt=>nE p.e) (λp=>(Zg6 p.e).1) a.parts w
      refine Zaa rfl ⟨b7,o7,ss,⟨by omega,by show(w:Int) < (a.parts.length:Int);omega⟩,_,_,_,_,_,_,_,_,wD,λb8=>Zaa rfl (ZaE (λhd=>dark qc (mP.out hd (by omega)) hd) (λhd=>?_))⟩
      refine ZcD (ZnB p.e m8 (RepE.mono' gd.e qb)) λm9 fW=>⟨by trivial,a.parts.length - (w+1),by omega,w+1,_,by omega,rfl,?_,rfl⟩
      have he:=mP.eq hd
      rw[Zak (by omega) (by omega),cA]
      exact⟨by omega,by omega,.inl (by omega)⟩
     ·have hw':w=a.parts.length:=by have:¬(w:Int) < (a.parts.length:Int):=kK;omega
      subst hw'
      rw[List.take_length]at mP
      refine⟨by trivial,r.acts.length - (j+1),by omega,j+1,n4,by omega,rfl,?_,rfl⟩
      rw[so,wC]
      exact⟨mP.1,by push_cast;omega,by rcases mP.2.2 with e|e;left;omega;right;omega⟩
    ·have hj':j=r.acts.length:=by have:¬(j:Int) < (r.acts.length:Int):=il;omega
     subst hj'
     rw[List.take_length]at lK
     have kG:m1.le m6:=mLt aJ (mLt aQ (mLt bZ (mLt cF eo)))
     refine ZaE (λhd=>dark kG (lK.out hd (by omega)) hd) (λhd=>⟨by trivial,x.rules.length - (k+1),by omega,k+1,n3,by omega,rfl,?_,rfl⟩)
     rw[oU,gt]
     exact⟨lK.1,by omega,.inl (by have:=lK.eq hd;omega)⟩
  ·have hk':k=x.rules.length:=by have:¬(k:Int) < (x.rules.length:Int):=ee;omega
   subst hk'
   rw[List.take_length]at lB
   refine⟨by trivial,s.states.length - (i+1),by omega,i+1,n1,by omega,rfl,?_,rfl⟩
   rw[ub];exact lB
 ·have hi':i=s.states.length:=by omega
  subst hi'
  rw[List.take_length,<-ua]at hC
  refine Zaf (mLt aG aJ) ?_
  show Value.bool _=Value.bool s.light
  unfold Sc.light
  congr 1
  rw[decide_eq_decide]
  rcases hC.2.2 with e|⟨e1,e2⟩ <;> omega
theorem ZrQ{x:List Value}{K:List Value->Prop}(h:∀y,K y):lV x K:=h x
theorem Zuj(cb:Nat)(Q:Pt->Pt->Mem->Prop)(L:List Pt)(a:Option Addr)(d:Nat)(m:Mem)(aB:rowRd m a (L.map Pt.cs).flatten)(hl:L.length<=few)(iX:∀x∈L,∀m2,m.le m2->CX Tryz.prog cb #[.agg x.cs.toArray] m2 [] (λv m3 _=>∃y:Pt,v=.agg y.cs.toArray/\Q x y (nw m2 m3))):
  CX Tryz.prog 91 #[.slice a L.length d,.func (.func cb) #[] #[]] m [] (ZpJ Pt.cs Q m L):=by
 have hl:L.length<=100000:=hl
 apply ZbQ (p1fi:=[]) (p1ca:=[])
 refine⟨λxs css tvs m' q=>∃(k:Nat)(a':Option Addr)(c':Nat)(L':List Pt)(μ:Nat->Mem),k<=L.length/\q=L.length - k/\xs=[.slice a' L'.length c',.int .i64 k]/\tvs=[.slice a' L'.length c']/\Each Pt.cs Q m m' (L.take k) a' c' L' μ,⟨_,0,none,0,[],_,by omega,rfl,rfl,rfl,Each.nil m⟩,?_⟩
 rintro a1 n1 c1 z a2 n2 c2 m2 q _ ⟨k,a',c',L',μ,hk,hq,cI,cG,hE⟩
 simp only[List.cons.injEq,Value.slice.injEq,Value.int.injEq,true_and,and_true]at cI cG
 obtain⟨⟨rfl,rfl,rfl⟩,rfl⟩:=cI
 obtain⟨rfl,rfl,rfl⟩:=cG
 have iH:L'.length=k:=by rw[hE.len,List.length_take];omega
 refine Zab (λaC=>?_) (λbG=>?_)
 ·have aI:k < L.length:=by have:=zA6 aC;omega
  obtain⟨x,hx⟩:=Zat aI
  obtain⟨b,o,ha,cD⟩:=Zam Pt.len aB hx (by omega)
  have hw:IntKind.i64.wrap ((k:Int)+1)=((k+1:Nat):Int):=by rw[Zak (by omega) (by omega)];rfl
  refine⟨b,o,ha,⟨by omega,by omega⟩,_,_,_,_,_,_,_,_,cD.mono hE.le,λb3=>Zaa rfl ⟨_,trivial,iX x (zA2 hx) m2 hE.le,(λv _ _ ⟨y,h,_⟩=>by rw[h];rfl),?_⟩⟩
  intros
  refine ZrQ λys=>?_
  rintro aQ ⟨y,hv,hQ⟩ b4 fw
  obtain rfl:ys=y.cs:=by simpa using hv
  have bE:(L'.length+1)*96<=140737488355328:=by omega
  refine ZcL Pt.len Pt.one fw y (hE.row.mono aQ) 96 bE (by omega) (.inl rfl) λa5 c5 m5 cF bI aN=>?_
  have cA:=hE.step Pt.len (by omega) hx aQ hQ fw cF bI aN
  exact⟨L.length - (k+1),by omega,k+1,a5,c5,L'++[y],_,by omega,rfl,by rw[hw,zA1];rfl,by rw[zA1];rfl,cA⟩
 ·have dp:k=L.length:=by have:=of_decide_eq_false bG;omega
  rw[dp,List.take_length]at hE
  exact⟨m2,hE.le,Mem.le_refl _,_,_,L',μ,rfl,hE⟩
theorem Zuk(cb:Nat)(Q:Ac->Ac->Mem->Prop)(L:List Ac)(a:Option Addr)(d:Nat)(m:Mem)(aB:rowRd m a (L.map Ac.cs).flatten)(hl:L.length<=few)(iX:∀x∈L,∀m2,m.le m2->CX Tryz.prog cb #[.agg x.cs.toArray] m2 [] (λv m3 _=>∃y:Ac,v=.agg y.cs.toArray/\Q x y (nw m2 m3))):
  CX Tryz.prog 88 #[.slice a L.length d,.func (.func cb) #[] #[]] m [] (ZpJ Ac.cs Q m L):=by
 have hl:L.length<=100000:=hl
 apply Zbj (p1fi:=[]) (p1ca:=[])
 refine⟨λxs css tvs m' q=>∃(k:Nat)(a':Option Addr)(c':Nat)(L':List Ac)(μ:Nat->Mem),k<=L.length/\q=L.length - k/\xs=[.slice a' L'.length c',.int .i64 k]/\tvs=[.slice a' L'.length c']/\Each Ac.cs Q m m' (L.take k) a' c' L' μ,⟨_,0,none,0,[],_,by omega,rfl,rfl,rfl,Each.nil m⟩,?_⟩
 rintro a1 n1 c1 z a2 n2 c2 m2 q _ ⟨k,a',c',L',μ,hk,hq,cI,cG,hE⟩
 simp only[List.cons.injEq,Value.slice.injEq,Value.int.injEq,true_and,and_true]at cI cG
 obtain⟨⟨rfl,rfl,rfl⟩,rfl⟩:=cI
 obtain⟨rfl,rfl,rfl⟩:=cG
 have iH:L'.length=k:=by rw[hE.len,List.length_take];omega
 refine Zab (λaC=>?_) (λbG=>?_)
 ·have aI:k < L.length:=by have:=zA6 aC;omega
  obtain⟨x,hx⟩:=Zat aI
  obtain⟨b,o,ha,cD⟩:=Zam Ac.len aB hx (by omega)
  have hw:IntKind.i64.wrap ((k:Int)+1)=((k+1:Nat):Int):=by rw[Zak (by omega) (by omega)];rfl
  refine⟨b,o,ha,⟨by omega,by omega⟩,_,_,_,_,_,_,_,_,cD.mono hE.le,λb3=>Zaa rfl ⟨_,trivial,iX x (zA2 hx) m2 hE.le,(λv _ _ ⟨y,h,_⟩=>by rw[h];rfl),?_⟩⟩
  intros
  refine ZrQ λys=>?_
  rintro aQ ⟨y,hv,hQ⟩ b4 fw
  obtain rfl:ys=y.cs:=by simpa using hv
  have bE:(L'.length+1)*112<=140737488355328:=by omega
  refine ZcL Ac.len Ac.one fw y (hE.row.mono aQ) 112 bE (by omega) (.inl rfl) λa5 c5 m5 cF bI aN=>?_
  have cA:=hE.step Ac.len (by omega) hx aQ hQ fw cF bI aN
  exact⟨L.length - (k+1),by omega,k+1,a5,c5,L'++[y],_,by omega,rfl,by rw[hw,zA1];rfl,by rw[zA1];rfl,cA⟩
 ·have dp:k=L.length:=by have:=of_decide_eq_false bG;omega
  rw[dp,List.take_length]at hE
  exact⟨m2,hE.le,Mem.le_refl _,_,_,L',μ,rfl,hE⟩
theorem Zul(cb:Nat)(Q:Ru->Ru->Mem->Prop)(L:List Ru)(a:Option Addr)(d:Nat)(m:Mem)(aB:rowRd m a (L.map Ru.cs).flatten)(hl:L.length<=few)(iX:∀x∈L,∀m2,m.le m2->CX Tryz.prog cb #[.agg x.cs.toArray] m2 [] (λv m3 _=>∃y:Ru,v=.agg y.cs.toArray/\Q x y (nw m2 m3))):
  CX Tryz.prog 57 #[.slice a L.length d,.func (.func cb) #[] #[]] m [] (ZpJ Ru.cs Q m L):=by
 have hl:L.length<=100000:=hl
 apply ZbR (p1fi:=[]) (p1ca:=[])
 refine⟨λxs css tvs m' q=>∃(k:Nat)(a':Option Addr)(c':Nat)(L':List Ru)(μ:Nat->Mem),k<=L.length/\q=L.length - k/\xs=[.slice a' L'.length c',.int .i64 k]/\tvs=[.slice a' L'.length c']/\Each Ru.cs Q m m' (L.take k) a' c' L' μ,⟨_,0,none,0,[],_,by omega,rfl,rfl,rfl,Each.nil m⟩,?_⟩
 rintro a1 n1 c1 z a2 n2 c2 m2 q _ ⟨k,a',c',L',μ,hk,hq,cI,cG,hE⟩
 simp only[List.cons.injEq,Value.slice.injEq,Value.int.injEq,true_and,and_true]at cI cG
 obtain⟨⟨rfl,rfl,rfl⟩,rfl⟩:=cI
 obtain⟨rfl,rfl,rfl⟩:=cG
 have iH:L'.length=k:=by rw[hE.len,List.length_take];omega
 refine Zab (λaC=>?_) (λbG=>?_)
 ·have aI:k < L.length:=by have:=zA6 aC;omega
  obtain⟨x,hx⟩:=Zat aI
  obtain⟨b,o,ha,cD⟩:=Zam Ru.len aB hx (by omega)
  have hw:IntKind.i64.wrap ((k:Int)+1)=((k+1:Nat):Int):=by rw[Zak (by omega) (by omega)];rfl
  refine⟨b,o,ha,⟨by omega,by omega⟩,_,_,_,_,_,_,_,_,_,_,_,_,_,_,_,_,cD.mono hE.le,λb3=>Zaa rfl ⟨_,trivial,iX x (zA2 hx) m2 hE.le,(λv _ _ ⟨y,h,_⟩=>by rw[h];rfl),?_⟩⟩
  intros
  refine ZrQ λys=>?_
  rintro aQ ⟨y,hv,hQ⟩ b4 fw
  obtain rfl:ys=y.cs:=by simpa using hv
  have bE:(L'.length+1)*168<=140737488355328:=by omega
  refine ZcL Ru.len Ru.one fw y (hE.row.mono aQ) 168 bE (by omega) (.inl rfl) λa5 c5 m5 cF bI aN=>?_
  have cA:=hE.step Ru.len (by omega) hx aQ hQ fw cF bI aN
  exact⟨L.length - (k+1),by omega,k+1,a5,c5,L'++[y],_,by omega,rfl,by rw[hw,zA1];rfl,by rw[zA1];rfl,cA⟩
 ·have dp:k=L.length:=by have:=of_decide_eq_false bG;omega
  rw[dp,List.take_length]at hE
  exact⟨m2,hE.le,Mem.le_refl _,_,_,L',μ,rfl,hE⟩
theorem Zum(cb:Nat)(Q:Sta->Sta->Mem->Prop)(L:List Sta)(a:Option Addr)(d:Nat)(m:Mem)(aB:rowRd m a (L.map Sta.cs).flatten)(hl:L.length<=few)(iX:∀x∈L,∀m2,m.le m2->CX Tryz.prog cb #[.agg x.cs.toArray] m2 [] (λv m3 _=>∃y:Sta,v=.agg y.cs.toArray/\Q x y (nw m2 m3))):
  CX Tryz.prog 55 #[.slice a L.length d,.func (.func cb) #[] #[]] m [] (ZpJ Sta.cs Q m L):=by
 have hl:L.length<=100000:=hl
 apply Zbv (p1fi:=[]) (p1ca:=[])
 refine⟨λxs css tvs m' q=>∃(k:Nat)(a':Option Addr)(c':Nat)(L':List Sta)(μ:Nat->Mem),k<=L.length/\q=L.length - k/\xs=[.slice a' L'.length c',.int .i64 k]/\tvs=[.slice a' L'.length c']/\Each Sta.cs Q m m' (L.take k) a' c' L' μ,⟨_,0,none,0,[],_,by omega,rfl,rfl,rfl,Each.nil m⟩,?_⟩
 rintro a1 n1 c1 z a2 n2 c2 m2 q _ ⟨k,a',c',L',μ,hk,hq,cI,cG,hE⟩
 simp only[List.cons.injEq,Value.slice.injEq,Value.int.injEq,true_and,and_true]at cI cG
 obtain⟨⟨rfl,rfl,rfl⟩,rfl⟩:=cI
 obtain⟨rfl,rfl,rfl⟩:=cG
 have iH:L'.length=k:=by rw[hE.len,List.length_take];omega
 refine Zab (λaC=>?_) (λbG=>?_)
 ·have aI:k < L.length:=by have:=zA6 aC;omega
  obtain⟨x,hx⟩:=Zat aI
  obtain⟨b,o,ha,cD⟩:=Zam Sta.len aB hx (by omega)
  have hw:IntKind.i64.wrap ((k:Int)+1)=((k+1:Nat):Int):=by rw[Zak (by omega) (by omega)];rfl
  refine⟨b,o,ha,⟨by omega,by omega⟩,_,_,cD.mono hE.le,λb3=>Zaa rfl ⟨_,trivial,iX x (zA2 hx) m2 hE.le,(λv _ _ ⟨y,h,_⟩=>by rw[h];rfl),?_⟩⟩
  intros
  refine ZrQ λys=>?_
  rintro aQ ⟨y,hv,hQ⟩ b4 fw
  obtain rfl:ys=y.cs:=by simpa using hv
  have bE:(L'.length+1)*40<=140737488355328:=by omega
  refine ZcL Sta.len Sta.one fw y (hE.row.mono aQ) 40 bE (by omega) (.inl rfl) λa5 c5 m5 cF bI aN=>?_
  have cA:=hE.step Sta.len (by omega) hx aQ hQ fw cF bI aN
  exact⟨L.length - (k+1),by omega,k+1,a5,c5,L'++[y],_,by omega,rfl,by rw[hw,zA1];rfl,by rw[zA1];rfl,cA⟩
 ·have dp:k=L.length:=by have:=of_decide_eq_false bG;omega
  rw[dp,List.take_length]at hE
  exact⟨m2,hE.le,Mem.le_refl _,_,_,L',μ,rfl,hE⟩
def CpE(m:Mem)(t:E):Value->Mem->List (List Value)->Prop:=λv m' _=>∃t':E,v=t'.v/\t'.er=t.er/\RepE (nw m m') t'
theorem Zqg{m:Mem}{t:E}:∀(v:Value)(m':Mem) (css:List (List Value)),CpE m t v m' css->Shape.fits (.agg [.int .u8,.any,.str,.int .i64,.slice]) v=true:=λv _ _ ⟨t,e,_⟩=>by rw[e];rfl
theorem Zqh(t:E)(m:Mem)(hr:RepE m t)(hl:t.light=true):CX Tryz.prog 90 #[t.v] m [] (CpE m t):=by
 apply ZkW
 intro b m1 aG _ b1
 have h:=ZcJ t m1 (hr.mono' aG)
 rw[hl]at h
 refine Zai h λm2 aJ=>Zp3 rfl (Zan (Zj9 t m2 (hr.mono' (mLt aG aJ)) (zA6 hl)) Zfu ?_)
 rintro n v s n1 a n2 c m3 aQ ⟨t',hv,hr',he,hn⟩
 obtain⟨rfl,rfl,rfl,rfl,rfl,rfl,rfl⟩:=ZoS hv
 exact Zaa rfl ⟨m3,mLt aG (mLt aJ aQ),Mem.le_refl _,t',rfl,he,ZsX t' hr' (hn.less (mLt aG aJ))⟩
theorem ZxG(p:Pt)(m:Mem)(hr:RepP m p)(hl:p.e.light=true):CX Tryz.prog 92 #[.agg p.cs.toArray] m [] (λv m' _=>∃q:Pt,v=.agg q.cs.toArray/\QP p q (nw m m')):=by
 apply ZdV
 intro b b1
 refine Zan (Zqh p.e m hr.e hl) Zqg ?_
 rintro n v s n1 a n2 c m3 aQ ⟨t',hv,he,dP⟩
 obtain⟨rfl,rfl,rfl,rfl,rfl,rfl,rfl⟩:=ZoS hv
 refine Zaa rfl (Zaa rfl ⟨m3,aQ,Mem.le_refl _,⟨p.k,p.s,p.g,t'⟩,rfl,?_,hr.k,hr.s,hr.g,dP⟩)
 simp only[Pt.er,he]
theorem ZxH(x:Ac)(m:Mem)(hr:RepA m x)(hl:LtA x):CX Tryz.prog 89 #[.agg x.cs.toArray] m [] (λv m' _=>∃q:Ac,v=.agg q.cs.toArray/\QA x q (nw m m')):=by
 apply ZeV
 intro b b1
 refine Zan (Zqh x.e m hr.e hl.1) Zqg ?_
 rintro n v s n1 a n2 c m1 aG ⟨t',hv,he,dP⟩
 obtain⟨rfl,rfl,rfl,rfl,rfl,rfl,rfl⟩:=ZoS hv
 refine Zaa rfl ⟨_,trivial,Zuj 92 QP x.parts x.pa x.pc m1 (hr.row.mono aG) hr.n (λp hp m2 aJ=>ZxG p m2 ((hr.all p hp).mono (mLt aG aJ)) (hl.2 p hp)),ZeQ,?_⟩
 rintro a' n' c' m2 aJ ⟨a5,c5,L',μ,hv',hE⟩
 simp only[Value.slice.injEq]at hv'
 obtain⟨rfl,rfl,rfl⟩:=hv'
 refine Zaa rfl ⟨m2,mLt aG aJ,Mem.le_refl _,⟨x.k,x.s,a',c',L',t'⟩,rfl,?_,Zrn hr hE (ZdR aG (Mem.le_refl _)) (dP.mono' (ZdR (Mem.le_refl _) aJ))⟩
 simp only[Ac.er,he,hE.same λ_ _ _ h=>h.1]
theorem ZxI(x:Ru)(m:Mem)(hr:RepR m x)(hl:LtR x):CX Tryz.prog 49 #[.agg x.cs.toArray] m [] (λv m' _=>∃q:Ru,v=.agg q.cs.toArray/\QR x q (nw m m')):=by
 apply Zgp
 intro b b1
 refine Zan (Zuc x.t m hr.t (zA6 hl.1)) Zub ?_
 rintro n0 n1 n2 n3 n4 n5 n6 a n c m1 aG ⟨t',hv,he,dP⟩
 simp only[T.v,Value.agg.injEq,Array.mk.injEq,List.cons.injEq,Value.int.injEq,Value.slice.injEq,true_and,and_true]at hv
 obtain⟨rfl,rfl,rfl,rfl,rfl,rfl,rfl,rfl,rfl,rfl⟩:=hv
 refine⟨_,trivial,Zuk 89 QA x.acts x.aa x.ac m1 (hr.row.mono aG) hr.len (λp hp m2 aJ=>ZxH p m2 ((hr.all p hp).mono (mLt aG aJ)) (hl.2 p hp)),ZeQ,?_⟩
 rintro a' n' c' m2 aJ ⟨a5,c5,L',μ,hv',hE⟩
 simp only[Value.slice.injEq]at hv'
 obtain⟨rfl,rfl,rfl⟩:=hv'
 refine⟨m2,mLt aG aJ,Mem.le_refl _,⟨x.k,x.bg,x.en,t',x.s,x.n,a',c',L',x.go,x.code⟩,rfl,?_,Zro hr hE (ZdR aG (Mem.le_refl _)) (dP.mono (ZdR (Mem.le_refl _) aJ))⟩
 simp only[Ru.er,he,hE.same λ_ _ _ h=>h.1]
theorem ZxJ(x:Sta)(m0 m:Mem)(h0:m0.le m)(hr:RepS m x)(hl:∀r∈x.rules,LtR r):CX Tryz.prog 56 #[.agg x.cs.toArray] m [] (λv m' _=>∃q:Sta,v=.agg q.cs.toArray/\QS m0 x q (nw m m')):=by
 apply ZiT
 intro b m1 aG _ b1
 refine⟨λ_ _ μ=>ZpJ Ru.cs QR μ x.rules,_,rfl,Zul 49 QR x.rules x.ra x.rc m1 (hr.row.mono aG) hr.len (λp hp m2 aJ=>ZxI p m2 ((hr.all p hp).mono (mLt aG aJ)) (hl p hp)),ZeQ,?_⟩
 rintro a' n' c' m2 aJ ⟨a5,c5,L',μ,hv',hE⟩ M _ hM
 simp only[Value.slice.injEq]at hv'
 obtain⟨rfl,rfl,rfl⟩:=hv'
 exact⟨m2,mLt aG aJ,hM,⟨x.s,a',c',L'⟩,rfl,(ZvH (mLt h0 aG) (hr.mono aG) hE).mono (ZdR aG (Mem.le_refl _))⟩
def Zw8(m:Mem)(l:List Va):Value->Mem->List (List Value)->Prop:=λv m' _=>∃a' c',v=.slice a' l.length c'/\rowRd (nw m m') a' (l.map Va.cs).flatten/\l.length<=c'
theorem ZnC(a:Option Addr)(c:Nat)(l:List Va)(m:Mem)(h:rowRd m a (l.map Va.cs).flatten)(hl:l.length<=few):CXT Tryz.prog 54 #[.slice a l.length c] m 4 (Zw8 m l):=by
 have hl:l.length<=100000:=hl
 apply Zbo
 have aH:(l.map Va.cs).flatten.length=l.length*4:=ZaQ Va.len l
 refine Zab (λha=>?_) (λha=>⟨⟨rfl,Int.le_refl _,by decide,by decide⟩,λb hf _=>⟨.inl rfl,[],(l.map Va.cs).flatten,rfl,aH,.inl rfl,h,?_,by omega,by omega,λa' c' m' hm aB iV=>⟨rfl,?_⟩⟩⟩)
 ·obtain rfl:a=none:=by simpa using ha
  have h0:l=[]:=by
   rcases h with h|⟨_,_,h,_⟩
   ·rw[h]at aH;exact List.eq_nil_of_length_eq_zero (by simp at aH;omega)
   ·cases h
  subst h0
  exact⟨rfl,none,0,rfl,.inl rfl,Nat.le_refl _⟩
 ·intro u hu
  simp only[List.mem_flatten,List.mem_map]at hu
  obtain⟨_,⟨e,_,rfl⟩,hu⟩:=hu
  exact Va.one e u hu
 ·simp only[Nat.zero_add]at iV ⊢
  refine⟨a',c',rfl,ZlA aB ?_,iV.1⟩
  rcases(iV.old (λ_ _ e=>by cases e;rfl)).2 with h1|⟨b',h1,h2|h2⟩
  ·exact .inr λb o e=>by rw[h1]at e;cases e
  ·exact .inr λb' o e=>by rw[<-h2]at e;cases e;exact hf
  ·exact .inr λb o e=>by rw[h1]at e;cases e;exact h2
def CpC(m:Mem)(s:Sc):Value->Mem->List (List Value)->Prop:=λv m' _=>∃s':Sc,v=s'.v/\s'.er=s.er/\RepC (nw m m') s'/\(s'.states=[]\/∃b μ,SepC m m' s' b μ)
theorem Zun{m:Mem}{s:Sc}:∀(v:Value)(m':Mem) (css:List (List Value)),CpC m s v m' css->Shape.fits (.agg [.int .i64,.slice,.slice]) v=true:=λv _ _ ⟨t,e,_⟩=>by rw[e];rfl
theorem ZrR{m:Mem}{l:List Va}:∀(v:Value)(m':Mem) (css:List (List Value)),Zw8 m l v m' css->Shape.fits .slice v=true:=λv _ _ ⟨_,_,h,_⟩=>by rw[h];rfl
theorem Zwg(s:Sc)(m:Mem)(hr:RepC m s)(hl:s.light=true):CX Tryz.prog 18 #[s.v] m [] (CpC m s):=by
 apply Znk
 intro b m1 aG _ b1
 have h:=Zce s m1 (hr.mono aG)
 rw[hl]at h
 refine Zai h λm2 aJ=>Zp3 rfl ?_
 have eH:=hr.mono (mLt aG aJ)
 have cV:=mLt aG aJ
 refine⟨λi _ μ=>if i=4 then Zw8 μ s.vars else ZpJ Sta.cs (QS m) μ s.states,_,rfl,(ZnC s.va s.vc s.vars m2 eH.vrow eH.vlen).toCX,ZrR,?_⟩
 rintro a n c m3 aQ ⟨a',c',hv,aB,cO⟩
 simp only[Value.slice.injEq]at hv
 obtain⟨rfl,rfl,rfl⟩:=hv
 refine⟨_,rfl,Zum 56 (QS m) s.states s.sa s.sc m3 (eH.row.mono aQ) eH.len (λx hx m4 bZ=>ZxJ x m m4 (mLt cV (mLt aQ bZ)) ((eH.all x hx).mono (mLt aQ bZ)) (Zxs hl x hx)),ZeQ,?_⟩
 rintro a4 n4 c4 m4 bZ ⟨a5,c5,L',μ,hv',hE⟩ M _ fx gQ
 simp only[Value.slice.injEq]at hv'
 obtain⟨rfl,rfl,rfl⟩:=hv'
 have dH:=mLt cV aQ
 have li:(nw m3 m4).le (nw m M):=ZdR dH gQ
 refine⟨M,mLt cV (mLt aQ fx),Mem.le_refl _,⟨s.n,a,c,s.vars,a4,c4,L'⟩,rfl,?_,⟨hr.n,hr.vlen,aB.mono (ZdR cV fx),hr.vall,by rw[hE.len];exact hr.len,hE.rows.mono li,λy hy=>?_,cO,hE.cap⟩,?_⟩
 ·simp only[Sc.er,hE.same (f:=Sta.er) (g:=Sta.er) λ_ _ _ h=>h.1]
 ·obtain⟨i,x,_,_,hq,hs⟩:=hE.at hy
  exact hq.2.1.mono (mLt hs li)
 ·rcases hE.blk with⟨h1,_⟩|⟨_,b,hb,hf,hk,hμ⟩
  ·exact .inl (List.eq_nil_of_length_eq_zero (by rw[hE.len,h1];rfl))
  ·refine .inr ⟨b,μ,hb,⟨ZbH dH hf,Zgg dH hk⟩,λi y hy=>?_,λi j pY hj b'=>hE.ap i j pY (by rw[<-hE.len];exact hj) b',nw m2 m3,aB,ZdR cV fx,ZbH (Zln _ _) hf,λi hi b'=>?_⟩
   ·have aC:i < s.states.length:=by rw[<-hE.len];exact(zA0 hy).1
    have hq:=hE.q i _ _ (zA3 aC) hy
    exact⟨hq.2.1,hq.2.2,mLt (hE.sub i aC) li,(hμ i aC).1⟩
   ·by_cases fL:(nw m2 m3).free b'
    ·exact .inl fL
    ·exact .inr (ZbH (hE.sub i (by rw[<-hE.len];exact hi)) (Zrk λh=>fL (ZbH (Zln _ _) h)))
variable {m:Mem} {b:Nat}
def ZyV(l:List Pt)(i:Nat)(p:Pt):Bool:=!ZfC p||(decide (i > 0)&&(p.k == 1&&(match l[i - 1]? with
 | some q=>q.k == 1
 | none=>false)))
def ZyW(s:Sc)(p:Pt):Bool:=(p.k == 2&&!(Zg7 s p.s).2)||(p.k == 4&&!Zdm s p.e)
def ZyX(r:Ru)(p:Pt):Bool:=(p.k == 3&&decide (p.g > Zde r))||(p.k == 4&&decide (p.e.most > Zde r))
theorem ZpG(s:Sc)(r:Ru)(l:List Pt)(i:Nat)(p:Pt):Zlm s r l i p=Zcr [(307,ZyV l i p),(308,ZyW s p),(309,ZyX r p)]:=rfl
def ZzM(s:Sc)(i n:Nat):List Value:=(List.range n).map λj=>.int .i64 (totals s i j)
def TotI(s:Sc)(i:Nat)(a:Option Addr)(vs:List Value)(m:Mem):Prop:=vs.length=i/\rowRd m a vs/\∀(k:Nat)(x:Sta),k < i->s.states[k]?=some x->∃ak ck,vs[k]?=some (.slice ak x.rules.length ck)/\rowRd m ak (ZzM s k x.rules.length)
theorem TotI.mono{s:Sc}{i:Nat}{a:Option Addr}{vs:List Value}{m m':Mem}(h:TotI s i a vs m)(hm:m.le m'):TotI s i a vs m':=⟨h.1,h.2.1.mono hm,λk x hk hx=>by
 obtain⟨ak,ck,h1,h2⟩:=h.2.2 k x hk hx
 exact⟨ak,ck,h1,h2.mono hm⟩⟩
theorem ZxK{m:Mem}{a:Option Addr}{vs:List Value}(h:rowRd m a vs){k:Nat}{v:Value}(hk:vs[k]?=some v):∃b o,a=some ⟨b,o,none⟩/\m.c b (o+k*1)=some v:=by
 rcases h with h|⟨b,o,ha,h⟩
 ·rw[h]at hk;simp at hk
 ·exact⟨b,o,ha,by rw[Nat.mul_one];exact h k v hk⟩
end Go.Proofs.YtpjepnkiiojgfaaGreat
namespace Go.Proofs.YtpjepnkiiojgfaaGreat
open Go Go.Eng Go.Proofs Go.RowKit
open Go.Value (int slice agg bool string tuple func)
open Go.IntKind (u8 u64 i64)
set_option maxRecDepth 100000
def Zjb:Env:={ EB with
 loops:=(λi=>bif Nat.beq i 5 then⟨[(15,.int .i64)],[],[],false⟩ else⟨[],[],[],false⟩)
 frzNew:=[1]
 frzAt:=(λi=>bif Nat.beq i 37 then[3]else[])
 thaw:=true
 kF:=true }
theorem Zht(aA:Int)(bH:Option Addr)(bF bK:Nat)(aW:Option Addr)(aP bC:Nat)(m:Mem)(R:RT)(h:
 lV [int i64 aA,slice bH bF bK,slice aW aP bC] λxL=>fzM m xL λb m'=>lE [some (Box.mk b xL 32 3 true true)] λxL_1=>m.free b->(∀(b' o:Nat)(u:Value),m' b' o=some u->m b' o
 = some u\/b'=b)->Mem.k m b=none->kB Tryz.prog 19 [agg (Array.mk xL)] m' λb m'=>br (!b) (rtM m m' R (slice none 0 0)) (∀(b:Nat),lX (Value.map (some b)) λyL=>m'.free b->Mem.k m' b=none->∀(b_1
 : Nat),∃(I:IT),lE (some (Box.mk b_1 [yL] 146 1 false true)::xL_1) λxL=>inI I [int i64 0] [] [] (Mem.updK m' b [])/\∀(n:Int)(m':Mem)(n_1:Nat),lV [int i64 (i64.wrap (n+(1:Int)))] fun
 xL_2=>True->I [int i64 n] [] [] m' n_1->br (decide (n < (↑aP:Int))) (atA aW λb o=>Zae n aP/\∃v v_1:Value,m'.reads b (o+Int.toNat n*2) [v,v_1]/\∀(b:Nat),chk
 (v.oneCell'&&(v_1.oneCell'&&true)) (∃(b:Nat),∃(es:List (Value×Value)),∃(v_2:Value),∃(o:Bool),yL=Value.map (some b)/\Mem.k m' b=some es/\Zsj Tryz.prog 9 v/\LookIs Tryz.prog 9 v
 es (int i64 0) v_2 o/\br (!o) (∃(b:Nat),∃(es:List (Value×Value)),∃(es':List (Value×Value)),yL=Value.map (some b)/\Mem.k m' b=some es/\Zsj Tryz.prog 9 v/\Zia Tryz.prog 9 v (int i64 n) es es'
 /\ Mem.k m b=none/\Zac xL/\nxI n_1 I xL_2 [] [] (Mem.updK m' b es')) (Zac xL/\nxI n_1 I xL_2 [] [] m'))) (∀(m'_1:Mem),m'.le m'_1->m'_1.reads b_1 0 [yL]->kS Tryz.prog 77 [slice aW aP bC,
 func (Fn.func 78) (Array.mk []) (Array.mk [Value.pointer (some (Addr.mk b_1 0 none))])] m'_1 λa n c m'=>rtM m m' R (slice a n c)))):CX Tryz.prog 32 #[.agg #[.int .i64 aA,.slice bH bF bK,.slice aW aP bC]] m [] R:=
 Zad (E:=Zjb) Zap mix Tryz.func32 (by kernel_rfl) (Eq.mp (by kernel_rfl) h)
def Zgz:Env:={ EB with
 loops:=(λi=>bif Nat.beq i 3 then⟨[(4,.slice),(12,.int .i64)],[],[(32,1)],false⟩ else⟨[],[],[],false⟩)
 joins:=(λi=>bif Nat.beq i 6 then some [(28,.bool)]else none)
 tokOf:=(λi=>bif Nat.beq i 32 then 32 else 0)
 frzNew:=[2]
 thaw:=true
 lentC:=(λi=>bif Nat.beq i 35 then some [(32,1)]else bif Nat.beq i 37 then some [(32,1)]else none) }
theorem ZfJ(aA:ByteArray)(bH:Option Addr)(bF bK c0b c0o:Nat)(m:Mem)(R:RT)(h:
 lV [string aA,slice bH bF bK] λxL=>fzM m xL λb m'=>lE [some (Box.mk b xL 36 2 true true)] λxL=>m.free b->(∀(b' o:Nat)(u:Value),m' b' o=some u->m b' o=some u\/b'=b)->∃(I:
 IT),inI I [slice none 0 0,int i64 0] [] [slice none 0 0] m'/\∀(a:Option Addr)(n c:Nat)(af:Int)(a3:Option Addr)(a4 a5:Nat)(m':Mem)(ai:Nat),lX (slice a3 a4 a5) λyL=>lE (Tok.mk yL 1) λag=>
 lE [some ag] λah=>lV [int i64 (i64.wrap (af+(1:Int)))] λak=>lE (n+1) λac=>lX (slice a n c) λad=>True->I [ad,int i64 af] [] [yL] m' ai->br (decide (af < (↑bF:Int))) (atA bH
 λb o=>Zae af bF/\∃v al am an ao ap aq ar au av aw ax ay az ae a0:Value,lV [v,al,am,an,ao,ap,aq,ar,au,av,aw,ax,ay,az,ae,a0] λa1=>m'.reads b (o+Int.toNat af*16) a1/\∀(b:Nat),lE (some
 (Box.mk b a1 47 16 false true)::xL) λa2=>chk (v.oneCell'&&(al.oneCell'&&(am.oneCell'&&(an.oneCell'&&(ao.oneCell'&&(ap.oneCell'&&(aq.oneCell' &&
 (ar.oneCell'&&(au.oneCell'&&(av.oneCell'&&(aw.oneCell'&&(ax.oneCell'&&(ay.oneCell'&&(az.oneCell'&&(ae.oneCell'&&(a0.oneCell'&&true))))))))))))))))
 (∃(v:Value),m' c0b c0o=some v/\∃(b:Nat),∃(es:List (Value×Value)),∃(aj:Value),∃(o:Bool),lV (List.append (Array.toList (Value.cells aj)) []) λa6=>v=Value.map (some b)/\Mem.k m' b=some es
 /\ Zsj Tryz.prog 9 ae/\LookIs Tryz.prog 9 ae es (int i64 0) aj o/\∃(b:Bool),br o (chk (Zh0 ae&&true) (Zac a2/\ah=ah/\[bool !ByteArray.toList (Zcb ae) == ByteArray.toList bE0]
 = [bool b])) (Zac a2/\ah=ah/\[bool false]=[bool b])/\br b (chk (Nat.beq (List.length (Array.toList (Value.cells aj))) 1&&true) (∀(b:Nat),lM (m'.add b a6) λmL=>m'.free b->(ag=Tok.mk ad 1\/
 ad=slice none 0 0\/c < ac)/\∃(xs:List Value),∃(ys:List Value),xs.length=n*1/\ys.length=1*1/\rowRd mL a xs/\rowRd mL (some (Addr.mk b 0 none)) ys/\(∀(u:Value),u∈ys->u.oneCell'=true)/\ac*8<=140737488355328/\ac<=9223372036854775807/\∀(a':Option Addr)(c':Nat)(m':Mem),mL.le m'->rowRd m' a' (List.append xs ys)->TokFact mL a a' ac c'->Zac xL/\nxI ai I (slice a' ac c'
 :: ak) [] [slice a' ac c'] m')) (Zac xL/\nxI ai I (ad::ak) [] [yL] m'))) (∃(Y:Nat->Prop),∃(R_1:Value->Mem->List (List Value)->List Value->Prop),CXY Tryz.prog 36 (Array.mk [ad]) m' Y [] [ag] R_1/\(∀
 (t:Tok),t∈[ag]->∀(b:Nat),Tok.blk t=some b->Y b)/\(∀(aa:Nat),Y aa->(∃(t:Tok),t∈[ag]/\Tok.blk t=some aa)\/(m.free aa/\Mem.k m aa=none)/\((∃(o:Nat),∃(v:Value),m' aa o=some v)
 \/ ∃(e:List (Value×Value)),Mem.k m' aa=some e)/\b≠aa/\True)/\(∀(v:Value)(m':Mem) (css:List (List Value)) (tvs:List Value),R_1 v m' css tvs->Shape.fits (Shape.tup []) v=true)/\∀(ab:Mem),
 Mem.le (Mem.off m' Y) ab->(NewM m' ab λb=>Y b\/m'.free b)->∀(a:Option Addr)(c d:Nat),lE [Tok.mk (slice a c d) 1] λxL=>R_1 (tuple (Array.mk [])) ab [] [slice a c d]->∃(Y:Nat->Prop),∃(R_2:
 Value->Mem->List (List Value)->List Value->Prop),CXY Tryz.prog 37 (Array.mk [ad]) ab Y [] xL R_2/\(∀(t:Tok),t∈xL->∀(b:Nat),Tok.blk t=some b->Y b)/\(∀(aa:Nat),Y aa->(∃(t:Tok),t∈xL/\
 Tok.blk t=some aa)\/(m.free aa/\Mem.k m aa=none)/\((∃(o:Nat),∃(v:Value),ab aa o=some v)\/∃(e:List (Value×Value)),Mem.k ab aa=some e)/\b≠aa/\True)/\(∀(v:Value)(m':Mem) (css:List
 (List Value)) (tvs:List Value),R_2 v m' css tvs->Shape.fits Shape.slice v=true)/\∀(a:Option Addr)(n c:Nat)(m':Mem),Mem.le (Mem.off ab Y) m'->(NewM ab m' λb=>Y b\/ab.free b)->∀(a7:Option
 Addr) (a8 d:Nat),R_2 (slice a n c) m' [] [slice a7 a8 d]->rtM m m' R (slice a n c))):CX Tryz.prog 78 #[.agg #[.string aA,.slice bH bF bK],.pointer (some ⟨c0b,c0o,none⟩)] m [] R:=
 Zad (E:=Zgz) Zap mix Tryz.func78 (by kernel_rfl) (Eq.mp (by kernel_rfl) h)
def Zcu:Env:={ EB with
 loops:=(λi=>bif Nat.beq i 3 then⟨[(5,.slice),(10,.int .i64)],[],[(19,1)],false⟩ else⟨[],[],[],false⟩)
 tokOf:=(λi=>bif Nat.beq i 19 then 19 else 0)
 thaw:=true }
theorem Zcf(p0a:Option Addr)(p0n p0c p1g:Nat)(p1fi p1ca:List Value)(m:Mem)(R:RT)(h:
 ∃(I:IT),inI I [slice none 0 0,int i64 0] [] [slice none 0 0] m/\∀(a:Option Addr)(n c:Nat)(n_1:Int)(a_1:Option Addr)(n_2 c_1:Nat)(m':Mem)(n_3:Nat),lX (slice a n c) λyL=>lE (n+1) fun
 yL_1=>True->I [yL,int i64 n_1] [] [slice a_1 n_2 c_1] m' n_3->br (decide (n_1 < (↑p0n:Int))) (atA p0a λb o=>Zae n_1 p0n/\∃v v_1:Value,m'.reads b (o+Int.toNat n_1*2) [v,v_1]/\
 ∀(b:Nat),chk (v.oneCell'&&(v_1.oneCell'&&true)) (kS Tryz.prog p1g (List.append (List.append p1fi [agg (Array.mk [v,v_1])]) p1ca) m' λa_4 n_4 c_2 m'=>∀(b:Nat),lM (m'.add b [slice a_4 n_4
 c_2]) λmL=>m'.free b->(Tok.mk (slice a_1 n_2 c_1) 1=Tok.mk yL 1\/yL=slice none 0 0\/c < yL_1)/\∃(xs:List Value),∃(ys:List Value),xs.length=n*1/\ys.length=1*1/\rowRd mL a xs/\
 rowRd mL (some (Addr.mk b 0 none)) ys/\(∀(u:Value),u∈ys->u.oneCell'=true)/\yL_1*24<=140737488355328/\yL_1<=9223372036854775807/\∀(a':Option Addr)(c':Nat)(m':Mem),mL.le m'->rowRd m'
 a' (List.append xs ys)->TokFact mL a a' yL_1 c'->nxI n_3 I [slice a' yL_1 c',int i64 (i64.wrap (n_1+(1:Int)))] [] [slice a' yL_1 c'] m')) (rtM m m' R yL)):CX Tryz.prog 77 #[.slice p0a p0n p0c,.func (.func p1g) p1fi.toArray p1ca.toArray] m [] R:=
 Zad (E:=Zcu) Zap mix Tryz.func77 (by kernel_rfl) (Eq.mp (by kernel_rfl) h)
def Zla:Env:={ EB with
 loops:=(λi=>bif Nat.beq i 1 then⟨[(7,.int .i64)],[100000],[(18,1),(900,1)],false⟩ else⟨[],[],[],false⟩)
 tokOf:=(λi=>bif Nat.beq i 18 then 900 else 0)
 thaw:=true }
theorem Zhu(p0a:Option Addr)(p0n p0c c0b:Nat)(c0_0a:Option Addr)(c0_0n c0_0c:Nat)(t0a:Option Addr)(t0n t0c:Nat)(m:Mem)(Y:Nat->Prop)(R:RTY)(h:
 ∃(I:IT),lE [some (Box.mk c0b [] 80 1 false true)] λxL=>lE (Box.mk c0b [slice c0_0a c0_0n c0_0c] 80 1 false true) λyL=>inI I [int i64 0] [[slice c0_0a c0_0n c0_0c]] [slice none 0 0,slice t0a t0n t0c] m/\∀
 (n:Int) (cs:List Value) (a:Option Addr) (n_1 c:Nat) (a_1:Option Addr) (n_2 c_1:Nat) (m':Mem) (n_3:Nat),lX (slice a n_1 c) λyL_1=>lV [int i64 (i64.wrap (n+(1:Int)))] λxL_1=>lX
 (slice a_1 n_2 c_1) λyL_2=>True->I [int i64 n] [cs] [yL_1,yL_2] m' n_3->br (decide (n < (↑p0n:Int))) (atA p0a λb o=>Zae n p0n/\∃(v:Value),lV (List.append (Array.toList (Value.cells v)) []) fun
 xL_2=>m' b (o+Int.toNat n*1)=some v/\Eng.Zsd cs 0 λv_1=>kB Tryz.prog 29 [v_1,v] m' λb m'=>br (!b) (Eng.Zsd cs 0 λv_2=>lE (slN v_2+1) λyL=>chk (Nat.beq (List.length (Array.toList
 (Value.cells v))) 1&&true) (∀(b:Nat),lM (m'.add b xL_2) λmL=>m'.free b->chk (ZbT v_2&&true) ((Tok.mk yL_2 1=Tok.mk v_2 1\/v_2=slice none 0 0\/slC v_2 < yL)/\∃(xs:List Value),∃(ys:
 List Value),xs.length=slN v_2*1/\ys.length=1*1/\rowRd mL (slA v_2) xs/\rowRd mL (some (Addr.mk b 0 none)) ys/\(∀(u:Value),u∈ys->u.oneCell'=true)/\yL*16<=140737488355328/\yL <=
 9223372036854775807/\∀(a':Option Addr)(c':Nat)(m':Mem),mL.le m'->rowRd m' a' (List.append xs ys)->TokFact mL (slA v_2) a' yL c'->Zac xL/\([none]:List (Option Tok))=[none]/\nxI n_3 I xL_1
 [[slice a' yL c']] [yL_1,slice a' yL c'] m'))) (Zac xL/\([none]:List (Option Tok))=[none]/\nxI n_3 I xL_1 [cs] [yL_1,yL_2] m')) (yL=yL/\R (tuple (Array.mk [])) m' [cs] [yL_2])):CXY Tryz.prog 108 #[.slice p0a p0n p0c,.pointer (some ⟨c0b,0,none⟩)] m Y [⟨c0b,[.slice c0_0a c0_0n c0_0c],80,1,false,true⟩] [⟨.slice t0a t0n t0c,1⟩] R:=
 ZjN (E:=Zla) Zap mix Tryz.func108 [.v (.slice p0a p0n p0c),.loc 100000 0] [⟨c0b,[.slice c0_0a c0_0n c0_0c],80,1,false,true⟩] [900] [⟨.slice t0a t0n t0c,1⟩] (by decide) (by kernel_rfl) (Eq.mp (by kernel_rfl) h)
def ZoV:Env:={ EB with
 loops:=(λi=>bif Nat.beq i 7 then⟨[(18,.agg [.int .u8,.str,.slice,.int .u8,.any,.str,.int .i64,.slice])],[5],[(900,1)],false⟩ else bif Nat.beq i 13 then⟨[(44,.int .i64)],[5],[(900,1)],false⟩ else⟨[],[],[],false⟩)
 joins:=(λi=>bif Nat.beq i 8 then some [(27,.bool)]else none)
 dr:=(λi=>bif Nat.beq i 11 then[⟨0,[6],[],none,[],[]⟩,⟨1,[7],[],none,[],[]⟩,⟨2,[7],[],none,[1],[]⟩,⟨3,[],[],none,[1,2],[]⟩]else bif Nat.beq i 19 then[⟨0,[6],[],none,[],[]⟩,⟨1,[9],[],none,[],[]⟩,⟨2,[9],[],none,[1],[]⟩,⟨3,[],[],none,[1,2],[]⟩]else[])
 borrow:=(λi=>bif Nat.beq i 32 then[5]else bif Nat.beq i 40 then[5]else bif Nat.beq i 56 then[5]else bif Nat.beq i 63 then[5]else[])
 frzNew:=[2,3]
 last:=(λi=>bif Nat.beq i 11 then true else bif Nat.beq i 19 then true else false)
 lastK:=(λi=>bif Nat.beq i 11 then 1 else bif Nat.beq i 19 then 1 else 1)
 thaw:=true
 cuts:=λi=>bif Nat.beq i 12 then some ⟨[],[5],[(900,1)],false⟩ else none
 lentC:=(λi=>bif Nat.beq i 32 then some [(900,1)]else bif Nat.beq i 40 then some [(900,1)]else bif Nat.beq i 56 then some [(900,1)]else bif Nat.beq i 63 then some [(900,1)]else none) }
theorem ZnD(aA:Int)(aD aF:Bool)(aE aY aZ bA dy dz dA:Int)(bM:Option Addr)(bN bO:Nat)(cK:ByteArray)(cL:Int)(bP:Option Addr)(bQ bT:Nat)(cM:ByteArray)(cN:Int)(p1:Bool)(m:Mem)(R:RT)(h:
 lV [bool p1] λxL=>lV [int u8 aA,bool aD,bool aF,int u8 aE,int u64 aY,int u64 aZ,int u64 bA,int u64 dy,int i64 dz,int i64 dA,slice bM bN bO,string cK,int i64 cL,
 slice bP bQ bT,string cM,int i64 cN] λan=>fzM m an λb m'=>lE [some (Box.mk b an 47 16 true true)] λbc=>m.free b->(∀(b' o:Nat)(u:Value),m' b' o=some u->m b' o=some u\/
 b'=b)->fzM m' xL λae aw=>lE (some (Box.mk ae xL 4 1 true true)::bc) λxL=>m'.free ae->(∀(b' o:Nat)(u:Value),aw b' o=some u->m' b' o=some u\/b'=ae)->∃(R_1:RT),True/\CX Tryz.prog 75
 (Array.mk [agg (Array.mk an)]) aw [] R_1/\Zbq (Shape.agg [Shape.int i64,Shape.slice,Shape.slice]) R_1/\∀(n:Int)(a:Option Addr)(bd c:Nat)(be:Option Addr)(bf bg:Nat)(m':Mem),lX (agg (Array.mk [int
 i64 n,slice a bd c,slice be bf bg])) λyL=>aw.le m'->R_1 yL m' []->kB Tryz.prog 19 [yL] m' λbh m'=>br (!bh) (rtM m m' R (slice none 0 0)) (∀(ao bi:Nat),∃(R_2:RT),lV [Value.pointer (some (Addr.mk
 ao 0 none))] λaj=>lE (some (Box.mk bi [func (Fn.func 108) (Array.mk []) (Array.mk aj)] 180 1 false true)) λyL=>lE (yL::some (Box.mk ao [] 80 1 false true)::xL) λad=>True/\CX Tryz.prog 75 (Array.mk
 [agg (Array.mk an)]) m' [] R_2/\Zbq (Shape.agg [Shape.int i64,Shape.slice,Shape.slice]) R_2/\∀(n:Int)(a:Option Addr)(bj c:Nat)(bk:Option Addr)(bl bm:Nat)(ax:Mem),lX (agg (Array.mk [int i64 n,
 slice a bj c,slice bk bl bm])) λa2=>m'.le ax->R_2 a2 ax []->kF Tryz.prog 71 [a2] ax λg fi ca m'=>∃(mi:Mem),mi.le m'/\∃(xs:List (List Value)),IX Tryz.prog g fi ca mi xs/\(∀(x:List
 Value),x∈xs->Shape.fitsL [Shape.agg [Shape.int u8,Shape.str,Shape.slice,Shape.int u8,Shape.any,Shape.str,Shape.int i64,Shape.slice]] x=true)/\∃(I:IT),I [] [[slice none 0 0]] [slice none 0 0] m' 0/\(∀
 (n:Int) (s:ByteArray) (a:Option Addr) (ay c:Nat) (bn:Int) (v:Value) (bo:ByteArray) (bp:Int) (bq:Option Addr) (bs bt:Nat) (cs:List Value) (bu:Option Addr) (bv bw:Nat) (m':Mem) (ak:Nat),lX
 (slice bu bv bw) λap=>lE (Tok.mk ap 1) λaf=>lE [some af] λaq=>lV [string s] λbx=>lE (Box.mk ao cs 80 1 false true) λar=>lV [int u8 bn,v,string bo,int i64 bp,slice bq bs bt] λaz=>lV (int
 u8 n::string s::slice a ay c::az) λa3=>mi.le m'->List.get?Internal xs ak=some [agg (Array.mk a3)]->I [] [cs] [ap] m' ak->∀(bz:Nat),lE (some (Box.mk bz a3 54 8 false true)) λag=>chk
 (v.oneCell'&&true) (br p1 (∃(ab:Bool),br (n == (2:Int)) (Zac (ag::yL::some ar::xL)/\aq=aq/\[bool true]=[bool ab]) (Zac (ag::yL::some ar::xL)/\aq=aq/\[bool (n == (3:Int))] =
 [bool ab])/\br ab (∀(al:Nat),lM (m'.add al bx) λmL=>m'.free al->∃(Y:Nat->Prop),∃(R:Value->Mem->List (List Value)->List Value->Prop),CXY Tryz.prog 108 (Array.mk (slice (some (Addr.mk al 0
 none)) 1 1::aj)) mL Y [ar] [af] R/\(∀(t:Tok),t∈[af]->∀(b:Nat),Tok.blk t=some b->Y b)/\(∀(aa:Nat),Y aa->(∃(t:Tok),t∈[af]/\Tok.blk t=some aa)\/(m.free aa/\Mem.k m aa=none)/\((∃(o
 : Nat),∃(v:Value),mL aa o=some v)\/∃(e:List (Value×Value)),Mem.k mL aa=some e)/\al≠aa/\ae≠aa/\b≠aa/\True)/\(∀(v:Value)(m':Mem) (css:List (List Value)) (tvs:List Value),R v m' css
 tvs->Shape.fits (Shape.tup []) v=true)/\∀(m':Mem),Mem.le (Mem.off mL Y) m'->(NewM mL m' λb=>Y b\/mL.free b)->∀(cs:List Value)(a:Option Addr)(c d:Nat),R (tuple (Array.mk [])) m' [cs] [slice
 a c d]->mi.le m'/\Zac ad/\I [] [cs] [slice a c d] m' (ak+1)) (mi.le m'/\Zac ad/\I [] [cs] [ap] m' (ak+1))) (∃(J:JT),br (n == (3:Int)) (∃(f:Fx),∃(R:RT),R=f 3 [agg (Array.mk az)] m'
 /\ CX Tryz.prog 109 (Array.mk [agg (Array.mk az)]) m' [] R/\Zbq Shape.slice R/\∀(a:Option Addr)(n c:Nat)(ah:Mem),m'.le ah->R (slice a n c) ah []->∀(M:Mem),m'.le M->ah.le M->∃(Y:Nat->
 Prop),∃(R:Value->Mem->List (List Value)->List Value->Prop),CXY Tryz.prog 108 (Array.mk (slice a n c::aj)) M Y [ar] [af] R/\(∀(t:Tok),t∈[af]->∀(b:Nat),Tok.blk t=some b->Y b)/\(∀(ab:Nat),Y
 ab->(∃(t:Tok),t∈[af]/\Tok.blk t=some ab)\/(m.free ab/\Mem.k m ab=none)/\((∃(o:Nat),∃(v:Value),M ab o=some v)\/∃(e:List (Value×Value)),Mem.k M ab=some e)/\ae≠ab/\b≠ab/\True)/\
 (∀(v:Value)(m':Mem) (css:List (List Value)) (tvs:List Value),R v m' css tvs->Shape.fits (Shape.tup []) v=true)/\∀(m':Mem),Mem.le (Mem.off M Y) m'->(NewM M m' λb=>Y b\/M.free b)->∀(cs:
 List Value) (a:Option Addr) (c d:Nat),R (tuple (Array.mk [])) m' [cs] [slice a c d]->Zac (ag::ad)/\([none]:List (Option Tok))=[none]/\J [] [cs] [slice a c d] m') (Zac (ag::ad)/\([none]:List
 (Option Tok))=[none]/\J [] [cs] [ap] m')/\∀(cs:List Value)(a4:Option Addr)(n c:Nat)(m':Mem),True->J [] [cs] [slice a4 n c] m'->∃(am:IT),inI am [int i64 0] [cs] [slice a4 n c] m'/\∀(n:Int) (cs
 : List Value) (cb:Option Addr) (cc c:Nat) (m':Mem) (au:Nat),lE [Box.mk ao cs 80 1 false true] λxL=>lX (slice cb cc c) λyL=>lV [int i64 (i64.wrap (n+(1:Int)))] λa0=>lE [Tok.mk yL 1]
 λai=>True->am [int i64 n] [cs] [yL] m' au->br (decide (n < (↑ay:Int))) (atA a λab o=>Zae n ay/\∃v av a5 a6 a7 a8 a9 ba:Value,lV [a6,a7,a8,a9,ba] λa1=>lE (Za8 u8 v&&decide (u8=u8)) λbb=>lV (List.append (Array.toList (Value.cells av)) []) λcd=>m'.reads ab (o+Int.toNat n*8) (v::av::a5
 :: a1)/\∀(al:Nat),chk (v.oneCell'&&(av.oneCell'&&(a5.oneCell'&&(a6.oneCell'&&(a7.oneCell'&&(a8.oneCell'&&(a9.oneCell'&&(ba.oneCell'&&true)))))))) (chk
 bb (br (RowKit.intOf v == (2:Int)) (chk (Nat.beq (List.length (Array.toList (Value.cells av))) 1&&true) (∀(aa:Nat),lM (m'.add aa cd) λmL=>m'.free aa->∃(Y:Nat->Prop),∃(R:Value->Mem->List
 (List Value)->List Value->Prop),CXY Tryz.prog 108 (Array.mk (slice (some (Addr.mk aa 0 none)) 1 1::aj)) mL Y xL ai R/\(∀(t:Tok),t∈ai->∀(b:Nat),Tok.blk t=some b->Y b)/\(∀(ac:Nat),Y ac->(∃(t:
 Tok),t∈ai/\Tok.blk t=some ac)\/(m.free ac/\Mem.k m ac=none)/\((∃(o:Nat),∃(v:Value),mL ac o=some v)\/∃(e:List (Value×Value)),Mem.k mL ac=some e)/\aa≠ac/\ae≠ac/\b≠ac/\True)/\(∀
 (v:Value) (m':Mem) (css:List (List Value)) (tvs:List Value),R v m' css tvs->Shape.fits (Shape.tup []) v=true)/\∀(m':Mem),Mem.le (Mem.off mL Y) m'->(NewM mL m' λb=>Y b\/mL.free b)->∀(cs:
 List Value) (a:Option Addr) (c d:Nat),R (tuple (Array.mk [])) m' [cs] [slice a c d]->Zac (ag::ad)/\([none,none]:List (Option Tok))=[none,none]/\nxI au am a0 [cs] [slice a c d] m')) (chk bb (br
 (RowKit.intOf v == (4:Int)) (∃(f:Fx),∃(R:RT),R=f 3 [agg (Array.mk a1)] m'/\CX Tryz.prog 109 (Array.mk [agg (Array.mk a1)]) m' [] R/\Zbq Shape.slice R/\∀(a:Option Addr)(n c:Nat)(ah:Mem),m'.le ah->R (slice a n c) ah []->∀(M:Mem),m'.le M->ah.le M->∃(Y:Nat->Prop),∃(R:Value->Mem->List (List Value)->List Value->Prop),CXY Tryz.prog 108 (Array.mk (slice a n c::aj)) M Y xL ai R/\(∀
 (t:Tok),t∈ai->∀(b:Nat),Tok.blk t=some b->Y b)/\(∀(aa:Nat),Y aa->(∃(t:Tok),t∈ai/\Tok.blk t=some aa)\/(m.free aa/\Mem.k m aa=none)/\((∃(o:Nat),∃(v:Value),M aa o=some v)\/∃
 (e:List (Value×Value)),Mem.k M aa=some e)/\ae≠aa/\b≠aa/\True)/\(∀(v:Value)(m':Mem) (css:List (List Value)) (tvs:List Value),R v m' css tvs->Shape.fits (Shape.tup []) v=true)/\∀(m':Mem),
 Mem.le (Mem.off M Y) m'->(NewM M m' λb=>Y b\/M.free b)->∀(cs:List Value)(a:Option Addr)(c d:Nat),R (tuple (Array.mk [])) m' [cs] [slice a c d]->Zac (ag::ad)/\([none,none]:List (Option
 Tok))=[none,none]/\nxI au am a0 [cs] [slice a c d] m') (Zac (ag::ad)/\([none,none]:List (Option Tok))=[none,none]/\nxI au am a0 [cs] [yL] m')))))) (mi.le m'/\Zac ad/\I [] [cs] [yL] m' (ak +
 1)))))/\∀(cs:List Value)(a:Option Addr)(n c:Nat)(m':Mem),mi.le m'->I [] [cs] [slice a n c] m' (xs.length)->Eng.Zsd cs 0 λv=>rtM m m' R v)):CX Tryz.prog 74 #[.agg #[.int .u8 aA,.bool aD,.bool aF,.int .u8 aE,.int .u64 aY,.int .u64 aZ,.int .u64 bA,.int .u64 dy,.int .i64 dz,.int .i64 dA,.slice bM bN bO,.string cK,.int .i64 cL,.slice bP bQ bT,.string cM,.int .i64 cN],.bool p1] m [] R:=
 Zad (E:=ZoV) Zap mix Tryz.func74 (by kernel_rfl) (Eq.mp (by kernel_rfl) h)
def ZnE:Env:={ EB with
 frzNew:=[1] }
theorem Zlb(aA:Int)(aD aF:Bool)(aE aY aZ bA dy dz dA:Int)(bM:Option Addr)(bN bO:Nat)(cK:ByteArray)(cL:Int)(bP:Option Addr)(bQ bT:Nat)(cM:ByteArray)(cN:Int)(m:Mem)(R:RT)(h:
 lV [int u8 aA,bool aD,bool aF,int u8 aE,int u64 aY,int u64 aZ,int u64 bA,int u64 dy,int i64 dz,int i64 dA,slice bM bN bO,string cK,int i64 cL,slice bP bQ
 bT,string cM,int i64 cN] λxL=>fzM m xL λb m'=>kS Tryz.prog 74 [agg (Array.mk xL),bool false] m' λa n c m'=>rtM m m' R (slice a n c)):CX Tryz.prog 27 #[.agg #[.int .u8 aA,.bool aD,.bool aF,.int .u8 aE,.int .u64 aY,.int .u64 aZ,.int .u64 bA,.int .u64 dy,.int .i64 dz,.int .i64 dA,.slice bM bN bO,.string cK,.int .i64 cL,.slice bP bQ bT,.string cM,.int .i64 cN]] m [] R:=
 Zad (E:=ZnE) Zap mix Tryz.func27 (by kernel_rfl) (Eq.mp (by kernel_rfl) h)
def Zlc:Env:={ EB with
 frzNew:=[1] }
theorem Zjc(aA:Int)(aD aF:Bool)(aE aY aZ bA dy dz dA:Int)(bM:Option Addr)(bN bO:Nat)(cK:ByteArray)(cL:Int)(bP:Option Addr)(bQ bT:Nat)(cM:ByteArray)(cN:Int)(m:Mem)(R:RT)(h:
 lV [int u8 aA,bool aD,bool aF,int u8 aE,int u64 aY,int u64 aZ,int u64 bA,int u64 dy,int i64 dz,int i64 dA,slice bM bN bO,string cK,int i64 cL,slice bP bQ
 bT,string cM,int i64 cN] λxL=>fzM m xL λb m'=>kS Tryz.prog 74 [agg (Array.mk xL),bool true] m' λa n c m'=>rtM m m' R (slice a n c)):CX Tryz.prog 28 #[.agg #[.int .u8 aA,.bool aD,.bool aF,.int .u8 aE,.int .u64 aY,.int .u64 aZ,.int .u64 bA,.int .u64 dy,.int .i64 dz,.int .i64 dA,.slice bM bN bO,.string cK,.int .i64 cL,.slice bP bQ bT,.string cM,.int .i64 cN]] m [] R:=
 Zad (E:=Zlc) Zap mix Tryz.func28 (by kernel_rfl) (Eq.mp (by kernel_rfl) h)
def ZoW:Env:={ EB with
 loops:=(λi=>bif Nat.beq i 6 then⟨[(14,.agg [.int .u8,.str,.slice,.int .u8,.any,.str,.int .i64,.slice])],[3],[],false⟩ else bif Nat.beq i 9 then⟨[(26,.int .i64)],[3],[],false⟩ else⟨[],[],[],false⟩)
 dr:=(λi=>bif Nat.beq i 7 then[⟨0,[3],[],none,[],[]⟩,⟨1,[4],[],none,[],[]⟩,⟨2,[4],[],none,[1],[]⟩,⟨3,[],[],none,[1,2],[]⟩,⟨4,[],[],none,[0,1,2,3],[]⟩,⟨5,[3],[3],none,[0,1,2,3,4],[]⟩]else bif Nat.beq i 15 then[⟨0,[3],[],none,[],[]⟩,⟨1,[6],[],none,[],[]⟩,⟨2,[6],[],none,[1],[]⟩,⟨3,[],[],none,[1,2],[]⟩,⟨4,[],[],none,[0,1,2,3],[]⟩,⟨5,[3],[3],none,[0,1,2,3,4],[]⟩]else[])
 frzNew:=[1]
 cuts:=λi=>bif Nat.beq i 8 then some ⟨[],[3],[],false⟩ else none }
theorem ZnF(aA:Int)(aD aF:Bool)(aE aY aZ bA dy dz dA:Int)(bM:Option Addr)(bN bO:Nat)(cK:ByteArray)(cL:Int)(bP:Option Addr)(bQ bT:Nat)(cM:ByteArray)(cN:Int)(m:Mem)(R:RT)(h:
 lV [int u8 aA,bool aD,bool aF,int u8 aE,int u64 aY,int u64 aZ,int u64 bA,int u64 dy,int i64 dz,int i64 dA,slice bM bN bO,string cK,int i64 cL,slice bP bQ
 bT,string cM,int i64 cN] λxL=>fzM m xL λb m'=>∃(R_1:RT),lE [some (Box.mk b xL 47 16 true true)] λav=>True/\CX Tryz.prog 75 (Array.mk [agg (Array.mk xL)]) m' [] R_1/\Zbq (Shape.agg
 [Shape.int i64,Shape.slice,Shape.slice]) R_1/\∀(n:Int)(a:Option Addr)(aw c:Nat)(ax:Option Addr)(ay az:Nat)(ag:Mem),lX (agg (Array.mk [int i64 n,slice a aw c,slice ax ay az])) λyL=>m'.le ag->R_1 yL ag []->kB Tryz.prog 19 [yL] ag λb m'=>br (!b) (rtM m m' R (int i64 0)) (∀(b:Nat),∃(R_2:RT),lE (some (Box.mk b [] 3 1 false true)::av) λal=>True/\CX Tryz.prog 75 (Array.mk [agg (Array.mk
 xL)]) m' [] R_2/\Zbq (Shape.agg [Shape.int i64,Shape.slice,Shape.slice]) R_2/\∀(n:Int)(a:Option Addr)(a0 c:Nat)(a1:Option Addr)(a2 a3:Nat)(ah:Mem),lX (agg (Array.mk [int i64 n,slice a a0 c,
 slice a1 a2 a3])) λyL=>m'.le ah->R_2 yL ah []->kF Tryz.prog 71 [yL] ah λg fi ca m'=>∃(xs:List (List Value)),IX Tryz.prog g fi ca m' xs/\(∀(x:List Value),x∈xs->Shape.fitsL [Shape.agg
 [Shape.int u8,Shape.str,Shape.slice,Shape.int u8,Shape.any,Shape.str,Shape.int i64,Shape.slice]] x=true)/\∃(I:IT),I [] [[int i64 (-1:Int)]] [] m' 0/\(∀(n:Int)(s:ByteArray)(a:Option Addr) (ai c
 : Nat) (a4:Int) (v:Value) (a5:ByteArray) (a6:Int) (a7:Option Addr) (a8 a9:Nat) (cs:List Value) (aa:Mem) (aj:Nat),lV [int u8 a4,v,string a5,int i64 a6,slice a7 a8 a9] λxL=>lV (int u8 n ::
 string s::slice a ai c::xL) λam=>m'.le aa->List.get?Internal xs aj=some [agg (Array.mk am)]->I [] [cs] [] aa aj->∀(b:Nat),lE (some (Box.mk b am 54 8 false true)::al) λac=>chk (v.oneCell'&&true) (∃(J:JT),br (n == (3:Int)) (∃(f:Fx),Eng.Zsd cs 0 λv=>∃(R:RT),R=f 3 [agg (Array.mk xL)] aa/\CX Tryz.prog 76 (Array.mk [agg (Array.mk xL)]) aa [] R/\Zbq (Shape.int i64) R/\∀(n:Int)
 (m':Mem),aa.le m'->R (int i64 n) m' []->chk (Za8 i64 v&&decide (i64=i64)) (∀(M:Mem),aa.le M->m'.le M->Zac ac/\J [] [[int i64 (if n > RowKit.intOf v then n else RowKit.intOf v)]] [] M))
 (Zac ac/\J [] [cs] [] aa)/\∀(cs:List Value)(m':Mem),aa.le m'->J [] [cs] [] m'->∃(ad:IT),inI ad [int i64 0] [cs] [] m'/\∀(n:Int)(cs:List Value)(ab:Mem)(af:Nat),lV [int i64
 (i64.wrap (n+(1:Int)))] λxL=>m'.le ab->ad [int i64 n] [cs] [] ab af->br (decide (n < (↑ai:Int))) (atA a λb o=>Zae n ai/\∃v an ae ao ap aq ar au:Value,lV [ao,ap,aq,ar,au] λak=>lE (Za8 u8 v&&decide (u8=u8)) λyL=>ab.reads b (o+Int.toNat n*8) (v::an::ae::ak)/\∀(b:Nat),chk
 (v.oneCell'&&(an.oneCell'&&(ae.oneCell'&&(ao.oneCell'&&(ap.oneCell'&&(aq.oneCell'&&(ar.oneCell'&&(au.oneCell'&&true)))))))) (chk yL (br (RowKit.intOf v ==
 (3:Int)) (Eng.Zsd cs 0 λv=>chk (Za8 i64 v&&Za8 i64 ae) (Zac ac/\nxI af ad xL [[int i64 (if RowKit.intOf ae > RowKit.intOf v then RowKit.intOf ae else RowKit.intOf v)]] [] ab)) (chk yL (br (RowKit.intOf
 v == (4:Int)) (∃(f:Fx),Eng.Zsd cs 0 λv=>∃(R:RT),R=f 3 [agg (Array.mk ak)] ab/\CX Tryz.prog 76 (Array.mk [agg (Array.mk ak)]) ab [] R/\Zbq (Shape.int i64) R/\∀(n:Int)(m':Mem),ab.le m'->R
 (int i64 n) m' []->chk (Za8 i64 v&&decide (i64=i64)) (∀(M:Mem),ab.le M->m'.le M->Zac ac/\nxI af ad xL [[int i64 (if n > RowKit.intOf v then n else RowKit.intOf v)]] [] M)) (Zac ac/\nxI af ad
 xL [cs] [] ab)))))) (Zac al/\I [] [cs] [] ab (aj+1))))/\∀(cs:List Value)(aa:Mem),m'.le aa->I [] [cs] [] aa (xs.length)->Eng.Zsd cs 0 λv=>rtM m aa R v)):CX Tryz.prog 30 #[.agg #[.int .u8 aA,.bool aD,.bool aF,.int .u8 aE,.int .u64 aY,.int .u64 aZ,.int .u64 bA,.int .u64 dy,.int .i64 dz,.int .i64 dA,.slice bM bN bO,.string cK,.int .i64 cL,.slice bP bQ bT,.string cM,.int .i64 cN]] m [] R:=
 Zad (E:=ZoW) Zap mix Tryz.func30 (by kernel_rfl) (Eq.mp (by kernel_rfl) h)
def ZcP:Env:={ EB with
 loops:=(λi=>bif Nat.beq i 4 then⟨[(13,.int .i64)],[],[],false⟩ else⟨[],[],[],false⟩)
 dr:=(λi=>bif Nat.beq i 6 then[⟨0,[],[],none,[],[]⟩,⟨1,[],[],none,[],[]⟩,⟨2,[],[],none,[0,1],[]⟩,⟨3,[],[],none,[0,1,2],[]⟩,⟨4,[],[],none,[],[]⟩,⟨5,[],[],none,[],[]⟩,⟨6,[],[],none,[4,5],[]⟩,⟨7,[],[],none,[4,5,6],[]⟩,⟨8,[],[],none,[0,1,2,3,4,5,6,7],[]⟩]else[]) }
theorem ZcM(p0a:Option Addr)(p0n p0c:Nat)(p1a:Option Addr)(p1n p1c:Nat)(m:Mem)(R:RT)(h:
 br (!(↑p0n:Int) == (↑p1n:Int)) (rtM m m R (bool false)) (∃(I:IT),inI I [int i64 0] [] [] m/\∀(n:Int)(m':Mem)(n_1:Nat),m.le m'->I [int i64 n] [] [] m' n_1->br (decide (n < (↑p0n:Int))) (atA p0a
 λb o=>Zae n p0n/\∃(v:Value),m' b (o+Int.toNat n*1)=some v/\atA p1a λb o=>Zae n p1n/\∃(v_1:Value),m' b (o+Int.toNat n*1)=some v_1/\chk (Za8 i64 v&&Za8 i64 v_1) (br
 (!RowKit.intOf v == RowKit.intOf v_1) (rtM m m' R (bool false)) (nxI n_1 I [int i64 (i64.wrap (n+(1:Int)))] [] [] m'))) (rtM m m' R (bool true)))):CX Tryz.prog 38 #[.slice p0a p0n p0c,.slice p1a p1n p1c] m [] R:=
 Zad (E:=ZcP) Zap mix Tryz.func38 (by kernel_rfl) (Eq.mp (by kernel_rfl) h)
def ZbY:Env:={ EB with
 loops:=(λi=>bif Nat.beq i 4 then⟨[(13,.int .i64)],[],[],false⟩ else⟨[],[],[],false⟩)
 dr:=(λi=>bif Nat.beq i 6 then[⟨0,[],[],none,[],[]⟩,⟨1,[],[],none,[],[]⟩,⟨2,[],[],none,[0,1],[]⟩,⟨3,[],[],none,[0,1,2],[]⟩,⟨4,[],[],none,[],[]⟩,⟨5,[],[],none,[],[]⟩,⟨6,[],[],none,[4,5],[]⟩,⟨7,[],[],none,[4,5,6],[]⟩,⟨8,[],[],none,[0,1,2,3,4,5,6,7],[]⟩]else[]) }
theorem ZbS(p0a:Option Addr)(p0n p0c:Nat)(p1a:Option Addr)(p1n p1c:Nat)(m:Mem)(R:RT)(h:
 br (!(↑p0n:Int) == (↑p1n:Int)) (rtM m m R (bool false)) (∃(I:IT),inI I [int i64 0] [] [] m/\∀(n:Int)(m':Mem)(n_1:Nat),m.le m'->I [int i64 n] [] [] m' n_1->br (decide (n < (↑p0n:Int))) (atA p0a
 λb o=>Zae n p0n/\∃(v:Value),m' b (o+Int.toNat n*1)=some v/\atA p1a λb o=>Zae n p1n/\∃(v_1:Value),m' b (o+Int.toNat n*1)=some v_1/\chk (Zh0 v&&Zh0 v_1) (br
 (!ByteArray.toList (Zcb v) == ByteArray.toList (Zcb v_1)) (rtM m m' R (bool false)) (nxI n_1 I [int i64 (i64.wrap (n+(1:Int)))] [] [] m'))) (rtM m m' R (bool true)))):CX Tryz.prog 42 #[.slice p0a p0n p0c,.slice p1a p1n p1c] m [] R:=
 Zad (E:=ZbY) Zap mix Tryz.func42 (by kernel_rfl) (Eq.mp (by kernel_rfl) h)
end Go.Proofs.YtpjepnkiiojgfaaGreat
namespace Go.Proofs.YtpjepnkiiojgfaaGreat
open Go Go.Eng Go.Rx Go.Proofs Go.RowKit
set_option maxRecDepth 100000
def iC(z:Int):List Value:=[.int .i64 z]
theorem ZxL(z:Int):(iC z).length=1:=rfl
theorem ZxM(z:Int):∀u∈iC z,u.oneCell'=true:=λu hu=>by
 obtain rfl:u=.int .i64 z:=by simpa[iC]using hu
 rfl
theorem Zqi:∀l:List Int,(l.map iC).flatten=ZdU l
 | []=>rfl
 | z::l=>by
  have:=Zqi l
  simp only[List.map_cons,List.flatten_cons,this];rfl
theorem ZyY(a b:ByteArray):(a == b)=decide (a=b):=by
 rw[Bool.eq_iff_iff,decide_eq_true_eq]
 cases a with|mk x=>cases b with|mk y=>
 show(x == y)=true↔_
 rw[beq_iff_eq,ByteArray.mk.injEq]
theorem Zuo(a b:ByteArray):EqIs Tryz.prog 9 (.string a) (.string b) (decide (a=b)):=by
 rw[<-ZyY]
 exact Ztd Tryz.underlying9 (by simp[Instr.sameNow]) (λop ox oy w=>by cases op <;> simp[eqGuard])
abbrev gN(k:Nat):Value:=.int .i64 k
def ZuS(m:Mem)(bm:Nat)(L:List Sta)(i:Nat):Prop:=m.k bm=some (Zyi Value.string gN (ZcI L i))
theorem ZnG{m:Mem}{bm:Nat}{L:List Sta}{i:Nat}(hm:ZuS m bm L i)(n:ByteArray):∃r:Option Nat,LookIs Tryz.prog 9 (.string n) (Zyi Value.string gN (ZcI L i)) (.int .i64 0) ((r.map gN).getD (.int .i64 0)) r.isSome/\(∀k,r=some k->(n,k)∈ZcI L i)/\(r=none->n ∉ (ZcI L i).map (·.1)):=by
 by_cases h:n∈(ZcI L i).map (·.1)
 ·obtain⟨q,hq,gF⟩:=List.mem_map.1 h
  obtain⟨n',k⟩:=q
  obtain rfl:n'=n:=gF
  exact⟨some k,⟨some (gN k),ZsL Zuo n' k _ hq (Zj1 L i),rfl,rfl⟩,(λk' e=>by cases e;exact hq),λe=>by cases e⟩
 ·exact⟨none,⟨none,ZpP Zuo n _ h,rfl,rfl⟩,(λk' e=>by cases e),λ_=>h⟩
theorem Zup{L:List Sta}{n:ByteArray}{r:Option Nat}(h1:∀k,r=some k->(n,k)∈ZcI L L.length)(h2:r=none->n ∉ (ZcI L L.length).map (·.1)):goI L n=r:=by
 cases r with
 | some k=>exact ZlE.2 (h1 k rfl)
 | none=>
  cases e:goI L n with
  | none=>rfl
  | some k=>exact absurd (List.mem_map.2 ⟨_,ZlE.1 e,rfl⟩) (h2 rfl)
structure Il where
 a:Option Addr
 c:Nat
 l:List Int
def Il.cs(y:Il):List Value:=[.slice y.a y.l.length y.c]
theorem Il.len(y:Il):y.cs.length=1:=rfl
theorem Il.one(y:Il):∀u∈y.cs,u.oneCell'=true:=λu hu=>by
 obtain rfl:u=_:=by simpa[Il.cs]using hu
 rfl
def QT(L:List Sta)(x:Sta)(y:Il)(μ:Mem):Prop:=y.l=ZwE L x/\rowRd μ y.a (ZdU y.l)
def TgI(L:List Sta)(m:Mem)(x:Sta):Value->Mem->List (List Value)->Prop:=λv m' _=>∃y:Il,v=.slice y.a y.l.length y.c/\QT L x y (nw m m')
theorem ZnH(L:List Sta)(x:Sta)(m:Mem)(c0b bm:Nat)(hx:RepS m x)(hc:m.reads c0b 0 [.map (some bm)])(hk:ZuS m bm L L.length):
  CX Tryz.prog 78 #[.agg x.cs.toArray,.pointer (some ⟨c0b,0,none⟩)] m [] (TgI L m x):=by
 have iO:x.rules.length<=100000:=hx.len
 apply ZfJ (c0b:=c0b) (c0o:=0)
 intro b m1 aG jF fL wF
 refine⟨λxs css tvs mm q=>∃(i:Nat)(a:Option Addr)(c:Nat),i<=x.rules.length/\xs=[.slice a (ZkF L (x.rules.take i)).length c,.int .i64 i]/\tvs=[.slice a (ZkF L (x.rules.take i)).length c]/\m1.le mm/\rowRd mm a (ZdU (ZkF L (x.rules.take i)))/\(∀b',Yi (.slice a (ZkF L (x.rules.take i)).length c) b'->m1.free b'/\m1.k b'=none)/\q=x.rules.length - i,⟨_,0,none,0,by omega,rfl,rfl,Mem.le_refl _,.inl rfl,(λb' h=>by simp[Yi,Tok.blk]at h),rfl⟩,?_⟩
 rintro a n c z a2 n2 c2 mm q _ ⟨i,a',c',hi,cI,cG,hM,aB,bJ,rfl⟩
 simp only[List.cons.injEq,Value.slice.injEq,Value.int.injEq,true_and,and_true]at cI cG
 obtain⟨⟨rfl,rfl,rfl⟩,rfl⟩:=cI
 obtain⟨rfl,rfl,rfl⟩:=cG
 have aH:=ZvL L (x.rules.take i)
 rw[List.length_take]at aH
 have iK:IntKind.i64.wrap ((i:Int)+1)=((i+1:Nat):Int):=by rw[Zak (by omega) (by omega)];rfl
 have kH:=mLt aG hM
 refine ZaE (λaC=>?_) (λbG=>?_)
 ·have aC:(i:Int) < (x.rules.length:Nat):=aC
  obtain⟨r,hr⟩:=Zdh (show i < x.rules.length by omega)
  obtain⟨b2,o2,fX,io⟩:=Zam Ru.len (hx.mono kH).row hr (by omega)
  have cA:=ZtO (L:=L) hr
  obtain⟨ro,su,iz,jl⟩:=ZnG (m:=m) hk r.go
  have sw:=Zup iz jl
  refine⟨b2,o2,fX,⟨by omega,aC⟩,_,_,_,_,_,_,_,_,_,_,_,_,_,_,_,_,io,λb3=>Zaa rfl ⟨_,(hc.mono kH) 0 _ rfl,bm,_,_,_,rfl,kH.k _ _ hk,Zib Tryz.underlying9 _,su,?_⟩⟩
  have iL:ZwD L r=none->nxI (x.rules.length - i) (λxs css tvs mm q=>∃(i:Nat)(a:Option Addr)(c:Nat),i<=x.rules.length/\xs=[.slice a (ZkF L (x.rules.take i)).length c,.int .i64 i]/\tvs=[.slice a (ZkF L (x.rules.take i)).length c]/\m1.le mm/\rowRd mm a (ZdU (ZkF L (x.rules.take i)))/\(∀b',Yi (.slice a (ZkF L (x.rules.take i)).length c) b'->m1.free b'/\m1.k b'=none)/\q=x.rules.length - i) [.slice a2 (ZkF L (x.rules.take i)).length c2,.int .i64 (IntKind.i64.wrap ((i:Int)+1))] [] [.slice a2 (ZkF L (x.rules.take i)).length c2] mm:=λhe=>by
   rw[he,Option.toList_none,List.append_nil]at cA
   exact⟨x.rules.length - (i+1),by omega,i+1,a2,c2,by omega,by rw[iK,cA],by rw[cA],hM,by rw[cA];exact aB,by rw[cA];exact bJ,rfl⟩
  cases ro with
  | none=>
   have ht:ZwD L r=none:=by unfold ZwD;rw[sw];split <;> rfl
   exact⟨false,Zp3 rfl ⟨rfl,rfl,rfl⟩,Zp3 rfl ⟨rfl,iL ht⟩⟩
  | some k=>
   by_cases hz:r.go.size=0
   ·have ht:ZwD L r=none:=by unfold ZwD;rw[if_pos hz]
    refine⟨false,ZrF rfl (Zaa rfl ⟨rfl,rfl,?_⟩),Zp3 rfl ⟨rfl,iL ht⟩⟩
    show[Value.bool (!(r.go.toList == ByteArray.toList ⟨#[]⟩))]=_
    rw[Zvw,hz];rfl
   ·have ht:ZwD L r=some (k:Int):=by unfold ZwD;rw[if_neg hz,sw];rfl
    have na:=Zxw sw
    refine⟨true,ZrF rfl (Zaa rfl ⟨rfl,rfl,?_⟩),ZrF rfl (Zaa rfl λb4 fw=>?_)⟩
    ·show[Value.bool (!(r.go.toList == ByteArray.toList ⟨#[]⟩))]=_
     rw[Zvw,show(r.go.size == 0)=false by simpa using hz];rfl
    rw[ht,Option.toList_some]at cA
    refine ZcL ZxL ZxM (ts:=ZkF L (x.rules.take i)) fw (k:Int) (by rw[Zqi];exact aB) 8 (by omega) (by omega) (.inl rfl) λa5 c5 m5 cF bI iV=>?_
    have sx:=mLt (Mem.le_add fw _) cF
    refine⟨rfl,x.rules.length - (i+1),by omega,i+1,a5,c5,by omega,by rw[iK,cA,zA1];rfl,by rw[cA,zA1];rfl,mLt hM sx,by rw[cA,<-Zqi];exact bI,λb' hb'=>?_,rfl⟩
    rcases iV.2 with h|⟨bb,oo,ha',h⟩
    ·rw[h]at hb';simp[Yi,Tok.blk]at hb'
    ·subst ha'
     obtain rfl:bb=b':=by simpa[Yi,Tok.blk]using hb'
     rcases h with h|⟨_,h2,h3⟩
     ·exact bJ _ (by rw[h];simp[Yi,Tok.blk])
     ·have uc:=mLt hM (Mem.le_add fw (iC k))
      exact⟨ZbH uc h2,Zgg uc h3⟩
 ·have bG:¬(i:Int) < (x.rules.length:Nat):=bG
  have hi:i=x.rules.length:=by omega
  subst hi
  rw[List.take_length]at aB bJ aH ⊢
  have eG:=Zm3 (ZkF L x.rules)
  have sy:∀b',Yi (.slice a2 (ZkF L x.rules).length c2) b'->m.free b'/\m.k b'=none:=λb' h=>⟨ZbH aG (bJ b' h).1,Zgg aG (bJ b' h).2⟩
  refine⟨_,_,ZkT (ZkF L x.rules) a2 c2 mm aB (by omega),(λt ht bb dS=>by
   obtain rfl:t=_:=by simpa using ht
   exact dS),(λbb dS=>.inl ⟨_,by simp,dS⟩),(λv _ _ _ h=>by rw[h.1];rfl),?_⟩
  rintro m2 aJ _ a3 c3 d3 ⟨_,_,cG,dt⟩
  simp only[List.cons.injEq,Value.slice.injEq,and_true]at cG
  obtain⟨rfl,rfl,rfl⟩:=cG
  have ud:=Zgn (ZpQ (ZkF L x.rules)) a3 d3 m2 dt (by omega)
  rw[eG]at ud
  refine⟨_,_,ud,(λt ht bb dS=>by
   obtain rfl:t=_:=by simpa using ht
   exact dS),(λbb dS=>.inl ⟨_,by simp,dS⟩),(λv _ _ _ h=>by rw[h.1];rfl),?_⟩
  rintro a4 n4 c4 m3 aQ _ a6 c6 d6 ⟨hv,_,_,fI⟩
  simp only[Value.slice.injEq]at hv
  obtain⟨rfl,rfl,rfl⟩:=hv
  have fq:m.le m2:=mLt (ZmT kH sy) aJ
  have gz:m.le m3:=mLt (ZmT fq sy) aQ
  refine ZaH gz ⟨⟨a4,c4,ZwE L x⟩,rfl,rfl,ZlA ?_ ?_⟩
  ·rcases fI with h|⟨b5,o5,mO,h⟩
   ·refine .inl ?_
    unfold ZdU at h ⊢
    rw[List.map_append]at h
    exact(List.append_eq_nil_iff.1 h).1
   ·refine .inr ⟨b5,o5,mO,λj v hj=>h j v ?_⟩
    have hj:(ZdU (Go.Lib.compact (ZpQ (ZkF L x.rules))))[j]?=some v:=hj
    unfold ZdU at hj ⊢
    rw[List.map_append,zA5 (zA0 hj).1]
    exact hj
  ·refine .inr λb o e=>(sy b ?_).1
   have e:a4=some ⟨b,o,none⟩:=e
   rw[e];simp[Yi,Tok.blk]
theorem Zuq(cb:Nat)(ca:List Value)(Q:Sta->Il->Mem->Prop)(L:List Sta)(a:Option Addr)(d:Nat)(m:Mem)(aB:rowRd m a (L.map Sta.cs).flatten)(hl:L.length<=few)(iX:∀x∈L,∀m2,m.le m2->CX Tryz.prog cb (Array.mk (.agg x.cs.toArray::ca)) m2 [] (λv m3 _=>∃y:Il,v=.slice y.a y.l.length y.c/\Q x y (nw m2 m3))):
  CX Tryz.prog 77 #[.slice a L.length d,.func (.func cb) #[] (Array.mk ca)] m [] (ZpJ Il.cs Q m L):=by
 have hl:L.length<=100000:=hl
 apply Zcf (p1fi:=[]) (p1ca:=ca)
 refine⟨λxs css tvs m' q=>∃(k:Nat)(a':Option Addr)(c':Nat)(L':List Il)(μ:Nat->Mem),k<=L.length/\q=L.length - k/\xs=[.slice a' L'.length c',.int .i64 k]/\tvs=[.slice a' L'.length c']/\Each Il.cs Q m m' (L.take k) a' c' L' μ,⟨_,0,none,0,[],_,by omega,rfl,rfl,rfl,Each.nil m⟩,?_⟩
 rintro a1 n1 c1 z a2 n2 c2 m2 q _ ⟨k,a',c',L',μ,hk,hq,cI,cG,hE⟩
 simp only[List.cons.injEq,Value.slice.injEq,Value.int.injEq,true_and,and_true]at cI cG
 obtain⟨⟨rfl,rfl,rfl⟩,rfl⟩:=cI
 obtain⟨rfl,rfl,rfl⟩:=cG
 have iH:L'.length=k:=by rw[hE.len,List.length_take];omega
 refine Zab (λaC=>?_) (λbG=>?_)
 ·have aI:k < L.length:=by have:=zA6 aC;omega
  obtain⟨x,hx⟩:=Zat aI
  obtain⟨b,o,ha,cD⟩:=Zam Sta.len aB hx (by omega)
  have hw:IntKind.i64.wrap ((k:Int)+1)=((k+1:Nat):Int):=by rw[Zak (by omega) (by omega)];rfl
  refine⟨b,o,ha,⟨by omega,by omega⟩,_,_,cD.mono hE.le,λb3=>Zaa rfl ⟨_,trivial,iX x (zA2 hx) m2 hE.le,(λv _ _ ⟨y,h,_⟩=>by rw[h];rfl),?_⟩⟩
  rintro ya yn yc m3 aQ ⟨y,hv,hQ⟩ b4 fw
  simp only[Value.slice.injEq]at hv
  obtain⟨rfl,rfl,rfl⟩:=hv
  refine ZcL Il.len Il.one fw y (hE.row.mono aQ) 24 (by omega) (by omega) (.inl rfl) λa5 c5 m5 cF bI aN=>?_
  have cA:=hE.step Il.len (by omega) hx aQ hQ fw cF bI aN
  exact⟨L.length - (k+1),by omega,k+1,a5,c5,L'++[y],_,by omega,rfl,by rw[hw,zA1];rfl,by rw[zA1];rfl,cA⟩
 ·have dp:k=L.length:=by have:=of_decide_eq_false bG;omega
  rw[dp,List.take_length]at hE
  exact⟨m2,hE.le,Mem.le_refl _,_,_,L',μ,rfl,hE⟩
def TgR(s:Sc):Value->Mem->List (List Value)->Prop:=λv m' _=>∃(a:Option Addr)(c:Nat)(L':List Il),v=.slice a L'.length c/\L'.map Il.l=(if s.light then s.states.map (ZwE s.states)else[])/\rowRd m' a (L'.map Il.cs).flatten/\∀y∈L',rowRd m' y.a (ZdU y.l)
theorem Zur{s}:∀(v:Value)(m':Mem) (css:List (List Value)),TgR s v m' css->Shape.fits .slice v=true:=λv _ _ ⟨_,_,_,h,_⟩=>by rw[h];rfl
theorem ZoX(s:Sc)(m:Mem)(hr:RepC m s):CX Tryz.prog 32 #[s.v] m [] (TgR s):=by
 have eG:s.states.length<=100000:=hr.len
 apply Zht
 intro b m1 aG _ fL _ _
 refine Zai (Zce s m1 (hr.mono aG)) λm2 aJ=>Zab (λh=>Zaf (mLt aG aJ) ?_) (λh=>?_)
 ·have hl:s.light=false:=by simpa using h
  exact⟨none,0,[],rfl,by rw[hl];rfl,.inl rfl,λy hy=>by cases hy⟩
 have hl:s.light=true:=by simpa using h
 have cV:=mLt aG aJ
 intro bm hf hk b1
 have gV:m.k bm=none:=Zgg cV hk
 refine⟨λxs _ _ mm q=>∃i:Nat,i<=s.states.length/\xs=[.int .i64 i]/\m2.le mm/\ZuS mm bm s.states i/\q=s.states.length - i,⟨_,0,by omega,rfl,Mem.le_updK (Mem.le_refl _) hk _,Mem.updK_same _ _ _,rfl⟩,?_⟩
 rintro z mm q _ ⟨i,hi,hz,hM,hE,rfl⟩
 obtain rfl:z=i:=by simpa using hz
 have iK:IntKind.i64.wrap ((i:Int)+1)=((i+1:Nat):Int):=by rw[Zak (by omega) (by omega)];rfl
 have kH:=mLt cV hM
 refine ZaE (λaC=>?_) (λbG=>?_)
 ·have aC:(i:Int) < (s.states.length:Nat):=aC
  obtain⟨x,hx⟩:=Zdh (show i < s.states.length by omega)
  obtain⟨b2,o2,fX,io⟩:=Zam Sta.len (hr.mono kH).row hx (by omega)
  obtain⟨ro,su,iz,jl⟩:=ZnG hE x.s
  have cA:=Zrs hx
  refine⟨b2,o2,fX,⟨by omega,aC⟩,_,_,io,λb3=>Zaa rfl ⟨bm,_,_,_,rfl,hE,Zib Tryz.underlying9 _,su,?_⟩⟩
  cases ro with
  | some k=>
   have eV:Zxv (ZcI s.states i) x.s=true:=Zfs.2 (List.mem_map.2 ⟨_,iz k rfl,rfl⟩)
   rw[if_pos eV]at cA
   exact Zp3 rfl ⟨rfl,s.states.length - (i+1),by omega,i+1,by omega,by rw[iK],hM,by unfold ZuS;rw[cA];exact hE,rfl⟩
  | none=>
   have oY:=jl rfl
   have eV:Zxv (ZcI s.states i) x.s=false:=by
    cases e:Zxv (ZcI s.states i) x.s with
    | false=>rfl
    | true=>exact absurd (Zfs.1 e) oY
   rw[eV,if_neg (by decide)]at cA
   exact ZrF rfl ⟨bm,_,_,rfl,hE,Zib Tryz.underlying9 _,ZsK (g:=gN) Zuo x.s i _ oY,gV,rfl,s.states.length - (i+1),by omega,i+1,by omega,by rw[iK],Mem.le_updK hM hk _,by unfold ZuS;rw[cA];exact Mem.updK_same _ _ _,rfl⟩
 ·have bG:¬(i:Int) < (s.states.length:Nat):=bG
  have hi:i=s.states.length:=by omega
  subst hi
  intro m3 aQ jB
  have dH:=mLt kH aQ
  have jV:=hr.mono dH
  refine Zan (Zuq 78 _ (QT s.states) s.states s.sa s.sc m3 jV.row hr.len λx hx m4 bZ=>?_) ZeQ ?_
  ·exact ZnH s.states x m4 b1 bm ((jV.all x hx).mono bZ) (jB.mono bZ) (bZ.k _ _ (aQ.k _ _ hE))
  ·rintro a n c m5 cF ⟨a',c',L',μ,hv,sA⟩
   simp only[Value.slice.injEq]at hv
   obtain⟨rfl,rfl,rfl⟩:=hv
   refine ZaH (mLt dH cF) ⟨_,_,L',rfl,?_,sA.row,λy hy=>?_⟩
   ·rw[hl,if_pos rfl]
    exact sA.same λx y μ hq=>hq.1
   ·obtain⟨i,x,_,_,hq,hs⟩:=sA.at hy
    exact hq.2.mono (mLt hs (Zln _ _))
end Go.Proofs.YtpjepnkiiojgfaaGreat
end
