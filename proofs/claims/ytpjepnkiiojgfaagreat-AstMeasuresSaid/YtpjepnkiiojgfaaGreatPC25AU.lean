/- Part of the proof: functions of the program. No condition. -/
import Derived.Test.YtpjepnkiiojgfaaGreatPC25E
import Derived.Test.YtpjepnkiiojgfaaGreatPC25MJ
import Derived.Test.YtpjepnkiiojgfaaGreatMr
import Derived.Test.YtpjepnkiiojgfaaGreatPEnv
import Derived.Test.YtpjepnkiiojgfaaGreatMc
import Derived.Test.YtpjepnkiiojgfaaGreatPVM
import Derived.Test.YtpjepnkiiojgfaaGreatPC25MA
set_option linter.unusedVariables false
set_option linter.unusedSimpArgs false
set_option linter.unusedSectionVars false
noncomputable section
namespace Go.Proofs.YtpjepnkiiojgfaaGreat
open Go Go.Eng Go.Rx Go.Proofs Go.RowKit
set_option maxRecDepth 100000
set_option maxHeartbeats 4000000 in
def CntW(b n p:Int):Prop:=0<=n/\n<=b/\(n=p\/(20000 < n/\20000 < p))
theorem CntW.out{b n p t:Int}(h:CntW b n p)(hn:n > 20000)(ht:p<=t):t > 20000:=by
 rcases h.2.2 with e|⟨_,e⟩ <;> omega
theorem CntW.eq{b n p:Int}(h:CntW b n p)(hn:¬n > 20000):n=p:=by
 rcases h.2.2 with e|⟨e,_⟩ <;> omega
theorem ZbW(s:Sc)(m:Mem)(hr:RepC m s):CX Tryz.prog 19 #[s.v] m [] (Ret (.bool s.light)):=by
 apply ZlF
 intro b m1 aE _
 have iJ:=hr.vlen
 have eW:=hr.len
 unfold few at iJ eW
 have dark:∀{M:Mem},m1.le M->s.weight > 20000->∀{n:Int},n > 20000->∃m'':Mem,m.le m''/\m''.le M/\Ret (.bool s.light) (.bool (decide (n<=20000))) m'' []:=λ{M} hM hw {n} hn=>Zaf (mLt aE hM) (by
  show Value.bool _=Value.bool s.light
  unfold Sc.light
  rw[decide_eq_false (by omega),decide_eq_false (by omega)])
 generalize hV:((s.vars.length:Int)+s.states.length)=V0
 have ub:0<=V0/\V0<=200000:=by omega
 rw[Zal (by omega) (by omega)]
 have jC:s.weight=V0+Zaw (s.states.map wS):=by unfold Sc.weight;omega
 refine⟨λxs _ _ m' q=>∃(i:Nat)(n:Int),i<=s.states.length/\xs=[.int .i64 n,.int .i64 i]/\CntW 300000 n (V0+Zaw ((s.states.take i).map wS))/\q=s.states.length - i,⟨_,0,V0,by omega,rfl,⟨by omega,by omega,.inl (by simp[Zaw])⟩,rfl⟩,?_⟩
 rintro n k0 m2 q aI ⟨i,n',hi,hx,hC,hq⟩
 simp only[List.cons.injEq,Value.int.injEq,and_true,true_and]at hx
 obtain⟨rfl,rfl⟩:=hx
 subst hq
 have ip:IntKind.i64.wrap ((i:Int)+1)=((i+1:Nat):Int):=by rw[Zal (by omega) (by omega)];rfl
 simp only[ip,zA8]
 refine ZaA (λaC=>?_) (λbJ=>?_)
 ·have aK:i < s.states.length:=by omega
  obtain⟨x,hx⟩:=Zdz aK
  have mI:=zA2 hx
  obtain⟨b1,o1,ha,eR⟩:=Zaj Sta.len ((hr.mono (mLt aE aI)).row) hx (by omega)
  have dB:=hr.all x mI
  have iS:=dB.len
  unfold few at iS
  refine⟨b1,o1,ha,⟨by omega,by omega⟩,_,_,eR,λb2=>Zaa rfl (Zaa rfl ?_)⟩
  generalize nH:V0+Zaw ((s.states.take i).map wS)=P0 at hC
  have vQ:V0+Zaw ((s.states.take (i+1)).map wS)=P0+wS x:=by rw[Zfz wS hx];omega
  have xU:P0+wS x<=s.weight:=by rw[<-vQ,jC];have:=ZfA wS Zx2 s.states (i+1);omega
  refine⟨λxs _ _ m' q=>∃(k:Nat)(n:Int),k<=x.rules.length/\xs=[.int .i64 n,.int .i64 k]/\CntW 300000 n (P0+Zaw ((x.rules.take k).map wR))/\q=x.rules.length - k,⟨_,0,n,by omega,rfl,by simpa[Zaw]using hC,rfl⟩,?_⟩
  rintro n1 k1 m3 q aP ⟨k,n1',hk,gC,mJ,hq⟩
  simp only[List.cons.injEq,Value.int.injEq,and_true,true_and]at gC
  obtain⟨rfl,rfl⟩:=gC
  subst hq
  have gM:IntKind.i64.wrap ((k:Int)+1)=((k+1:Nat):Int):=by rw[Zal (by omega) (by omega)];rfl
  simp only[gM,zA8]
  have dG:m.le m3:=mLt aE (mLt aI aP)
  refine ZaA (λdX=>?_) (λeE=>?_)
  ·have kC:k < x.rules.length:=by have:(k:Int) < (x.rules.length:Int):=dX;omega
   obtain⟨r,iN⟩:=Zdz kC
   have vP:=zA2 iN
   have gD:=dB.all r vP
   obtain⟨b3,o3,fF,lQ⟩:=Zaj Ru.len ((dB.row).mono dG) iN (by omega)
   have pi:=gD.len
   unfold few at pi
   generalize zf:P0+Zaw ((x.rules.take k).map wR)=P1 at mJ
   have qu:P0+Zaw ((x.rules.take (k+1)).map wR)=P1+wR r:=by rw[Zfz wR iN];omega
   have xV:P1+wR r<=s.weight:=by
    rw[<-qu]
    have:=ZfA wR Zwk x.rules (k+1)
    unfold wS at xU
    omega
   refine Zaa rfl ⟨b3,o3,fF,⟨by omega,by show(k:Int) < (x.rules.length:Int);omega⟩,_,_,_,_,_,_,_,_,_,_,_,_,_,_,_,_,lQ,λb4=>Zaa rfl ?_⟩
   have bI:=ZfC r.t
   refine ZcH (ZtO r.t m3 (gD.t.mono dG)) λm4 bU=>?_
   have jA:(if(20000:Int) < r.t.size then(20000:Int)else r.t.size)=Zga r.t.size 20000:=rfl
   have eT:0<=Zga r.t.size 20000/\Zga r.t.size 20000<=20000:=by unfold Zga;split <;> omega
   rw[jA]
   have zg:=mJ.1
   have zh:=mJ.2.1
   refine⟨λxs _ _ m'=>∃n:Int,xs=[.int .i64 n]/\CntW 330000 n (P1+1+Zga r.t.size 20000+(if r.t.light then 0 else 20001)),?_,?_⟩
   ·refine Zag (Zho r.t m4 (gD.t.mono (mLt dG bU))) λm5 cC=>Zab (λh=>⟨by trivial,20001,rfl,?_⟩) (λh=>⟨by trivial,_,rfl,?_⟩)
    ·have hl:r.t.light=false:=by simpa using h
     rw[hl,if_neg (by decide)]
     have hp:0<=P1:=by rcases mJ.2.2 with e|⟨_,e⟩ <;> omega
     exact⟨by omega,by omega,.inr ⟨by omega,by omega⟩⟩
    ·have hl:r.t.light=true:=by simpa using h
     rw[hl,if_pos rfl,Zal (n:=1+Zga r.t.size 20000) (by omega) (by omega),Zal (by omega) (by omega)]
     refine⟨by omega,by omega,?_⟩
     rcases mJ.2.2 with e|⟨e1,e2⟩
     ·left;omega
     ·right;omega
   ·rintro n2 m5 cC ⟨n2',nB,tR⟩
    obtain rfl:n2=n2':=by simpa using nB
    generalize xW:P1+1+Zga r.t.size 20000+(if r.t.light then 0 else 20001)=P2 at tR
    have gO:wR r=(P2 - P1)+Zaw (r.acts.map wA):=by unfold wR;rw[<-xW];omega
    have gn:m.le m5:=mLt dG (mLt bU cC)
    refine Zaa rfl ⟨λxs _ _ m' q=>∃(j:Nat)(n:Int),j<=r.acts.length/\xs=[.int .i64 n,.int .i64 j]/\CntW (330000+j*200000) n (P2+Zaw ((r.acts.take j).map wA))/\q=r.acts.length - j,⟨_,0,n2,by omega,rfl,by simpa[Zaw]using tR,rfl⟩,?_⟩
    rintro n3 k3 m6 q eS ⟨j,n3',hj,qv,mT,hq⟩
    simp only[List.cons.injEq,Value.int.injEq,and_true,true_and]at qv
    obtain⟨rfl,rfl⟩:=qv
    subst hq
    have xX:IntKind.i64.wrap ((j:Int)+1)=((j+1:Nat):Int):=by rw[Zal (by omega) (by omega)];rfl
    simp only[xX,zA8]
    have gi:=mLt gn eS
    have fN:=mT.1
    have vI:=mT.2.1
    refine ZaA (λgW=>?_) (λgB=>?_)
    ·have qw:j < r.acts.length:=by have:(j:Int) < (r.acts.length:Int):=gW;omega
     obtain⟨a,oz⟩:=Zdz qw
     have iU:=gD.all a (zA2 oz)
     obtain⟨b5,o5,oA,xY⟩:=Zaj Ac.len ((gD.row).mono gi) oz (by omega)
     have jP:=iU.n
     unfold few at jP
     have zi:=ZfB a.e
     generalize zj:P2+Zaw ((r.acts.take j).map wA)=P3 at mT
     have uc:P2+Zaw ((r.acts.take (j+1)).map wA)=P3+wA a:=by rw[Zfz wA oz];omega
     have xZ:P3+wA a<=s.weight:=by
      have:=ZfA wA Zqo r.acts (j+1)
      omega
     refine Zaa rfl ⟨b5,o5,oA,⟨by omega,by show(j:Int) < (r.acts.length:Int);omega⟩,_,_,_,_,_,_,_,_,xY,λb6=>Zaa rfl ?_⟩
     refine⟨λ_ _ _=>Ret (.int .i64 (nE a.e)),_,rfl,Zoj a.e m6 (RepE.mono' iU.e gi),λv _ _ e=>by rw[show v=_ from e];rfl,λn8 m7 fG jT=>Zaa rfl λM fP fD=>Zaa rfl ?_⟩
     obtain rfl:n8=nE a.e:=by cases jT;rfl
     have ud:slN (Value.slice a.pa a.parts.length a.pc)=a.parts.length:=rfl
     rw[ud,Zal (n:=1+nE a.e) (by omega) (by omega),Zal (n:=1+nE a.e+(a.parts.length:Int)) (by omega) (by omega),Zal (by omega) (by omega)]
     have x4:wA a=(1+nE a.e+a.parts.length)+Zaw (a.parts.map λp=>nE p.e):=by unfold wA;omega
     have iV:=mLt gi fP
     refine⟨λxs _ _ m' q=>∃(w:Nat)(n:Int),w<=a.parts.length/\xs=[.int .i64 n,.int .i64 w]/\CntW (330000+(j+1)*200000) n (P3+(1+nE a.e+a.parts.length)+Zaw ((a.parts.take w).map λp=>nE p.e))/\q=a.parts.length - w,⟨_,0,_,by omega,rfl,⟨by omega,by omega,?_⟩,rfl⟩,?_⟩
     ·simp only[List.take_zero,List.map_nil,Zaw]
      rcases mT.2.2 with e|⟨e1,e2⟩
      ·left;omega
      ·right;omega
     rintro n4 k4 m8 q fh ⟨w,n4',hw,ow,oB,hq⟩
     simp only[List.cons.injEq,Value.int.injEq,and_true,true_and]at ow
     obtain⟨rfl,rfl⟩:=ow
     subst hq
     have t7:IntKind.i64.wrap ((w:Int)+1)=((w+1:Nat):Int):=by rw[Zal (by omega) (by omega)];rfl
     simp only[t7,zA8]
     have rP:=mLt iV fh
     have rQ:m1.le m8:=mLt aI (mLt aP (mLt bU (mLt cC (mLt eS (mLt fP fh)))))
     have pg:=oB.1
     have qx:=oB.2.1
     refine ZaA (λlS=>?_) (λlT=>?_)
     ·have qy:w < a.parts.length:=by have:(w:Int) < (a.parts.length:Int):=lS;omega
      obtain⟨p,jh⟩:=Zdz qy
      have gG:=iU.all p (zA2 jh)
      obtain⟨b7,o7,ue,x5⟩:=Zaj Pt.len ((iU.row).mono rP) jh (by omega)
      have zk:=ZfB p.e
      have cB:=Zfz (λp:Pt=>nE p.e) jh
      have x6:=ZfA (λp:Pt=>nE p.e) (λp=>(ZfB p.e).1) a.parts w
      refine Zaa rfl ⟨b7,o7,ue,⟨by omega,by show(w:Int) < (a.parts.length:Int);omega⟩,_,_,_,_,_,_,_,_,x5,λb8=>Zaa rfl (ZaA (λhd=>dark rQ (oB.out hd (by omega)) hd) (λhd=>?_))⟩
      refine ZcH (Zoj p.e m8 (RepE.mono' gG.e rP)) λm9 iz=>⟨by trivial,a.parts.length - (w+1),by omega,w+1,_,by omega,rfl,?_,rfl⟩
      have he:=oB.eq hd
      rw[Zal (by omega) (by omega),cB]
      exact⟨by omega,by omega,.inl (by omega)⟩
     ·have hw':w=a.parts.length:=by have:¬(w:Int) < (a.parts.length:Int):=lT;omega
      subst hw'
      rw[List.take_length]at oB
      refine⟨by trivial,r.acts.length - (j+1),by omega,j+1,n4,by omega,rfl,?_,rfl⟩
      rw[uc,x4]
      exact⟨oB.1,by push_cast;omega,by rcases oB.2.2 with e|e;left;omega;right;omega⟩
    ·have hj':j=r.acts.length:=by have:¬(j:Int) < (r.acts.length:Int):=gB;omega
     subst hj'
     rw[List.take_length]at mT
     have jH:m1.le m6:=mLt aI (mLt aP (mLt bU (mLt cC eS)))
     refine ZaA (λhd=>dark jH (mT.out hd (by omega)) hd) (λhd=>⟨by trivial,x.rules.length - (k+1),by omega,k+1,n3,by omega,rfl,?_,rfl⟩)
     rw[qu,gO]
     exact⟨mT.1,by omega,.inl (by have:=mT.eq hd;omega)⟩
  ·have hk':k=x.rules.length:=by have:¬(k:Int) < (x.rules.length:Int):=eE;omega
   subst hk'
   rw[List.take_length]at mJ
   refine⟨by trivial,s.states.length - (i+1),by omega,i+1,n1,by omega,rfl,?_,rfl⟩
   rw[vQ];exact mJ
 ·have hi':i=s.states.length:=by omega
  subst hi'
  rw[List.take_length,<-jC]at hC
  refine Zaf (mLt aE aI) ?_
  show Value.bool _=Value.bool s.light
  unfold Sc.light
  congr 1
  rw[decide_eq_decide]
  rcases hC.2.2 with e|⟨e1,e2⟩ <;> omega
theorem ZpE{x:List Value}{K:List Value->Prop}(h:∀y,K y):lV x K:=h x
theorem Zu9(cb:Nat)(Q:Pt->Pt->Mem->Prop)(L:List Pt)(a:Option Addr)(d:Nat)(m:Mem)(aB:rowRd m a (L.map Pt.cs).flatten)(hl:L.length<=few)(gX:∀x∈L,∀m2,m.le m2->CX Tryz.prog cb #[.agg x.cs.toArray] m2 [] (λv m3 _=>∃y:Pt,v=.agg y.cs.toArray/\Q x y (nw m2 m3))):
  CX Tryz.prog 91 #[.slice a L.length d,.func (.func cb) #[] #[]] m [] (ZqB Pt.cs Q m L):=by
 have hl:L.length<=100000:=hl
 apply ZbU (p1fi:=[]) (p1ca:=[])
 refine⟨λxs css tvs m' q=>∃(k:Nat)(a':Option Addr)(c':Nat)(L':List Pt)(μ:Nat->Mem),k<=L.length/\q=L.length - k/\xs=[.slice a' L'.length c',.int .i64 k]/\tvs=[.slice a' L'.length c']/\Each Pt.cs Q m m' (L.take k) a' c' L' μ,⟨_,0,none,0,[],_,by omega,rfl,rfl,rfl,Each.nil m⟩,?_⟩
 rintro a1 n1 c1 z a2 n2 c2 m2 q _ ⟨k,a',c',L',μ,hk,hq,cE,cD,hE⟩
 simp only[List.cons.injEq,Value.slice.injEq,Value.int.injEq,true_and,and_true]at cE cD
 obtain⟨⟨rfl,rfl,rfl⟩,rfl⟩:=cE
 obtain⟨rfl,rfl,rfl⟩:=cD
 have jr:L'.length=k:=by rw[hE.len,List.length_take];omega
 refine Zab (λaC=>?_) (λbJ=>?_)
 ·have aK:k < L.length:=by have:=zA6 aC;omega
  obtain⟨x,hx⟩:=Zaq aK
  obtain⟨b,o,ha,cF⟩:=Zaj Pt.len aB hx (by omega)
  have hw:IntKind.i64.wrap ((k:Int)+1)=((k+1:Nat):Int):=by rw[Zal (by omega) (by omega)];rfl
  refine⟨b,o,ha,⟨by omega,by omega⟩,_,_,_,_,_,_,_,_,cF.mono hE.le,λb3=>Zaa rfl ⟨_,trivial,gX x (zA2 hx) m2 hE.le,(λv _ _ ⟨y,h,_⟩=>by rw[h];rfl),?_⟩⟩
  intros
  refine ZpE λys=>?_
  rintro aP ⟨y,hv,hQ⟩ b4 fT
  obtain rfl:ys=y.cs:=by simpa using hv
  have bI:(L'.length+1)*96<=140737488355328:=by omega
  refine Zcc Pt.len Pt.one fT y (hE.row.mono aP) 96 bI (by omega) (.inl rfl) λa5 c5 m5 cC bM aQ=>?_
  have cB:=hE.step Pt.len (by omega) hx aP hQ fT cC bM aQ
  exact⟨L.length - (k+1),by omega,k+1,a5,c5,L'++[y],_,by omega,rfl,by rw[hw,zA1];rfl,by rw[zA1];rfl,cB⟩
 ·have dA:k=L.length:=by have:=of_decide_eq_false bJ;omega
  rw[dA,List.take_length]at hE
  exact⟨m2,hE.le,Mem.le_refl _,_,_,L',μ,rfl,hE⟩
theorem Zva(cb:Nat)(Q:Ac->Ac->Mem->Prop)(L:List Ac)(a:Option Addr)(d:Nat)(m:Mem)(aB:rowRd m a (L.map Ac.cs).flatten)(hl:L.length<=few)(gX:∀x∈L,∀m2,m.le m2->CX Tryz.prog cb #[.agg x.cs.toArray] m2 [] (λv m3 _=>∃y:Ac,v=.agg y.cs.toArray/\Q x y (nw m2 m3))):
  CX Tryz.prog 88 #[.slice a L.length d,.func (.func cb) #[] #[]] m [] (ZqB Ac.cs Q m L):=by
 have hl:L.length<=100000:=hl
 apply Zbn (p1fi:=[]) (p1ca:=[])
 refine⟨λxs css tvs m' q=>∃(k:Nat)(a':Option Addr)(c':Nat)(L':List Ac)(μ:Nat->Mem),k<=L.length/\q=L.length - k/\xs=[.slice a' L'.length c',.int .i64 k]/\tvs=[.slice a' L'.length c']/\Each Ac.cs Q m m' (L.take k) a' c' L' μ,⟨_,0,none,0,[],_,by omega,rfl,rfl,rfl,Each.nil m⟩,?_⟩
 rintro a1 n1 c1 z a2 n2 c2 m2 q _ ⟨k,a',c',L',μ,hk,hq,cE,cD,hE⟩
 simp only[List.cons.injEq,Value.slice.injEq,Value.int.injEq,true_and,and_true]at cE cD
 obtain⟨⟨rfl,rfl,rfl⟩,rfl⟩:=cE
 obtain⟨rfl,rfl,rfl⟩:=cD
 have jr:L'.length=k:=by rw[hE.len,List.length_take];omega
 refine Zab (λaC=>?_) (λbJ=>?_)
 ·have aK:k < L.length:=by have:=zA6 aC;omega
  obtain⟨x,hx⟩:=Zaq aK
  obtain⟨b,o,ha,cF⟩:=Zaj Ac.len aB hx (by omega)
  have hw:IntKind.i64.wrap ((k:Int)+1)=((k+1:Nat):Int):=by rw[Zal (by omega) (by omega)];rfl
  refine⟨b,o,ha,⟨by omega,by omega⟩,_,_,_,_,_,_,_,_,cF.mono hE.le,λb3=>Zaa rfl ⟨_,trivial,gX x (zA2 hx) m2 hE.le,(λv _ _ ⟨y,h,_⟩=>by rw[h];rfl),?_⟩⟩
  intros
  refine ZpE λys=>?_
  rintro aP ⟨y,hv,hQ⟩ b4 fT
  obtain rfl:ys=y.cs:=by simpa using hv
  have bI:(L'.length+1)*112<=140737488355328:=by omega
  refine Zcc Ac.len Ac.one fT y (hE.row.mono aP) 112 bI (by omega) (.inl rfl) λa5 c5 m5 cC bM aQ=>?_
  have cB:=hE.step Ac.len (by omega) hx aP hQ fT cC bM aQ
  exact⟨L.length - (k+1),by omega,k+1,a5,c5,L'++[y],_,by omega,rfl,by rw[hw,zA1];rfl,by rw[zA1];rfl,cB⟩
 ·have dA:k=L.length:=by have:=of_decide_eq_false bJ;omega
  rw[dA,List.take_length]at hE
  exact⟨m2,hE.le,Mem.le_refl _,_,_,L',μ,rfl,hE⟩
theorem Zvb(cb:Nat)(Q:Ru->Ru->Mem->Prop)(L:List Ru)(a:Option Addr)(d:Nat)(m:Mem)(aB:rowRd m a (L.map Ru.cs).flatten)(hl:L.length<=few)(gX:∀x∈L,∀m2,m.le m2->CX Tryz.prog cb #[.agg x.cs.toArray] m2 [] (λv m3 _=>∃y:Ru,v=.agg y.cs.toArray/\Q x y (nw m2 m3))):
  CX Tryz.prog 57 #[.slice a L.length d,.func (.func cb) #[] #[]] m [] (ZqB Ru.cs Q m L):=by
 have hl:L.length<=100000:=hl
 apply ZbV (p1fi:=[]) (p1ca:=[])
 refine⟨λxs css tvs m' q=>∃(k:Nat)(a':Option Addr)(c':Nat)(L':List Ru)(μ:Nat->Mem),k<=L.length/\q=L.length - k/\xs=[.slice a' L'.length c',.int .i64 k]/\tvs=[.slice a' L'.length c']/\Each Ru.cs Q m m' (L.take k) a' c' L' μ,⟨_,0,none,0,[],_,by omega,rfl,rfl,rfl,Each.nil m⟩,?_⟩
 rintro a1 n1 c1 z a2 n2 c2 m2 q _ ⟨k,a',c',L',μ,hk,hq,cE,cD,hE⟩
 simp only[List.cons.injEq,Value.slice.injEq,Value.int.injEq,true_and,and_true]at cE cD
 obtain⟨⟨rfl,rfl,rfl⟩,rfl⟩:=cE
 obtain⟨rfl,rfl,rfl⟩:=cD
 have jr:L'.length=k:=by rw[hE.len,List.length_take];omega
 refine Zab (λaC=>?_) (λbJ=>?_)
 ·have aK:k < L.length:=by have:=zA6 aC;omega
  obtain⟨x,hx⟩:=Zaq aK
  obtain⟨b,o,ha,cF⟩:=Zaj Ru.len aB hx (by omega)
  have hw:IntKind.i64.wrap ((k:Int)+1)=((k+1:Nat):Int):=by rw[Zal (by omega) (by omega)];rfl
  refine⟨b,o,ha,⟨by omega,by omega⟩,_,_,_,_,_,_,_,_,_,_,_,_,_,_,_,_,cF.mono hE.le,λb3=>Zaa rfl ⟨_,trivial,gX x (zA2 hx) m2 hE.le,(λv _ _ ⟨y,h,_⟩=>by rw[h];rfl),?_⟩⟩
  intros
  refine ZpE λys=>?_
  rintro aP ⟨y,hv,hQ⟩ b4 fT
  obtain rfl:ys=y.cs:=by simpa using hv
  have bI:(L'.length+1)*168<=140737488355328:=by omega
  refine Zcc Ru.len Ru.one fT y (hE.row.mono aP) 168 bI (by omega) (.inl rfl) λa5 c5 m5 cC bM aQ=>?_
  have cB:=hE.step Ru.len (by omega) hx aP hQ fT cC bM aQ
  exact⟨L.length - (k+1),by omega,k+1,a5,c5,L'++[y],_,by omega,rfl,by rw[hw,zA1];rfl,by rw[zA1];rfl,cB⟩
 ·have dA:k=L.length:=by have:=of_decide_eq_false bJ;omega
  rw[dA,List.take_length]at hE
  exact⟨m2,hE.le,Mem.le_refl _,_,_,L',μ,rfl,hE⟩
theorem Zvc(cb:Nat)(Q:Sta->Sta->Mem->Prop)(L:List Sta)(a:Option Addr)(d:Nat)(m:Mem)(aB:rowRd m a (L.map Sta.cs).flatten)(hl:L.length<=few)(gX:∀x∈L,∀m2,m.le m2->CX Tryz.prog cb #[.agg x.cs.toArray] m2 [] (λv m3 _=>∃y:Sta,v=.agg y.cs.toArray/\Q x y (nw m2 m3))):
  CX Tryz.prog 55 #[.slice a L.length d,.func (.func cb) #[] #[]] m [] (ZqB Sta.cs Q m L):=by
 have hl:L.length<=100000:=hl
 apply Zby (p1fi:=[]) (p1ca:=[])
 refine⟨λxs css tvs m' q=>∃(k:Nat)(a':Option Addr)(c':Nat)(L':List Sta)(μ:Nat->Mem),k<=L.length/\q=L.length - k/\xs=[.slice a' L'.length c',.int .i64 k]/\tvs=[.slice a' L'.length c']/\Each Sta.cs Q m m' (L.take k) a' c' L' μ,⟨_,0,none,0,[],_,by omega,rfl,rfl,rfl,Each.nil m⟩,?_⟩
 rintro a1 n1 c1 z a2 n2 c2 m2 q _ ⟨k,a',c',L',μ,hk,hq,cE,cD,hE⟩
 simp only[List.cons.injEq,Value.slice.injEq,Value.int.injEq,true_and,and_true]at cE cD
 obtain⟨⟨rfl,rfl,rfl⟩,rfl⟩:=cE
 obtain⟨rfl,rfl,rfl⟩:=cD
 have jr:L'.length=k:=by rw[hE.len,List.length_take];omega
 refine Zab (λaC=>?_) (λbJ=>?_)
 ·have aK:k < L.length:=by have:=zA6 aC;omega
  obtain⟨x,hx⟩:=Zaq aK
  obtain⟨b,o,ha,cF⟩:=Zaj Sta.len aB hx (by omega)
  have hw:IntKind.i64.wrap ((k:Int)+1)=((k+1:Nat):Int):=by rw[Zal (by omega) (by omega)];rfl
  refine⟨b,o,ha,⟨by omega,by omega⟩,_,_,cF.mono hE.le,λb3=>Zaa rfl ⟨_,trivial,gX x (zA2 hx) m2 hE.le,(λv _ _ ⟨y,h,_⟩=>by rw[h];rfl),?_⟩⟩
  intros
  refine ZpE λys=>?_
  rintro aP ⟨y,hv,hQ⟩ b4 fT
  obtain rfl:ys=y.cs:=by simpa using hv
  have bI:(L'.length+1)*40<=140737488355328:=by omega
  refine Zcc Sta.len Sta.one fT y (hE.row.mono aP) 40 bI (by omega) (.inl rfl) λa5 c5 m5 cC bM aQ=>?_
  have cB:=hE.step Sta.len (by omega) hx aP hQ fT cC bM aQ
  exact⟨L.length - (k+1),by omega,k+1,a5,c5,L'++[y],_,by omega,rfl,by rw[hw,zA1];rfl,by rw[zA1];rfl,cB⟩
 ·have dA:k=L.length:=by have:=of_decide_eq_false bJ;omega
  rw[dA,List.take_length]at hE
  exact⟨m2,hE.le,Mem.le_refl _,_,_,L',μ,rfl,hE⟩
def CpE(m:Mem)(t:E):Value->Mem->List (List Value)->Prop:=λv m' _=>∃t':E,v=t'.v/\t'.er=t.er/\RepE (nw m m') t'
theorem Zre{m:Mem}{t:E}:∀(v:Value)(m':Mem) (css:List (List Value)),CpE m t v m' css->Shape.fits (.agg [.int .u8,.any,.str,.int .i64,.slice]) v=true:=λv _ _ ⟨t,e,_⟩=>by rw[e];rfl
theorem Zrf(t:E)(m:Mem)(hr:RepE m t)(hl:t.light=true):CX Tryz.prog 90 #[t.v] m [] (CpE m t):=by
 apply Zlt
 intro b m1 aE _ b1
 have h:=ZcO t m1 (hr.mono' aE)
 rw[hl]at h
 refine Zag h λm2 aI=>Zhy rfl (Zan (ZkG t m2 (hr.mono' (mLt aE aI)) (zA6 hl)) ZfL ?_)
 rintro n v s n1 a n2 c m3 aP ⟨t',hv,hr',he,hn⟩
 obtain⟨rfl,rfl,rfl,rfl,rfl,rfl,rfl⟩:=ZpB hv
 exact Zaa rfl ⟨m3,mLt aE (mLt aI aP),Mem.le_refl _,t',rfl,he,ZtU t' hr' (hn.less (mLt aE aI))⟩
theorem ZyM(p:Pt)(m:Mem)(hr:RepP m p)(hl:p.e.light=true):CX Tryz.prog 92 #[.agg p.cs.toArray] m [] (λv m' _=>∃q:Pt,v=.agg q.cs.toArray/\QP p q (nw m m')):=by
 apply Zd6
 intro b b1
 refine Zan (Zrf p.e m hr.e hl) Zre ?_
 rintro n v s n1 a n2 c m3 aP ⟨t',hv,he,cM⟩
 obtain⟨rfl,rfl,rfl,rfl,rfl,rfl,rfl⟩:=ZpB hv
 refine Zaa rfl (Zaa rfl ⟨m3,aP,Mem.le_refl _,⟨p.k,p.s,p.g,t'⟩,rfl,?_,hr.k,hr.s,hr.g,cM⟩)
 simp only[Pt.er,he]
theorem ZyN(x:Ac)(m:Mem)(hr:RepA m x)(hl:LtA x):CX Tryz.prog 89 #[.agg x.cs.toArray] m [] (λv m' _=>∃q:Ac,v=.agg q.cs.toArray/\QA x q (nw m m')):=by
 apply Ze6
 intro b b1
 refine Zan (Zrf x.e m hr.e hl.1) Zre ?_
 rintro n v s n1 a n2 c m1 aE ⟨t',hv,he,cM⟩
 obtain⟨rfl,rfl,rfl,rfl,rfl,rfl,rfl⟩:=ZpB hv
 refine Zaa rfl ⟨_,trivial,Zu9 92 QP x.parts x.pa x.pc m1 (hr.row.mono aE) hr.n (λp hp m2 aI=>ZyM p m2 ((hr.all p hp).mono (mLt aE aI)) (hl.2 p hp)),Ze0,?_⟩
 rintro a' n' c' m2 aI ⟨a5,c5,L',μ,hv',hE⟩
 simp only[Value.slice.injEq]at hv'
 obtain⟨rfl,rfl,rfl⟩:=hv'
 refine Zaa rfl ⟨m2,mLt aE aI,Mem.le_refl _,⟨x.k,x.s,a',c',L',t'⟩,rfl,?_,Zsm hr hE (Zc3 aE (Mem.le_refl _)) (cM.mono' (Zc3 (Mem.le_refl _) aI))⟩
 simp only[Ac.er,he,hE.same λ_ _ _ h=>h.1]
theorem Zxe(x:Ru)(m:Mem)(hr:RepR m x)(hl:LtR x):CX Tryz.prog 49 #[.agg x.cs.toArray] m [] (λv m' _=>∃q:Ru,v=.agg q.cs.toArray/\QR x q (nw m m')):=by
 apply ZgL
 intro b b1
 refine Zan (Zu2 x.t m hr.t (zA6 hl.1)) Zu1 ?_
 rintro n0 n1 n2 n3 n4 n5 n6 a n c m1 aE ⟨t',hv,he,cM⟩
 simp only[T.v,Value.agg.injEq,Array.mk.injEq,List.cons.injEq,Value.int.injEq,Value.slice.injEq,true_and,and_true]at hv
 obtain⟨rfl,rfl,rfl,rfl,rfl,rfl,rfl,rfl,rfl,rfl⟩:=hv
 refine⟨_,trivial,Zva 89 QA x.acts x.aa x.ac m1 (hr.row.mono aE) hr.len (λp hp m2 aI=>ZyN p m2 ((hr.all p hp).mono (mLt aE aI)) (hl.2 p hp)),Ze0,?_⟩
 rintro a' n' c' m2 aI ⟨a5,c5,L',μ,hv',hE⟩
 simp only[Value.slice.injEq]at hv'
 obtain⟨rfl,rfl,rfl⟩:=hv'
 refine⟨m2,mLt aE aI,Mem.le_refl _,⟨x.k,x.bg,x.en,t',x.s,x.n,a',c',L',x.go,x.code⟩,rfl,?_,Zsn hr hE (Zc3 aE (Mem.le_refl _)) (cM.mono (Zc3 (Mem.le_refl _) aI))⟩
 simp only[Ru.er,he,hE.same λ_ _ _ h=>h.1]
theorem ZyO(x:Sta)(m0 m:Mem)(h0:m0.le m)(hr:RepS m x)(hl:∀r∈x.rules,LtR r):CX Tryz.prog 56 #[.agg x.cs.toArray] m [] (λv m' _=>∃q:Sta,v=.agg q.cs.toArray/\QS m0 x q (nw m m')):=by
 apply Zjr
 intro b m1 aE _ b1
 refine⟨λ_ _ μ=>ZqB Ru.cs QR μ x.rules,_,rfl,Zvb 49 QR x.rules x.ra x.rc m1 (hr.row.mono aE) hr.len (λp hp m2 aI=>Zxe p m2 ((hr.all p hp).mono (mLt aE aI)) (hl p hp)),Ze0,?_⟩
 rintro a' n' c' m2 aI ⟨a5,c5,L',μ,hv',hE⟩ M _ hM
 simp only[Value.slice.injEq]at hv'
 obtain⟨rfl,rfl,rfl⟩:=hv'
 exact⟨m2,mLt aE aI,hM,⟨x.s,a',c',L'⟩,rfl,(Zwu (mLt h0 aE) (hr.mono aE) hE).mono (Zc3 aE (Mem.le_refl _))⟩
def Zyc(m:Mem)(l:List Va):Value->Mem->List (List Value)->Prop:=λv m' _=>∃a' c',v=.slice a' l.length c'/\rowRd (nw m m') a' (l.map Va.cs).flatten/\l.length<=c'
theorem Zok(a:Option Addr)(c:Nat)(l:List Va)(m:Mem)(h:rowRd m a (l.map Va.cs).flatten)(hl:l.length<=few):CXT Tryz.prog 54 #[.slice a l.length c] m 4 (Zyc m l):=by
 have hl:l.length<=100000:=hl
 apply Zbs
 have aH:(l.map Va.cs).flatten.length=l.length*4:=ZaU Va.len l
 refine Zab (λha=>?_) (λha=>⟨⟨rfl,Int.le_refl _,by decide,by decide⟩,λb hf _=>⟨.inl rfl,[],(l.map Va.cs).flatten,rfl,aH,.inl rfl,h,?_,by omega,by omega,λa' c' m' hm aB gT=>⟨rfl,?_⟩⟩⟩)
 ·obtain rfl:a=none:=by simpa using ha
  have h0:l=[]:=by
   rcases h with h|⟨_,_,h,_⟩
   ·rw[h]at aH;exact List.eq_nil_of_length_eq_zero (by simp at aH;omega)
   ·cases h
  subst h0
  exact⟨rfl,none,0,rfl,.inl rfl,Nat.le_refl _⟩
 ·intro u hu
  simp only[List.mem_flatten,List.mem_map]at hu
  obtain⟨_,⟨e,_,rfl⟩,hu⟩:=hu
  exact Va.one e u hu
 ·simp only[Nat.zero_add]at gT ⊢
  refine⟨a',c',rfl,Zja aB ?_,gT.1⟩
  rcases(gT.old (λ_ _ e=>by cases e;rfl)).2 with h1|⟨b',h1,h2|h2⟩
  ·exact .inr λb o e=>by rw[h1]at e;cases e
  ·exact .inr λb' o e=>by rw[<-h2]at e;cases e;exact hf
  ·exact .inr λb o e=>by rw[h1]at e;cases e;exact h2
def CpC(m:Mem)(s:Sc):Value->Mem->List (List Value)->Prop:=λv m' _=>∃s':Sc,v=s'.v/\s'.er=s.er/\RepC (nw m m') s'/\(s'.states=[]\/∃b μ,SepC m m' s' b μ)
theorem Zml{m:Mem}{s:Sc}:∀(v:Value)(m':Mem) (css:List (List Value)),CpC m s v m' css->Shape.fits (.agg [.int .i64,.slice,.slice]) v=true:=λv _ _ ⟨t,e,_⟩=>by rw[e];rfl
theorem ZsQ{m:Mem}{l:List Va}:∀(v:Value)(m':Mem) (css:List (List Value)),Zyc m l v m' css->Shape.fits .slice v=true:=λv _ _ ⟨_,_,h,_⟩=>by rw[h];rfl
theorem Zrg(s:Sc)(m:Mem)(hr:RepC m s)(hl:s.light=true):CX Tryz.prog 18 #[s.v] m [] (CpC m s):=by
 apply Zn3
 intro b m1 aE _ b1
 have h:=ZbW s m1 (hr.mono aE)
 rw[hl]at h
 refine Zag h λm2 aI=>Zhy rfl ?_
 have eH:=hr.mono (mLt aE aI)
 have cI:=mLt aE aI
 refine⟨λi _ μ=>if i=4 then Zyc μ s.vars else ZqB Sta.cs (QS m) μ s.states,_,rfl,(Zok s.va s.vc s.vars m2 eH.vrow eH.vlen).toCX,ZsQ,?_⟩
 rintro a n c m3 aP ⟨a',c',hv,aB,cO⟩
 simp only[Value.slice.injEq]at hv
 obtain⟨rfl,rfl,rfl⟩:=hv
 refine⟨_,rfl,Zvc 56 (QS m) s.states s.sa s.sc m3 (eH.row.mono aP) eH.len (λx hx m4 bU=>ZyO x m m4 (mLt cI (mLt aP bU)) ((eH.all x hx).mono (mLt aP bU)) (Zsl hl x hx)),Ze0,?_⟩
 rintro a4 n4 c4 m4 bU ⟨a5,c5,L',μ,hv',hE⟩ M _ gm gS
 simp only[Value.slice.injEq]at hv'
 obtain⟨rfl,rfl,rfl⟩:=hv'
 have dG:=mLt cI aP
 have lJ:(nw m3 m4).le (nw m M):=Zc3 dG gS
 refine⟨M,mLt cI (mLt aP gm),Mem.le_refl _,⟨s.n,a,c,s.vars,a4,c4,L'⟩,rfl,?_,⟨hr.n,hr.vlen,aB.mono (Zc3 cI gm),hr.vall,by rw[hE.len];exact hr.len,hE.rows.mono lJ,λy hy=>?_,cO,hE.cap⟩,?_⟩
 ·simp only[Sc.er,hE.same (f:=Sta.er) (g:=Sta.er) λ_ _ _ h=>h.1]
 ·obtain⟨i,x,_,_,hq,hs⟩:=hE.at hy
  exact hq.2.1.mono (mLt hs lJ)
 ·rcases hE.blk with⟨h1,_⟩|⟨_,b,hb,hf,hk,hμ⟩
  ·exact .inl (List.eq_nil_of_length_eq_zero (by rw[hE.len,h1];rfl))
  ·refine .inr ⟨b,μ,hb,⟨Zba dG hf,Zd3 dG hk⟩,λi y hy=>?_,λi j rF hj b'=>hE.ap i j rF (by rw[<-hE.len];exact hj) b',nw m2 m3,aB,Zc3 cI gm,Zba (Zec _ _) hf,λi hi b'=>?_⟩
   ·have aC:i < s.states.length:=by rw[<-hE.len];exact(zA0 hy).1
    have hq:=hE.q i _ _ (zA3 aC) hy
    exact⟨hq.2.1,hq.2.2,mLt (hE.sub i aC) lJ,(hμ i aC).1⟩
   ·by_cases gc:(nw m2 m3).free b'
    ·exact .inl gc
    ·exact .inr (Zba (hE.sub i (by rw[<-hE.len];exact hi)) (Znz λh=>gc (Zba (Zec _ _) h)))
variable {m:Mem} {b:Nat}
def Zz2(l:List Pt)(i:Nat)(p:Pt):Bool:=!ZfS p||(decide (i > 0)&&(p.k == 1&&(match l[i - 1]? with
 | some q=>q.k == 1
 | none=>false)))
def Zz3(s:Sc)(p:Pt):Bool:=(p.k == 2&&!(Zhw s p.s).2)||(p.k == 4&&!Zdx s p.e)
def Zz4(r:Ru)(p:Pt):Bool:=(p.k == 3&&decide (p.g > Zdn r))||(p.k == 4&&decide (p.e.most > Zdn r))
theorem Zqy(s:Sc)(r:Ru)(l:List Pt)(i:Nat)(p:Pt):ZlW s r l i p=Zcy [(307,Zz2 l i p),(308,Zz3 s p),(309,Zz4 r p)]:=rfl
def ZAX(s:Sc)(i n:Nat):List Value:=(List.range n).map λj=>.int .i64 (totals s i j)
def TotI(s:Sc)(i:Nat)(a:Option Addr)(vs:List Value)(m:Mem):Prop:=vs.length=i/\rowRd m a vs/\∀(k:Nat)(x:Sta),k < i->s.states[k]?=some x->∃ak ck,vs[k]?=some (.slice ak x.rules.length ck)/\rowRd m ak (ZAX s k x.rules.length)
theorem TotI.mono{s:Sc}{i:Nat}{a:Option Addr}{vs:List Value}{m m':Mem}(h:TotI s i a vs m)(hm:m.le m'):TotI s i a vs m':=⟨h.1,h.2.1.mono hm,λk x hk hx=>by
 obtain⟨ak,ck,h1,h2⟩:=h.2.2 k x hk hx
 exact⟨ak,ck,h1,h2.mono hm⟩⟩
theorem ZyP{m:Mem}{a:Option Addr}{vs:List Value}(h:rowRd m a vs){k:Nat}{v:Value}(hk:vs[k]?=some v):∃b o,a=some ⟨b,o,none⟩/\m.c b (o+k*1)=some v:=by
 rcases h with h|⟨b,o,ha,h⟩
 ·rw[h]at hk;simp at hk
 ·exact⟨b,o,ha,by rw[Nat.mul_one];exact h k v hk⟩
end Go.Proofs.YtpjepnkiiojgfaaGreat
namespace Go.Proofs.YtpjepnkiiojgfaaGreat
open Go Go.Eng Go.Proofs Go.RowKit
open Go.Value (int slice agg bool string tuple func)
open Go.IntKind (u8 u64 i64)
set_option maxRecDepth 100000
def ZjJ:Env:={ EB with
 loops:=(λi=>bif Nat.beq i 5 then⟨[(15,.int .i64)],[],[],false⟩ else⟨[],[],[],false⟩)
 frzNew:=[1]
 frzAt:=(λi=>bif Nat.beq i 37 then[3]else[])
 thaw:=true
 kF:=true }
theorem ZhV(aA:Int)(aW:Option Addr)(aS aX:Nat)(aO:Option Addr)(aJ aT:Nat)(m:Mem)(R:RT)(h:
 lV [int i64 aA,slice aW aS aX,slice aO aJ aT] λxL=>fzM m xL λb m'=>lE [some (Box.mk b xL 32 3 true true)] λxL_1=>m.free b->(∀(b' o:Nat)(u:Value),m' b' o=some u->m b' o
 = some u\/b'=b)->Mem.k m b=none->kB Tryz.prog 19 [agg (Array.mk xL)] m' λb m'=>br (!b) (rtM m m' R (slice none 0 0)) (∀(b:Nat),lX (Value.map (some b)) λyL=>m'.free b->Mem.k m' b=none->∀(b_1
 : Nat),∃(I:IT),lE (some (Box.mk b_1 [yL] 146 1 false true)::xL_1) λxL=>inI I [int i64 0] [] [] (Mem.updK m' b [])/\∀(n:Int)(m':Mem)(n_1:Nat),lV [int i64 (i64.wrap (n+(1:Int)))] fun
 xL_2=>True->I [int i64 n] [] [] m' n_1->br (decide (n < (↑aJ:Int))) (atA aO λb o=>Zae n aJ/\∃v v_1:Value,m'.reads b (o+Int.toNat n*2) [v,v_1]/\∀(b:Nat),chk
 (v.oneCell'&&(v_1.oneCell'&&true)) (∃(b:Nat),∃(es:List (Value×Value)),∃(v_2:Value),∃(o:Bool),yL=Value.map (some b)/\Mem.k m' b=some es/\ZoF Tryz.prog 9 v/\LookIs Tryz.prog 9 v
 es (int i64 0) v_2 o/\br (!o) (∃(b:Nat),∃(es:List (Value×Value)),∃(es':List (Value×Value)),yL=Value.map (some b)/\Mem.k m' b=some es/\ZoF Tryz.prog 9 v/\ZhB Tryz.prog 9 v (int i64 n) es es'
 /\ Mem.k m b=none/\Zac xL/\nxI n_1 I xL_2 [] [] (Mem.updK m' b es')) (Zac xL/\nxI n_1 I xL_2 [] [] m'))) (∀(m'_1:Mem),m'.le m'_1->m'_1.reads b_1 0 [yL]->kS Tryz.prog 77 [slice aO aJ aT,
 func (Fn.func 78) (Array.mk []) (Array.mk [Value.pointer (some (Addr.mk b_1 0 none))])] m'_1 λa n c m'=>rtM m m' R (slice a n c)))):CX Tryz.prog 32 #[.agg #[.int .i64 aA,.slice aW aS aX,.slice aO aJ aT]] m [] R:=
 Zad (E:=ZjJ) Zao mix Tryz.func32 (by kernel_rfl) (Eq.mp (by kernel_rfl) h)
def ZgX:Env:={ EB with
 loops:=(λi=>bif Nat.beq i 3 then⟨[(4,.slice),(12,.int .i64)],[],[(32,1)],false⟩ else⟨[],[],[],false⟩)
 joins:=(λi=>bif Nat.beq i 6 then some [(28,.bool)]else none)
 tokOf:=(λi=>bif Nat.beq i 32 then 32 else 0)
 frzNew:=[2]
 thaw:=true
 lentC:=(λi=>bif Nat.beq i 35 then some [(32,1)]else bif Nat.beq i 37 then some [(32,1)]else none) }
theorem Zf3(aA:ByteArray)(aW:Option Addr)(aS aX c0b c0o:Nat)(m:Mem)(R:RT)(h:
 lV [string aA,slice aW aS aX] λxL=>fzM m xL λb m'=>lE [some (Box.mk b xL 36 2 true true)] λxL=>m.free b->(∀(b' o:Nat)(u:Value),m' b' o=some u->m b' o=some u\/b'=b)->∃(I:
 IT),inI I [slice none 0 0,int i64 0] [] [slice none 0 0] m'/\∀(a:Option Addr)(n c:Nat)(af:Int)(a3:Option Addr)(a4 a5:Nat)(m':Mem)(ai:Nat),lX (slice a3 a4 a5) λyL=>lE (Tok.mk yL 1) λag=>
 lE [some ag] λah=>lV [int i64 (i64.wrap (af+(1:Int)))] λak=>lE (n+1) λac=>lX (slice a n c) λad=>True->I [ad,int i64 af] [] [yL] m' ai->br (decide (af < (↑aS:Int))) (atA aW
 λb o=>Zae af aS/\∃v al am an ao ap aq ar au av aw ax ay az ae a0:Value,lV [v,al,am,an,ao,ap,aq,ar,au,av,aw,ax,ay,az,ae,a0] λa1=>m'.reads b (o+Int.toNat af*16) a1/\∀(b:Nat),lE (some
 (Box.mk b a1 47 16 false true)::xL) λa2=>chk (v.oneCell'&&(al.oneCell'&&(am.oneCell'&&(an.oneCell'&&(ao.oneCell'&&(ap.oneCell'&&(aq.oneCell' &&
 (ar.oneCell'&&(au.oneCell'&&(av.oneCell'&&(aw.oneCell'&&(ax.oneCell'&&(ay.oneCell'&&(az.oneCell'&&(ae.oneCell'&&(a0.oneCell'&&true))))))))))))))))
 (∃(v:Value),m' c0b c0o=some v/\∃(b:Nat),∃(es:List (Value×Value)),∃(aj:Value),∃(o:Bool),lV (List.append (Array.toList (Value.cells aj)) []) λa6=>v=Value.map (some b)/\Mem.k m' b=some es
 /\ ZoF Tryz.prog 9 ae/\LookIs Tryz.prog 9 ae es (int i64 0) aj o/\∃(b:Bool),br o (chk (Ziz ae&&true) (Zac a2/\ah=ah/\[bool !ByteArray.toList (Zcg ae) == ByteArray.toList bE0]
 = [bool b])) (Zac a2/\ah=ah/\[bool false]=[bool b])/\br b (chk (Nat.beq (List.length (Array.toList (Value.cells aj))) 1&&true) (∀(b:Nat),lM (m'.add b a6) λmL=>m'.free b->(ag=Tok.mk ad 1\/
 ad=slice none 0 0\/c < ac)/\∃(xs:List Value),∃(ys:List Value),xs.length=n*1/\ys.length=1*1/\rowRd mL a xs/\rowRd mL (some (Addr.mk b 0 none)) ys/\(∀(u:Value),u∈ys->u.oneCell'=true)/\ac*8<=140737488355328/\ac<=9223372036854775807/\∀(a':Option Addr)(c':Nat)(m':Mem),mL.le m'->rowRd m' a' (List.append xs ys)->TokFact mL a a' ac c'->Zac xL/\nxI ai I (slice a' ac c'
 :: ak) [] [slice a' ac c'] m')) (Zac xL/\nxI ai I (ad::ak) [] [yL] m'))) (∃(Y:Nat->Prop),∃(R_1:Value->Mem->List (List Value)->List Value->Prop),CXY Tryz.prog 36 (Array.mk [ad]) m' Y [] [ag] R_1/\(∀
 (t:Tok),t∈[ag]->∀(b:Nat),Tok.blk t=some b->Y b)/\(∀(aa:Nat),Y aa->(∃(t:Tok),t∈[ag]/\Tok.blk t=some aa)\/(m.free aa/\Mem.k m aa=none)/\((∃(o:Nat),∃(v:Value),m' aa o=some v)
 \/ ∃(e:List (Value×Value)),Mem.k m' aa=some e)/\b≠aa/\True)/\(∀(v:Value)(m':Mem) (css:List (List Value)) (tvs:List Value),R_1 v m' css tvs->Shape.fits (Shape.tup []) v=true)/\∀(ab:Mem),
 Mem.le (Mem.off m' Y) ab->(NewM m' ab λb=>Y b\/m'.free b)->∀(a:Option Addr)(c d:Nat),lE [Tok.mk (slice a c d) 1] λxL=>R_1 (tuple (Array.mk [])) ab [] [slice a c d]->∃(Y:Nat->Prop),∃(R_2:
 Value->Mem->List (List Value)->List Value->Prop),CXY Tryz.prog 37 (Array.mk [ad]) ab Y [] xL R_2/\(∀(t:Tok),t∈xL->∀(b:Nat),Tok.blk t=some b->Y b)/\(∀(aa:Nat),Y aa->(∃(t:Tok),t∈xL/\
 Tok.blk t=some aa)\/(m.free aa/\Mem.k m aa=none)/\((∃(o:Nat),∃(v:Value),ab aa o=some v)\/∃(e:List (Value×Value)),Mem.k ab aa=some e)/\b≠aa/\True)/\(∀(v:Value)(m':Mem) (css:List
 (List Value)) (tvs:List Value),R_2 v m' css tvs->Shape.fits Shape.slice v=true)/\∀(a:Option Addr)(n c:Nat)(m':Mem),Mem.le (Mem.off ab Y) m'->(NewM ab m' λb=>Y b\/ab.free b)->∀(a7:Option
 Addr) (a8 d:Nat),R_2 (slice a n c) m' [] [slice a7 a8 d]->rtM m m' R (slice a n c))):CX Tryz.prog 78 #[.agg #[.string aA,.slice aW aS aX],.pointer (some ⟨c0b,c0o,none⟩)] m [] R:=
 Zad (E:=ZgX) Zao mix Tryz.func78 (by kernel_rfl) (Eq.mp (by kernel_rfl) h)
def ZcA:Env:={ EB with
 loops:=(λi=>bif Nat.beq i 3 then⟨[(5,.slice),(10,.int .i64)],[],[(19,1)],false⟩ else⟨[],[],[],false⟩)
 tokOf:=(λi=>bif Nat.beq i 19 then 19 else 0)
 thaw:=true }
theorem Zck(p0a:Option Addr)(p0n p0c p1g:Nat)(p1fi p1ca:List Value)(m:Mem)(R:RT)(h:
 ∃(I:IT),inI I [slice none 0 0,int i64 0] [] [slice none 0 0] m/\∀(a:Option Addr)(n c:Nat)(n_1:Int)(a_1:Option Addr)(n_2 c_1:Nat)(m':Mem)(n_3:Nat),lX (slice a n c) λyL=>lE (n+1) fun
 yL_1=>True->I [yL,int i64 n_1] [] [slice a_1 n_2 c_1] m' n_3->br (decide (n_1 < (↑p0n:Int))) (atA p0a λb o=>Zae n_1 p0n/\∃v v_1:Value,m'.reads b (o+Int.toNat n_1*2) [v,v_1]/\
 ∀(b:Nat),chk (v.oneCell'&&(v_1.oneCell'&&true)) (kS Tryz.prog p1g (List.append (List.append p1fi [agg (Array.mk [v,v_1])]) p1ca) m' λa_4 n_4 c_2 m'=>∀(b:Nat),lM (m'.add b [slice a_4 n_4
 c_2]) λmL=>m'.free b->(Tok.mk (slice a_1 n_2 c_1) 1=Tok.mk yL 1\/yL=slice none 0 0\/c < yL_1)/\∃(xs:List Value),∃(ys:List Value),xs.length=n*1/\ys.length=1*1/\rowRd mL a xs/\
 rowRd mL (some (Addr.mk b 0 none)) ys/\(∀(u:Value),u∈ys->u.oneCell'=true)/\yL_1*24<=140737488355328/\yL_1<=9223372036854775807/\∀(a':Option Addr)(c':Nat)(m':Mem),mL.le m'->rowRd m'
 a' (List.append xs ys)->TokFact mL a a' yL_1 c'->nxI n_3 I [slice a' yL_1 c',int i64 (i64.wrap (n_1+(1:Int)))] [] [slice a' yL_1 c'] m')) (rtM m m' R yL)):CX Tryz.prog 77 #[.slice p0a p0n p0c,.func (.func p1g) p1fi.toArray p1ca.toArray] m [] R:=
 Zad (E:=ZcA) Zao mix Tryz.func77 (by kernel_rfl) (Eq.mp (by kernel_rfl) h)
def ZlH:Env:={ EB with
 loops:=(λi=>bif Nat.beq i 1 then⟨[(7,.int .i64)],[100000],[(18,1),(900,1)],false⟩ else⟨[],[],[],false⟩)
 tokOf:=(λi=>bif Nat.beq i 18 then 900 else 0)
 thaw:=true }
theorem ZhW(p0a:Option Addr)(p0n p0c c0b:Nat)(c0_0a:Option Addr)(c0_0n c0_0c:Nat)(t0a:Option Addr)(t0n t0c:Nat)(m:Mem)(Y:Nat->Prop)(R:RTY)(h:
 ∃(I:IT),lE [some (Box.mk c0b [] 80 1 false true)] λxL=>lE (Box.mk c0b [slice c0_0a c0_0n c0_0c] 80 1 false true) λyL=>inI I [int i64 0] [[slice c0_0a c0_0n c0_0c]] [slice none 0 0,slice t0a t0n t0c] m/\∀
 (n:Int) (cs:List Value) (a:Option Addr) (n_1 c:Nat) (a_1:Option Addr) (n_2 c_1:Nat) (m':Mem) (n_3:Nat),lX (slice a n_1 c) λyL_1=>lV [int i64 (i64.wrap (n+(1:Int)))] λxL_1=>lX
 (slice a_1 n_2 c_1) λyL_2=>True->I [int i64 n] [cs] [yL_1,yL_2] m' n_3->br (decide (n < (↑p0n:Int))) (atA p0a λb o=>Zae n p0n/\∃(v:Value),lV (List.append (Array.toList (Value.cells v)) []) fun
 xL_2=>m' b (o+Int.toNat n*1)=some v/\Eng.Zs8 cs 0 λv_1=>kB Tryz.prog 29 [v_1,v] m' λb m'=>br (!b) (Eng.Zs8 cs 0 λv_2=>lE (slN v_2+1) λyL=>chk (Nat.beq (List.length (Array.toList
 (Value.cells v))) 1&&true) (∀(b:Nat),lM (m'.add b xL_2) λmL=>m'.free b->chk (ZbF v_2&&true) ((Tok.mk yL_2 1=Tok.mk v_2 1\/v_2=slice none 0 0\/slC v_2 < yL)/\∃(xs:List Value),∃(ys:
 List Value),xs.length=slN v_2*1/\ys.length=1*1/\rowRd mL (slA v_2) xs/\rowRd mL (some (Addr.mk b 0 none)) ys/\(∀(u:Value),u∈ys->u.oneCell'=true)/\yL*16<=140737488355328/\yL <=
 9223372036854775807/\∀(a':Option Addr)(c':Nat)(m':Mem),mL.le m'->rowRd m' a' (List.append xs ys)->TokFact mL (slA v_2) a' yL c'->Zac xL/\([none]:List (Option Tok))=[none]/\nxI n_3 I xL_1
 [[slice a' yL c']] [yL_1,slice a' yL c'] m'))) (Zac xL/\([none]:List (Option Tok))=[none]/\nxI n_3 I xL_1 [cs] [yL_1,yL_2] m')) (yL=yL/\R (tuple (Array.mk [])) m' [cs] [yL_2])):CXY Tryz.prog 108 #[.slice p0a p0n p0c,.pointer (some ⟨c0b,0,none⟩)] m Y [⟨c0b,[.slice c0_0a c0_0n c0_0c],80,1,false,true⟩] [⟨.slice t0a t0n t0c,1⟩] R:=
 Zkm (E:=ZlH) Zao mix Tryz.func108 [.v (.slice p0a p0n p0c),.loc 100000 0] [⟨c0b,[.slice c0_0a c0_0n c0_0c],80,1,false,true⟩] [900] [⟨.slice t0a t0n t0c,1⟩] (by decide) (by kernel_rfl) (Eq.mp (by kernel_rfl) h)
def ZpF:Env:={ EB with
 loops:=(λi=>bif Nat.beq i 7 then⟨[(18,.agg [.int .u8,.str,.slice,.int .u8,.any,.str,.int .i64,.slice])],[5],[(900,1)],false⟩ else bif Nat.beq i 13 then⟨[(44,.int .i64)],[5],[(900,1)],false⟩ else⟨[],[],[],false⟩)
 joins:=(λi=>bif Nat.beq i 8 then some [(27,.bool)]else none)
 dr:=(λi=>bif Nat.beq i 11 then[⟨0,[6],[],none,[],[]⟩,⟨1,[7],[],none,[],[]⟩,⟨2,[7],[],none,[1],[]⟩,⟨3,[],[],none,[1,2],[]⟩]else bif Nat.beq i 19 then[⟨0,[6],[],none,[],[]⟩,⟨1,[9],[],none,[],[]⟩,⟨2,[9],[],none,[1],[]⟩,⟨3,[],[],none,[1,2],[]⟩]else[])
 borrow:=(λi=>bif Nat.beq i 32 then[5]else bif Nat.beq i 40 then[5]else bif Nat.beq i 56 then[5]else bif Nat.beq i 63 then[5]else[])
 frzNew:=[2,3]
 last:=(λi=>bif Nat.beq i 11 then true else bif Nat.beq i 19 then true else false)
 lastK:=(λi=>bif Nat.beq i 11 then 1 else bif Nat.beq i 19 then 1 else 1)
 thaw:=true
 cuts:=λi=>bif Nat.beq i 12 then some ⟨[],[5],[(900,1)],false⟩ else none
 lentC:=(λi=>bif Nat.beq i 32 then some [(900,1)]else bif Nat.beq i 40 then some [(900,1)]else bif Nat.beq i 56 then some [(900,1)]else bif Nat.beq i 63 then some [(900,1)]else none) }
theorem Zol(aA:Int)(aD aG:Bool)(aF bC bD bG dY dZ eA:Int)(bV:Option Addr)(bW bX:Nat)(cV:ByteArray)(cW:Int)(bY:Option Addr)(bZ cA:Nat)(cX:ByteArray)(cY:Int)(p1:Bool)(m:Mem)(R:RT)(h:
 lV [bool p1] λxL=>lV [int u8 aA,bool aD,bool aG,int u8 aF,int u64 bC,int u64 bD,int u64 bG,int u64 dY,int i64 dZ,int i64 eA,slice bV bW bX,string cV,int i64 cW,
 slice bY bZ cA,string cX,int i64 cY] λan=>fzM m an λb m'=>lE [some (Box.mk b an 47 16 true true)] λbc=>m.free b->(∀(b' o:Nat)(u:Value),m' b' o=some u->m b' o=some u\/
 b'=b)->fzM m' xL λae aw=>lE (some (Box.mk ae xL 4 1 true true)::bc) λxL=>m'.free ae->(∀(b' o:Nat)(u:Value),aw b' o=some u->m' b' o=some u\/b'=ae)->∃(R_1:RT),True/\CX Tryz.prog 75
 (Array.mk [agg (Array.mk an)]) aw [] R_1/\Za3 (Shape.agg [Shape.int i64,Shape.slice,Shape.slice]) R_1/\∀(n:Int)(a:Option Addr)(bd c:Nat)(be:Option Addr)(bf bg:Nat)(m':Mem),lX (agg (Array.mk [int
 i64 n,slice a bd c,slice be bf bg])) λyL=>aw.le m'->R_1 yL m' []->kB Tryz.prog 19 [yL] m' λbh m'=>br (!bh) (rtM m m' R (slice none 0 0)) (∀(ao bi:Nat),∃(R_2:RT),lV [Value.pointer (some (Addr.mk
 ao 0 none))] λaj=>lE (some (Box.mk bi [func (Fn.func 108) (Array.mk []) (Array.mk aj)] 180 1 false true)) λyL=>lE (yL::some (Box.mk ao [] 80 1 false true)::xL) λad=>True/\CX Tryz.prog 75 (Array.mk
 [agg (Array.mk an)]) m' [] R_2/\Za3 (Shape.agg [Shape.int i64,Shape.slice,Shape.slice]) R_2/\∀(n:Int)(a:Option Addr)(bj c:Nat)(bk:Option Addr)(bl bm:Nat)(ax:Mem),lX (agg (Array.mk [int i64 n,
 slice a bj c,slice bk bl bm])) λa2=>m'.le ax->R_2 a2 ax []->kF Tryz.prog 71 [a2] ax λg fi ca m'=>∃(mi:Mem),mi.le m'/\∃(xs:List (List Value)),IX Tryz.prog g fi ca mi xs/\(∀(x:List
 Value),x∈xs->Shape.fitsL [Shape.agg [Shape.int u8,Shape.str,Shape.slice,Shape.int u8,Shape.any,Shape.str,Shape.int i64,Shape.slice]] x=true)/\∃(I:IT),I [] [[slice none 0 0]] [slice none 0 0] m' 0/\(∀
 (n:Int) (s:ByteArray) (a:Option Addr) (ay c:Nat) (bn:Int) (v:Value) (bo:ByteArray) (bp:Int) (bq:Option Addr) (bs bt:Nat) (cs:List Value) (bu:Option Addr) (bv bw:Nat) (m':Mem) (ak:Nat),lX
 (slice bu bv bw) λap=>lE (Tok.mk ap 1) λaf=>lE [some af] λaq=>lV [string s] λbx=>lE (Box.mk ao cs 80 1 false true) λar=>lV [int u8 bn,v,string bo,int i64 bp,slice bq bs bt] λaz=>lV (int
 u8 n::string s::slice a ay c::az) λa3=>mi.le m'->List.get?Internal xs ak=some [agg (Array.mk a3)]->I [] [cs] [ap] m' ak->∀(bz:Nat),lE (some (Box.mk bz a3 54 8 false true)) λag=>chk
 (v.oneCell'&&true) (br p1 (∃(ab:Bool),br (n == (2:Int)) (Zac (ag::yL::some ar::xL)/\aq=aq/\[bool true]=[bool ab]) (Zac (ag::yL::some ar::xL)/\aq=aq/\[bool (n == (3:Int))] =
 [bool ab])/\br ab (∀(al:Nat),lM (m'.add al bx) λmL=>m'.free al->∃(Y:Nat->Prop),∃(R:Value->Mem->List (List Value)->List Value->Prop),CXY Tryz.prog 108 (Array.mk (slice (some (Addr.mk al 0
 none)) 1 1::aj)) mL Y [ar] [af] R/\(∀(t:Tok),t∈[af]->∀(b:Nat),Tok.blk t=some b->Y b)/\(∀(aa:Nat),Y aa->(∃(t:Tok),t∈[af]/\Tok.blk t=some aa)\/(m.free aa/\Mem.k m aa=none)/\((∃(o
 : Nat),∃(v:Value),mL aa o=some v)\/∃(e:List (Value×Value)),Mem.k mL aa=some e)/\al≠aa/\ae≠aa/\b≠aa/\True)/\(∀(v:Value)(m':Mem) (css:List (List Value)) (tvs:List Value),R v m' css
 tvs->Shape.fits (Shape.tup []) v=true)/\∀(m':Mem),Mem.le (Mem.off mL Y) m'->(NewM mL m' λb=>Y b\/mL.free b)->∀(cs:List Value)(a:Option Addr)(c d:Nat),R (tuple (Array.mk [])) m' [cs] [slice
 a c d]->mi.le m'/\Zac ad/\I [] [cs] [slice a c d] m' (ak+1)) (mi.le m'/\Zac ad/\I [] [cs] [ap] m' (ak+1))) (∃(J:JT),br (n == (3:Int)) (∃(f:Fx),∃(R:RT),R=f 3 [agg (Array.mk az)] m'
 /\ CX Tryz.prog 109 (Array.mk [agg (Array.mk az)]) m' [] R/\Za3 Shape.slice R/\∀(a:Option Addr)(n c:Nat)(ah:Mem),m'.le ah->R (slice a n c) ah []->∀(M:Mem),m'.le M->ah.le M->∃(Y:Nat->
 Prop),∃(R:Value->Mem->List (List Value)->List Value->Prop),CXY Tryz.prog 108 (Array.mk (slice a n c::aj)) M Y [ar] [af] R/\(∀(t:Tok),t∈[af]->∀(b:Nat),Tok.blk t=some b->Y b)/\(∀(ab:Nat),Y
 ab->(∃(t:Tok),t∈[af]/\Tok.blk t=some ab)\/(m.free ab/\Mem.k m ab=none)/\((∃(o:Nat),∃(v:Value),M ab o=some v)\/∃(e:List (Value×Value)),Mem.k M ab=some e)/\ae≠ab/\b≠ab/\True)/\
 (∀(v:Value)(m':Mem) (css:List (List Value)) (tvs:List Value),R v m' css tvs->Shape.fits (Shape.tup []) v=true)/\∀(m':Mem),Mem.le (Mem.off M Y) m'->(NewM M m' λb=>Y b\/M.free b)->∀(cs:
 List Value) (a:Option Addr) (c d:Nat),R (tuple (Array.mk [])) m' [cs] [slice a c d]->Zac (ag::ad)/\([none]:List (Option Tok))=[none]/\J [] [cs] [slice a c d] m') (Zac (ag::ad)/\([none]:List
 (Option Tok))=[none]/\J [] [cs] [ap] m')/\∀(cs:List Value)(a4:Option Addr)(n c:Nat)(m':Mem),True->J [] [cs] [slice a4 n c] m'->∃(am:IT),inI am [int i64 0] [cs] [slice a4 n c] m'/\∀(n:Int) (cs
 : List Value) (cb:Option Addr) (cc c:Nat) (m':Mem) (au:Nat),lE [Box.mk ao cs 80 1 false true] λxL=>lX (slice cb cc c) λyL=>lV [int i64 (i64.wrap (n+(1:Int)))] λa0=>lE [Tok.mk yL 1]
 λai=>True->am [int i64 n] [cs] [yL] m' au->br (decide (n < (↑ay:Int))) (atA a λab o=>Zae n ay/\∃v av a5 a6 a7 a8 a9 ba:Value,lV [a6,a7,a8,a9,ba] λa1=>lE (Za6 u8 v&&decide (u8=u8)) λbb=>lV (List.append (Array.toList (Value.cells av)) []) λcd=>m'.reads ab (o+Int.toNat n*8) (v::av::a5
 :: a1)/\∀(al:Nat),chk (v.oneCell'&&(av.oneCell'&&(a5.oneCell'&&(a6.oneCell'&&(a7.oneCell'&&(a8.oneCell'&&(a9.oneCell'&&(ba.oneCell'&&true)))))))) (chk
 bb (br (RowKit.intOf v == (2:Int)) (chk (Nat.beq (List.length (Array.toList (Value.cells av))) 1&&true) (∀(aa:Nat),lM (m'.add aa cd) λmL=>m'.free aa->∃(Y:Nat->Prop),∃(R:Value->Mem->List
 (List Value)->List Value->Prop),CXY Tryz.prog 108 (Array.mk (slice (some (Addr.mk aa 0 none)) 1 1::aj)) mL Y xL ai R/\(∀(t:Tok),t∈ai->∀(b:Nat),Tok.blk t=some b->Y b)/\(∀(ac:Nat),Y ac->(∃(t:
 Tok),t∈ai/\Tok.blk t=some ac)\/(m.free ac/\Mem.k m ac=none)/\((∃(o:Nat),∃(v:Value),mL ac o=some v)\/∃(e:List (Value×Value)),Mem.k mL ac=some e)/\aa≠ac/\ae≠ac/\b≠ac/\True)/\(∀
 (v:Value) (m':Mem) (css:List (List Value)) (tvs:List Value),R v m' css tvs->Shape.fits (Shape.tup []) v=true)/\∀(m':Mem),Mem.le (Mem.off mL Y) m'->(NewM mL m' λb=>Y b\/mL.free b)->∀(cs:
 List Value) (a:Option Addr) (c d:Nat),R (tuple (Array.mk [])) m' [cs] [slice a c d]->Zac (ag::ad)/\([none,none]:List (Option Tok))=[none,none]/\nxI au am a0 [cs] [slice a c d] m')) (chk bb (br
 (RowKit.intOf v == (4:Int)) (∃(f:Fx),∃(R:RT),R=f 3 [agg (Array.mk a1)] m'/\CX Tryz.prog 109 (Array.mk [agg (Array.mk a1)]) m' [] R/\Za3 Shape.slice R/\∀(a:Option Addr)(n c:Nat)(ah:Mem),m'.le ah->R (slice a n c) ah []->∀(M:Mem),m'.le M->ah.le M->∃(Y:Nat->Prop),∃(R:Value->Mem->List (List Value)->List Value->Prop),CXY Tryz.prog 108 (Array.mk (slice a n c::aj)) M Y xL ai R/\(∀
 (t:Tok),t∈ai->∀(b:Nat),Tok.blk t=some b->Y b)/\(∀(aa:Nat),Y aa->(∃(t:Tok),t∈ai/\Tok.blk t=some aa)\/(m.free aa/\Mem.k m aa=none)/\((∃(o:Nat),∃(v:Value),M aa o=some v)\/∃
 (e:List (Value×Value)),Mem.k M aa=some e)/\ae≠aa/\b≠aa/\True)/\(∀(v:Value)(m':Mem) (css:List (List Value)) (tvs:List Value),R v m' css tvs->Shape.fits (Shape.tup []) v=true)/\∀(m':Mem),
 Mem.le (Mem.off M Y) m'->(NewM M m' λb=>Y b\/M.free b)->∀(cs:List Value)(a:Option Addr)(c d:Nat),R (tuple (Array.mk [])) m' [cs] [slice a c d]->Zac (ag::ad)/\([none,none]:List (Option
 Tok))=[none,none]/\nxI au am a0 [cs] [slice a c d] m') (Zac (ag::ad)/\([none,none]:List (Option Tok))=[none,none]/\nxI au am a0 [cs] [yL] m')))))) (mi.le m'/\Zac ad/\I [] [cs] [yL] m' (ak +
 1)))))/\∀(cs:List Value)(a:Option Addr)(n c:Nat)(m':Mem),mi.le m'->I [] [cs] [slice a n c] m' (xs.length)->Eng.Zs8 cs 0 λv=>rtM m m' R v)):CX Tryz.prog 74 #[.agg #[.int .u8 aA,.bool aD,.bool aG,.int .u8 aF,.int .u64 bC,.int .u64 bD,.int .u64 bG,.int .u64 dY,.int .i64 dZ,.int .i64 eA,.slice bV bW bX,.string cV,.int .i64 cW,.slice bY bZ cA,.string cX,.int .i64 cY],.bool p1] m [] R:=
 Zad (E:=ZpF) Zao mix Tryz.func74 (by kernel_rfl) (Eq.mp (by kernel_rfl) h)
def Zom:Env:={ EB with
 frzNew:=[1] }
theorem ZlI(aA:Int)(aD aG:Bool)(aF bC bD bG dY dZ eA:Int)(bV:Option Addr)(bW bX:Nat)(cV:ByteArray)(cW:Int)(bY:Option Addr)(bZ cA:Nat)(cX:ByteArray)(cY:Int)(m:Mem)(R:RT)(h:
 lV [int u8 aA,bool aD,bool aG,int u8 aF,int u64 bC,int u64 bD,int u64 bG,int u64 dY,int i64 dZ,int i64 eA,slice bV bW bX,string cV,int i64 cW,slice bY bZ
 cA,string cX,int i64 cY] λxL=>fzM m xL λb m'=>kS Tryz.prog 74 [agg (Array.mk xL),bool false] m' λa n c m'=>rtM m m' R (slice a n c)):CX Tryz.prog 27 #[.agg #[.int .u8 aA,.bool aD,.bool aG,.int .u8 aF,.int .u64 bC,.int .u64 bD,.int .u64 bG,.int .u64 dY,.int .i64 dZ,.int .i64 eA,.slice bV bW bX,.string cV,.int .i64 cW,.slice bY bZ cA,.string cX,.int .i64 cY]] m [] R:=
 Zad (E:=Zom) Zao mix Tryz.func27 (by kernel_rfl) (Eq.mp (by kernel_rfl) h)
def ZlJ:Env:={ EB with
 frzNew:=[1] }
theorem ZjK(aA:Int)(aD aG:Bool)(aF bC bD bG dY dZ eA:Int)(bV:Option Addr)(bW bX:Nat)(cV:ByteArray)(cW:Int)(bY:Option Addr)(bZ cA:Nat)(cX:ByteArray)(cY:Int)(m:Mem)(R:RT)(h:
 lV [int u8 aA,bool aD,bool aG,int u8 aF,int u64 bC,int u64 bD,int u64 bG,int u64 dY,int i64 dZ,int i64 eA,slice bV bW bX,string cV,int i64 cW,slice bY bZ
 cA,string cX,int i64 cY] λxL=>fzM m xL λb m'=>kS Tryz.prog 74 [agg (Array.mk xL),bool true] m' λa n c m'=>rtM m m' R (slice a n c)):CX Tryz.prog 28 #[.agg #[.int .u8 aA,.bool aD,.bool aG,.int .u8 aF,.int .u64 bC,.int .u64 bD,.int .u64 bG,.int .u64 dY,.int .i64 dZ,.int .i64 eA,.slice bV bW bX,.string cV,.int .i64 cW,.slice bY bZ cA,.string cX,.int .i64 cY]] m [] R:=
 Zad (E:=ZlJ) Zao mix Tryz.func28 (by kernel_rfl) (Eq.mp (by kernel_rfl) h)
def ZpG:Env:={ EB with
 loops:=(λi=>bif Nat.beq i 6 then⟨[(14,.agg [.int .u8,.str,.slice,.int .u8,.any,.str,.int .i64,.slice])],[3],[],false⟩ else bif Nat.beq i 9 then⟨[(26,.int .i64)],[3],[],false⟩ else⟨[],[],[],false⟩)
 dr:=(λi=>bif Nat.beq i 7 then[⟨0,[3],[],none,[],[]⟩,⟨1,[4],[],none,[],[]⟩,⟨2,[4],[],none,[1],[]⟩,⟨3,[],[],none,[1,2],[]⟩,⟨4,[],[],none,[0,1,2,3],[]⟩,⟨5,[3],[3],none,[0,1,2,3,4],[]⟩]else bif Nat.beq i 15 then[⟨0,[3],[],none,[],[]⟩,⟨1,[6],[],none,[],[]⟩,⟨2,[6],[],none,[1],[]⟩,⟨3,[],[],none,[1,2],[]⟩,⟨4,[],[],none,[0,1,2,3],[]⟩,⟨5,[3],[3],none,[0,1,2,3,4],[]⟩]else[])
 frzNew:=[1]
 cuts:=λi=>bif Nat.beq i 8 then some ⟨[],[3],[],false⟩ else none }
theorem Zon(aA:Int)(aD aG:Bool)(aF bC bD bG dY dZ eA:Int)(bV:Option Addr)(bW bX:Nat)(cV:ByteArray)(cW:Int)(bY:Option Addr)(bZ cA:Nat)(cX:ByteArray)(cY:Int)(m:Mem)(R:RT)(h:
 lV [int u8 aA,bool aD,bool aG,int u8 aF,int u64 bC,int u64 bD,int u64 bG,int u64 dY,int i64 dZ,int i64 eA,slice bV bW bX,string cV,int i64 cW,slice bY bZ
 cA,string cX,int i64 cY] λxL=>fzM m xL λb m'=>∃(R_1:RT),lE [some (Box.mk b xL 47 16 true true)] λav=>True/\CX Tryz.prog 75 (Array.mk [agg (Array.mk xL)]) m' [] R_1/\Za3 (Shape.agg
 [Shape.int i64,Shape.slice,Shape.slice]) R_1/\∀(n:Int)(a:Option Addr)(aw c:Nat)(ax:Option Addr)(ay az:Nat)(ag:Mem),lX (agg (Array.mk [int i64 n,slice a aw c,slice ax ay az])) λyL=>m'.le ag->R_1 yL ag []->kB Tryz.prog 19 [yL] ag λb m'=>br (!b) (rtM m m' R (int i64 0)) (∀(b:Nat),∃(R_2:RT),lE (some (Box.mk b [] 3 1 false true)::av) λal=>True/\CX Tryz.prog 75 (Array.mk [agg (Array.mk
 xL)]) m' [] R_2/\Za3 (Shape.agg [Shape.int i64,Shape.slice,Shape.slice]) R_2/\∀(n:Int)(a:Option Addr)(a0 c:Nat)(a1:Option Addr)(a2 a3:Nat)(ah:Mem),lX (agg (Array.mk [int i64 n,slice a a0 c,
 slice a1 a2 a3])) λyL=>m'.le ah->R_2 yL ah []->kF Tryz.prog 71 [yL] ah λg fi ca m'=>∃(xs:List (List Value)),IX Tryz.prog g fi ca m' xs/\(∀(x:List Value),x∈xs->Shape.fitsL [Shape.agg
 [Shape.int u8,Shape.str,Shape.slice,Shape.int u8,Shape.any,Shape.str,Shape.int i64,Shape.slice]] x=true)/\∃(I:IT),I [] [[int i64 (-1:Int)]] [] m' 0/\(∀(n:Int)(s:ByteArray)(a:Option Addr) (ai c
 : Nat) (a4:Int) (v:Value) (a5:ByteArray) (a6:Int) (a7:Option Addr) (a8 a9:Nat) (cs:List Value) (aa:Mem) (aj:Nat),lV [int u8 a4,v,string a5,int i64 a6,slice a7 a8 a9] λxL=>lV (int u8 n ::
 string s::slice a ai c::xL) λam=>m'.le aa->List.get?Internal xs aj=some [agg (Array.mk am)]->I [] [cs] [] aa aj->∀(b:Nat),lE (some (Box.mk b am 54 8 false true)::al) λac=>chk (v.oneCell'&&true) (∃(J:JT),br (n == (3:Int)) (∃(f:Fx),Eng.Zs8 cs 0 λv=>∃(R:RT),R=f 3 [agg (Array.mk xL)] aa/\CX Tryz.prog 76 (Array.mk [agg (Array.mk xL)]) aa [] R/\Za3 (Shape.int i64) R/\∀(n:Int)
 (m':Mem),aa.le m'->R (int i64 n) m' []->chk (Za6 i64 v&&decide (i64=i64)) (∀(M:Mem),aa.le M->m'.le M->Zac ac/\J [] [[int i64 (if n > RowKit.intOf v then n else RowKit.intOf v)]] [] M))
 (Zac ac/\J [] [cs] [] aa)/\∀(cs:List Value)(m':Mem),aa.le m'->J [] [cs] [] m'->∃(ad:IT),inI ad [int i64 0] [cs] [] m'/\∀(n:Int)(cs:List Value)(ab:Mem)(af:Nat),lV [int i64
 (i64.wrap (n+(1:Int)))] λxL=>m'.le ab->ad [int i64 n] [cs] [] ab af->br (decide (n < (↑ai:Int))) (atA a λb o=>Zae n ai/\∃v an ae ao ap aq ar au:Value,lV [ao,ap,aq,ar,au] λak=>lE (Za6 u8 v&&decide (u8=u8)) λyL=>ab.reads b (o+Int.toNat n*8) (v::an::ae::ak)/\∀(b:Nat),chk
 (v.oneCell'&&(an.oneCell'&&(ae.oneCell'&&(ao.oneCell'&&(ap.oneCell'&&(aq.oneCell'&&(ar.oneCell'&&(au.oneCell'&&true)))))))) (chk yL (br (RowKit.intOf v ==
 (3:Int)) (Eng.Zs8 cs 0 λv=>chk (Za6 i64 v&&Za6 i64 ae) (Zac ac/\nxI af ad xL [[int i64 (if RowKit.intOf ae > RowKit.intOf v then RowKit.intOf ae else RowKit.intOf v)]] [] ab)) (chk yL (br (RowKit.intOf
 v == (4:Int)) (∃(f:Fx),Eng.Zs8 cs 0 λv=>∃(R:RT),R=f 3 [agg (Array.mk ak)] ab/\CX Tryz.prog 76 (Array.mk [agg (Array.mk ak)]) ab [] R/\Za3 (Shape.int i64) R/\∀(n:Int)(m':Mem),ab.le m'->R
 (int i64 n) m' []->chk (Za6 i64 v&&decide (i64=i64)) (∀(M:Mem),ab.le M->m'.le M->Zac ac/\nxI af ad xL [[int i64 (if n > RowKit.intOf v then n else RowKit.intOf v)]] [] M)) (Zac ac/\nxI af ad
 xL [cs] [] ab)))))) (Zac al/\I [] [cs] [] ab (aj+1))))/\∀(cs:List Value)(aa:Mem),m'.le aa->I [] [cs] [] aa (xs.length)->Eng.Zs8 cs 0 λv=>rtM m aa R v)):CX Tryz.prog 30 #[.agg #[.int .u8 aA,.bool aD,.bool aG,.int .u8 aF,.int .u64 bC,.int .u64 bD,.int .u64 bG,.int .u64 dY,.int .i64 dZ,.int .i64 eA,.slice bV bW bX,.string cV,.int .i64 cW,.slice bY bZ cA,.string cX,.int .i64 cY]] m [] R:=
 Zad (E:=ZpG) Zao mix Tryz.func30 (by kernel_rfl) (Eq.mp (by kernel_rfl) h)
def ZcU:Env:={ EB with
 loops:=(λi=>bif Nat.beq i 4 then⟨[(13,.int .i64)],[],[],false⟩ else⟨[],[],[],false⟩)
 dr:=(λi=>bif Nat.beq i 6 then[⟨0,[],[],none,[],[]⟩,⟨1,[],[],none,[],[]⟩,⟨2,[],[],none,[0,1],[]⟩,⟨3,[],[],none,[0,1,2],[]⟩,⟨4,[],[],none,[],[]⟩,⟨5,[],[],none,[],[]⟩,⟨6,[],[],none,[4,5],[]⟩,⟨7,[],[],none,[4,5,6],[]⟩,⟨8,[],[],none,[0,1,2,3,4,5,6,7],[]⟩]else[]) }
theorem ZcQ(p0a:Option Addr)(p0n p0c:Nat)(p1a:Option Addr)(p1n p1c:Nat)(m:Mem)(R:RT)(h:
 br (!(↑p0n:Int) == (↑p1n:Int)) (rtM m m R (bool false)) (∃(I:IT),inI I [int i64 0] [] [] m/\∀(n:Int)(m':Mem)(n_1:Nat),m.le m'->I [int i64 n] [] [] m' n_1->br (decide (n < (↑p0n:Int))) (atA p0a
 λb o=>Zae n p0n/\∃(v:Value),m' b (o+Int.toNat n*1)=some v/\atA p1a λb o=>Zae n p1n/\∃(v_1:Value),m' b (o+Int.toNat n*1)=some v_1/\chk (Za6 i64 v&&Za6 i64 v_1) (br
 (!RowKit.intOf v == RowKit.intOf v_1) (rtM m m' R (bool false)) (nxI n_1 I [int i64 (i64.wrap (n+(1:Int)))] [] [] m'))) (rtM m m' R (bool true)))):CX Tryz.prog 38 #[.slice p0a p0n p0c,.slice p1a p1n p1c] m [] R:=
 Zad (E:=ZcU) Zao mix Tryz.func38 (by kernel_rfl) (Eq.mp (by kernel_rfl) h)
def Zb2:Env:={ EB with
 loops:=(λi=>bif Nat.beq i 4 then⟨[(13,.int .i64)],[],[],false⟩ else⟨[],[],[],false⟩)
 dr:=(λi=>bif Nat.beq i 6 then[⟨0,[],[],none,[],[]⟩,⟨1,[],[],none,[],[]⟩,⟨2,[],[],none,[0,1],[]⟩,⟨3,[],[],none,[0,1,2],[]⟩,⟨4,[],[],none,[],[]⟩,⟨5,[],[],none,[],[]⟩,⟨6,[],[],none,[4,5],[]⟩,⟨7,[],[],none,[4,5,6],[]⟩,⟨8,[],[],none,[0,1,2,3,4,5,6,7],[]⟩]else[]) }
theorem ZbX(p0a:Option Addr)(p0n p0c:Nat)(p1a:Option Addr)(p1n p1c:Nat)(m:Mem)(R:RT)(h:
 br (!(↑p0n:Int) == (↑p1n:Int)) (rtM m m R (bool false)) (∃(I:IT),inI I [int i64 0] [] [] m/\∀(n:Int)(m':Mem)(n_1:Nat),m.le m'->I [int i64 n] [] [] m' n_1->br (decide (n < (↑p0n:Int))) (atA p0a
 λb o=>Zae n p0n/\∃(v:Value),m' b (o+Int.toNat n*1)=some v/\atA p1a λb o=>Zae n p1n/\∃(v_1:Value),m' b (o+Int.toNat n*1)=some v_1/\chk (Ziz v&&Ziz v_1) (br
 (!ByteArray.toList (Zcg v) == ByteArray.toList (Zcg v_1)) (rtM m m' R (bool false)) (nxI n_1 I [int i64 (i64.wrap (n+(1:Int)))] [] [] m'))) (rtM m m' R (bool true)))):CX Tryz.prog 42 #[.slice p0a p0n p0c,.slice p1a p1n p1c] m [] R:=
 Zad (E:=Zb2) Zao mix Tryz.func42 (by kernel_rfl) (Eq.mp (by kernel_rfl) h)
end Go.Proofs.YtpjepnkiiojgfaaGreat
namespace Go.Proofs.YtpjepnkiiojgfaaGreat
open Go Go.Eng Go.Rx Go.Proofs Go.RowKit
set_option maxRecDepth 100000
def iC(z:Int):List Value:=[.int .i64 z]
theorem ZyQ(z:Int):(iC z).length=1:=rfl
theorem ZyR(z:Int):∀u∈iC z,u.oneCell'=true:=λu hu=>by
 obtain rfl:u=.int .i64 z:=by simpa[iC]using hu
 rfl
theorem Zrh:∀l:List Int,(l.map iC).flatten=Zd5 l
 | []=>rfl
 | z::l=>by
  have:=Zrh l
  simp only[List.map_cons,List.flatten_cons,this];rfl
theorem Zz5(a b:ByteArray):(a == b)=decide (a=b):=by
 rw[Bool.eq_iff_iff,decide_eq_true_eq]
 cases a with|mk x=>cases b with|mk y=>
 show(x == y)=true↔_
 rw[beq_iff_eq,ByteArray.mk.injEq]
theorem Zvd(a b:ByteArray):EqIs Tryz.prog 9 (.string a) (.string b) (decide (a=b)):=by
 rw[<-Zz5]
 exact Zp0 Tryz.underlying9 (by simp[Instr.sameNow]) (λop ox oy w=>by cases op <;> simp[eqGuard])
abbrev gN(k:Nat):Value:=.int .i64 k
def ZvF(m:Mem)(bm:Nat)(L:List Sta)(i:Nat):Prop:=m.k bm=some (Zx9 Value.string gN (ZcN L i))
theorem Zoo{m:Mem}{bm:Nat}{L:List Sta}{i:Nat}(hm:ZvF m bm L i)(n:ByteArray):∃r:Option Nat,LookIs Tryz.prog 9 (.string n) (Zx9 Value.string gN (ZcN L i)) (.int .i64 0) ((r.map gN).getD (.int .i64 0)) r.isSome/\(∀k,r=some k->(n,k)∈ZcN L i)/\(r=none->n ∉ (ZcN L i).map (·.1)):=by
 by_cases h:n∈(ZcN L i).map (·.1)
 ·obtain⟨q,hq,ib⟩:=List.mem_map.1 h
  obtain⟨n',k⟩:=q
  obtain rfl:n'=n:=ib
  exact⟨some k,⟨some (gN k),ZtE Zvd n' k _ hq (Zky L i),rfl,rfl⟩,(λk' e=>by cases e;exact hq),λe=>by cases e⟩
 ·exact⟨none,⟨none,Zmc Zvd n _ h,rfl,rfl⟩,(λk' e=>by cases e),λ_=>h⟩
theorem Zve{L:List Sta}{n:ByteArray}{r:Option Nat}(h1:∀k,r=some k->(n,k)∈ZcN L L.length)(h2:r=none->n ∉ (ZcN L L.length).map (·.1)):goI L n=r:=by
 cases r with
 | some k=>exact Zmd.2 (h1 k rfl)
 | none=>
  cases e:goI L n with
  | none=>rfl
  | some k=>exact absurd (List.mem_map.2 ⟨_,Zmd.1 e,rfl⟩) (h2 rfl)
structure Il where
 a:Option Addr
 c:Nat
 l:List Int
def Il.cs(y:Il):List Value:=[.slice y.a y.l.length y.c]
theorem Il.len(y:Il):y.cs.length=1:=rfl
theorem Il.one(y:Il):∀u∈y.cs,u.oneCell'=true:=λu hu=>by
 obtain rfl:u=_:=by simpa[Il.cs]using hu
 rfl
def QT(L:List Sta)(x:Sta)(y:Il)(μ:Mem):Prop:=y.l=ZxF L x/\rowRd μ y.a (Zd5 y.l)
def TgI(L:List Sta)(m:Mem)(x:Sta):Value->Mem->List (List Value)->Prop:=λv m' _=>∃y:Il,v=.slice y.a y.l.length y.c/\QT L x y (nw m m')
theorem Zop(L:List Sta)(x:Sta)(m:Mem)(c0b bm:Nat)(hx:RepS m x)(hc:m.reads c0b 0 [.map (some bm)])(hk:ZvF m bm L L.length):
  CX Tryz.prog 78 #[.agg x.cs.toArray,.pointer (some ⟨c0b,0,none⟩)] m [] (TgI L m x):=by
 have je:x.rules.length<=100000:=hx.len
 apply Zf3 (c0b:=c0b) (c0o:=0)
 intro b m1 aE jI gc vR
 refine⟨λxs css tvs mm q=>∃(i:Nat)(a:Option Addr)(c:Nat),i<=x.rules.length/\xs=[.slice a (Zld L (x.rules.take i)).length c,.int .i64 i]/\tvs=[.slice a (Zld L (x.rules.take i)).length c]/\m1.le mm/\rowRd mm a (Zd5 (Zld L (x.rules.take i)))/\(∀b',Yi (.slice a (Zld L (x.rules.take i)).length c) b'->m1.free b'/\m1.k b'=none)/\q=x.rules.length - i,⟨_,0,none,0,by omega,rfl,rfl,Mem.le_refl _,.inl rfl,(λb' h=>by simp[Yi,Tok.blk]at h),rfl⟩,?_⟩
 rintro a n c z a2 n2 c2 mm q _ ⟨i,a',c',hi,cE,cD,hM,aB,bK,rfl⟩
 simp only[List.cons.injEq,Value.slice.injEq,Value.int.injEq,true_and,and_true]at cE cD
 obtain⟨⟨rfl,rfl,rfl⟩,rfl⟩:=cE
 obtain⟨rfl,rfl,rfl⟩:=cD
 have aH:=ZwB L (x.rules.take i)
 rw[List.length_take]at aH
 have js:IntKind.i64.wrap ((i:Int)+1)=((i+1:Nat):Int):=by rw[Zal (by omega) (by omega)];rfl
 have iV:=mLt aE hM
 refine ZaA (λaC=>?_) (λbJ=>?_)
 ·have aC:(i:Int) < (x.rules.length:Nat):=aC
  obtain⟨r,hr⟩:=Zdz (show i < x.rules.length by omega)
  obtain⟨b2,o2,fy,iA⟩:=Zaj Ru.len (hx.mono iV).row hr (by omega)
  have cB:=ZuK (L:=L) hr
  obtain⟨ro,uf,ie,j0⟩:=Zoo (m:=m) hk r.go
  have ug:=Zve ie j0
  refine⟨b2,o2,fy,⟨by omega,aC⟩,_,_,_,_,_,_,_,_,_,_,_,_,_,_,_,_,iA,λb3=>Zaa rfl ⟨_,(hc.mono iV) 0 _ rfl,bm,_,_,_,rfl,iV.k _ _ hk,ZiJ Tryz.underlying9 _,uf,?_⟩⟩
  have jt:ZxE L r=none->nxI (x.rules.length - i) (λxs css tvs mm q=>∃(i:Nat)(a:Option Addr)(c:Nat),i<=x.rules.length/\xs=[.slice a (Zld L (x.rules.take i)).length c,.int .i64 i]/\tvs=[.slice a (Zld L (x.rules.take i)).length c]/\m1.le mm/\rowRd mm a (Zd5 (Zld L (x.rules.take i)))/\(∀b',Yi (.slice a (Zld L (x.rules.take i)).length c) b'->m1.free b'/\m1.k b'=none)/\q=x.rules.length - i) [.slice a2 (Zld L (x.rules.take i)).length c2,.int .i64 (IntKind.i64.wrap ((i:Int)+1))] [] [.slice a2 (Zld L (x.rules.take i)).length c2] mm:=λhe=>by
   rw[he,Option.toList_none,List.append_nil]at cB
   exact⟨x.rules.length - (i+1),by omega,i+1,a2,c2,by omega,by rw[js,cB],by rw[cB],hM,by rw[cB];exact aB,by rw[cB];exact bK,rfl⟩
  cases ro with
  | none=>
   have ht:ZxE L r=none:=by unfold ZxE;rw[ug];split <;> rfl
   exact⟨false,Zhy rfl ⟨rfl,rfl,rfl⟩,Zhy rfl ⟨rfl,jt ht⟩⟩
  | some k=>
   by_cases hz:r.go.size=0
   ·have ht:ZxE L r=none:=by unfold ZxE;rw[if_pos hz]
    refine⟨false,ZsF rfl (Zaa rfl ⟨rfl,rfl,?_⟩),Zhy rfl ⟨rfl,jt ht⟩⟩
    show[Value.bool (!(r.go.toList == ByteArray.toList ⟨#[]⟩))]=_
    rw[Zwj,hz];rfl
   ·have ht:ZxE L r=some (k:Int):=by unfold ZxE;rw[if_neg hz,ug];rfl
    have oR:=ZyA ug
    refine⟨true,ZsF rfl (Zaa rfl ⟨rfl,rfl,?_⟩),ZsF rfl (Zaa rfl λb4 fT=>?_)⟩
    ·show[Value.bool (!(r.go.toList == ByteArray.toList ⟨#[]⟩))]=_
     rw[Zwj,show(r.go.size == 0)=false by simpa using hz];rfl
    rw[ht,Option.toList_some]at cB
    refine Zcc ZyQ ZyR (ts:=Zld L (x.rules.take i)) fT (k:Int) (by rw[Zrh];exact aB) 8 (by omega) (by omega) (.inl rfl) λa5 c5 m5 cC bM gT=>?_
    have oC:=mLt (Mem.le_add fT _) cC
    refine⟨rfl,x.rules.length - (i+1),by omega,i+1,a5,c5,by omega,by rw[js,cB,zA1];rfl,by rw[cB,zA1];rfl,mLt hM oC,by rw[cB,<-Zrh];exact bM,λb' hb'=>?_,rfl⟩
    rcases gT.2 with h|⟨bb,oo,ha',h⟩
    ·rw[h]at hb';simp[Yi,Tok.blk]at hb'
    ·subst ha'
     obtain rfl:bb=b':=by simpa[Yi,Tok.blk]using hb'
     rcases h with h|⟨_,h2,h3⟩
     ·exact bK _ (by rw[h];simp[Yi,Tok.blk])
     ·have qz:=mLt hM (Mem.le_add fT (iC k))
      exact⟨Zba qz h2,Zd3 qz h3⟩
 ·have bJ:¬(i:Int) < (x.rules.length:Nat):=bJ
  have hi:i=x.rules.length:=by omega
  subst hi
  rw[List.take_length]at aB bK aH ⊢
  have eW:=ZnO (Zld L x.rules)
  have uh:∀b',Yi (.slice a2 (Zld L x.rules).length c2) b'->m.free b'/\m.k b'=none:=λb' h=>⟨Zba aE (bK b' h).1,Zd3 aE (bK b' h).2⟩
  refine⟨_,_,Zlq (Zld L x.rules) a2 c2 mm aB (by omega),(λt ht bb eB=>by
   obtain rfl:t=_:=by simpa using ht
   exact eB),(λbb eB=>.inl ⟨_,by simp,eB⟩),(λv _ _ _ h=>by rw[h.1];rfl),?_⟩
  rintro m2 aI _ a3 c3 d3 ⟨_,_,cD,cU⟩
  simp only[List.cons.injEq,Value.slice.injEq,and_true]at cD
  obtain⟨rfl,rfl,rfl⟩:=cD
  have vS:=ZgJ (ZqH (Zld L x.rules)) a3 d3 m2 cU (by omega)
  rw[eW]at vS
  refine⟨_,_,vS,(λt ht bb eB=>by
   obtain rfl:t=_:=by simpa using ht
   exact eB),(λbb eB=>.inl ⟨_,by simp,eB⟩),(λv _ _ _ h=>by rw[h.1];rfl),?_⟩
  rintro a4 n4 c4 m3 aP _ a6 c6 d6 ⟨hv,_,_,iB⟩
  simp only[Value.slice.injEq]at hv
  obtain⟨rfl,rfl,rfl⟩:=hv
  have fR:m.le m2:=mLt (ZfT iV uh) aI
  have gU:m.le m3:=mLt (ZfT fR uh) aP
  refine ZaM gU ⟨⟨a4,c4,ZxF L x⟩,rfl,rfl,Zja ?_ ?_⟩
  ·rcases iB with h|⟨b5,o5,oA,h⟩
   ·refine .inl ?_
    unfold Zd5 at h ⊢
    rw[List.map_append]at h
    exact(List.append_eq_nil_iff.1 h).1
   ·refine .inr ⟨b5,o5,oA,λj v hj=>h j v ?_⟩
    have hj:(Zd5 (Go.Lib.compact (ZqH (Zld L x.rules))))[j]?=some v:=hj
    unfold Zd5 at hj ⊢
    rw[List.map_append,zA5 (zA0 hj).1]
    exact hj
  ·refine .inr λb o e=>(uh b ?_).1
   have e:a4=some ⟨b,o,none⟩:=e
   rw[e];simp[Yi,Tok.blk]
theorem Zvf(cb:Nat)(ca:List Value)(Q:Sta->Il->Mem->Prop)(L:List Sta)(a:Option Addr)(d:Nat)(m:Mem)(aB:rowRd m a (L.map Sta.cs).flatten)(hl:L.length<=few)(gX:∀x∈L,∀m2,m.le m2->CX Tryz.prog cb (Array.mk (.agg x.cs.toArray::ca)) m2 [] (λv m3 _=>∃y:Il,v=.slice y.a y.l.length y.c/\Q x y (nw m2 m3))):
  CX Tryz.prog 77 #[.slice a L.length d,.func (.func cb) #[] (Array.mk ca)] m [] (ZqB Il.cs Q m L):=by
 have hl:L.length<=100000:=hl
 apply Zck (p1fi:=[]) (p1ca:=ca)
 refine⟨λxs css tvs m' q=>∃(k:Nat)(a':Option Addr)(c':Nat)(L':List Il)(μ:Nat->Mem),k<=L.length/\q=L.length - k/\xs=[.slice a' L'.length c',.int .i64 k]/\tvs=[.slice a' L'.length c']/\Each Il.cs Q m m' (L.take k) a' c' L' μ,⟨_,0,none,0,[],_,by omega,rfl,rfl,rfl,Each.nil m⟩,?_⟩
 rintro a1 n1 c1 z a2 n2 c2 m2 q _ ⟨k,a',c',L',μ,hk,hq,cE,cD,hE⟩
 simp only[List.cons.injEq,Value.slice.injEq,Value.int.injEq,true_and,and_true]at cE cD
 obtain⟨⟨rfl,rfl,rfl⟩,rfl⟩:=cE
 obtain⟨rfl,rfl,rfl⟩:=cD
 have jr:L'.length=k:=by rw[hE.len,List.length_take];omega
 refine Zab (λaC=>?_) (λbJ=>?_)
 ·have aK:k < L.length:=by have:=zA6 aC;omega
  obtain⟨x,hx⟩:=Zaq aK
  obtain⟨b,o,ha,cF⟩:=Zaj Sta.len aB hx (by omega)
  have hw:IntKind.i64.wrap ((k:Int)+1)=((k+1:Nat):Int):=by rw[Zal (by omega) (by omega)];rfl
  refine⟨b,o,ha,⟨by omega,by omega⟩,_,_,cF.mono hE.le,λb3=>Zaa rfl ⟨_,trivial,gX x (zA2 hx) m2 hE.le,(λv _ _ ⟨y,h,_⟩=>by rw[h];rfl),?_⟩⟩
  rintro ya yn yc m3 aP ⟨y,hv,hQ⟩ b4 fT
  simp only[Value.slice.injEq]at hv
  obtain⟨rfl,rfl,rfl⟩:=hv
  refine Zcc Il.len Il.one fT y (hE.row.mono aP) 24 (by omega) (by omega) (.inl rfl) λa5 c5 m5 cC bM aQ=>?_
  have cB:=hE.step Il.len (by omega) hx aP hQ fT cC bM aQ
  exact⟨L.length - (k+1),by omega,k+1,a5,c5,L'++[y],_,by omega,rfl,by rw[hw,zA1];rfl,by rw[zA1];rfl,cB⟩
 ·have dA:k=L.length:=by have:=of_decide_eq_false bJ;omega
  rw[dA,List.take_length]at hE
  exact⟨m2,hE.le,Mem.le_refl _,_,_,L',μ,rfl,hE⟩
def TgR(s:Sc):Value->Mem->List (List Value)->Prop:=λv m' _=>∃(a:Option Addr)(c:Nat)(L':List Il),v=.slice a L'.length c/\L'.map Il.l=(if s.light then s.states.map (ZxF s.states)else[])/\rowRd m' a (L'.map Il.cs).flatten/\∀y∈L',rowRd m' y.a (Zd5 y.l)
theorem Zvg{s}:∀(v:Value)(m':Mem) (css:List (List Value)),TgR s v m' css->Shape.fits .slice v=true:=λv _ _ ⟨_,_,_,h,_⟩=>by rw[h];rfl
theorem ZpH(s:Sc)(m:Mem)(hr:RepC m s):CX Tryz.prog 32 #[s.v] m [] (TgR s):=by
 have eW:s.states.length<=100000:=hr.len
 apply ZhV
 intro b m1 aE _ gc _ _
 refine Zag (ZbW s m1 (hr.mono aE)) λm2 aI=>Zab (λh=>Zaf (mLt aE aI) ?_) (λh=>?_)
 ·have hl:s.light=false:=by simpa using h
  exact⟨none,0,[],rfl,by rw[hl];rfl,.inl rfl,λy hy=>by cases hy⟩
 have hl:s.light=true:=by simpa using h
 have cI:=mLt aE aI
 intro bm hf hk b1
 have ij:m.k bm=none:=Zd3 cI hk
 refine⟨λxs _ _ mm q=>∃i:Nat,i<=s.states.length/\xs=[.int .i64 i]/\m2.le mm/\ZvF mm bm s.states i/\q=s.states.length - i,⟨_,0,by omega,rfl,Mem.le_updK (Mem.le_refl _) hk _,Mem.updK_same _ _ _,rfl⟩,?_⟩
 rintro z mm q _ ⟨i,hi,hz,hM,hE,rfl⟩
 obtain rfl:z=i:=by simpa using hz
 have js:IntKind.i64.wrap ((i:Int)+1)=((i+1:Nat):Int):=by rw[Zal (by omega) (by omega)];rfl
 have iV:=mLt cI hM
 refine ZaA (λaC=>?_) (λbJ=>?_)
 ·have aC:(i:Int) < (s.states.length:Nat):=aC
  obtain⟨x,hx⟩:=Zdz (show i < s.states.length by omega)
  obtain⟨b2,o2,fy,iA⟩:=Zaj Sta.len (hr.mono iV).row hx (by omega)
  obtain⟨ro,uf,ie,j0⟩:=Zoo hE x.s
  have cB:=Zss hx
  refine⟨b2,o2,fy,⟨by omega,aC⟩,_,_,iA,λb3=>Zaa rfl ⟨bm,_,_,_,rfl,hE,ZiJ Tryz.underlying9 _,uf,?_⟩⟩
  cases ro with
  | some k=>
   have fg:Zyz (ZcN s.states i) x.s=true:=ZfI.2 (List.mem_map.2 ⟨_,ie k rfl,rfl⟩)
   rw[if_pos fg]at cB
   exact Zhy rfl ⟨rfl,s.states.length - (i+1),by omega,i+1,by omega,by rw[js],hM,by unfold ZvF;rw[cB];exact hE,rfl⟩
  | none=>
   have ir:=j0 rfl
   have fg:Zyz (ZcN s.states i) x.s=false:=by
    cases e:Zyz (ZcN s.states i) x.s with
    | false=>rfl
    | true=>exact absurd (ZfI.1 e) ir
   rw[fg,if_neg (by decide)]at cB
   exact ZsF rfl ⟨bm,_,_,rfl,hE,ZiJ Tryz.underlying9 _,ZqG (g:=gN) Zvd x.s i _ ir,ij,rfl,s.states.length - (i+1),by omega,i+1,by omega,by rw[js],Mem.le_updK hM hk _,by unfold ZvF;rw[cB];exact Mem.updK_same _ _ _,rfl⟩
 ·have bJ:¬(i:Int) < (s.states.length:Nat):=bJ
  have hi:i=s.states.length:=by omega
  subst hi
  intro m3 aP jD
  have dG:=mLt iV aP
  have jN:=hr.mono dG
  refine Zan (Zvf 78 _ (QT s.states) s.states s.sa s.sc m3 jN.row hr.len λx hx m4 bU=>?_) Ze0 ?_
  ·exact Zop s.states x m4 b1 bm ((jN.all x hx).mono bU) (jD.mono bU) (bU.k _ _ (aP.k _ _ hE))
  ·rintro a n c m5 cC ⟨a',c',L',μ,hv,ui⟩
   simp only[Value.slice.injEq]at hv
   obtain⟨rfl,rfl,rfl⟩:=hv
   refine ZaM (mLt dG cC) ⟨_,_,L',rfl,?_,ui.row,λy hy=>?_⟩
   ·rw[hl,if_pos rfl]
    exact ui.same λx y μ hq=>hq.1
   ·obtain⟨i,x,_,_,hq,hs⟩:=ui.at hy
    exact hq.2.mono (mLt hs (Zec _ _))
end Go.Proofs.YtpjepnkiiojgfaaGreat
end
