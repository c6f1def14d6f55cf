/- Part of the proof: functions of the program. No condition. -/
import Derived.Test.YtpjepnkiiojgfaaGreatPC25E
import Derived.Test.YtpjepnkiiojgfaaGreatPC25MJ
import Derived.Test.YtpjepnkiiojgfaaGreatMr
import Derived.Test.YtpjepnkiiojgfaaGreatPEnv
import Derived.Test.YtpjepnkiiojgfaaGreatMc
import Derived.Test.YtpjepnkiiojgfaaGreatPVM
import Derived.Test.YtpjepnkiiojgfaaGreatPC25MA
set_option linter.unusedVariables false
set_option linter.unusedSimpArgs false
set_option linter.unusedSectionVars false
noncomputable section
namespace Go.Proofs.YtpjepnkiiojgfaaGreat
open Go Go.Eng Go.Rx Go.Proofs Go.RowKit
set_option maxRecDepth 100000
set_option maxHeartbeats 4000000 in
def CntW(b n p:Int):Prop:=0<=n/\n<=b/\(n=p\/(20000 < n/\20000 < p))
theorem CntW.out{b n p t:Int}(h:CntW b n p)(hn:n > 20000)(ht:p<=t):t > 20000:=by
 rcases h.2.2 with e|⟨_,e⟩ <;> omega
theorem CntW.eq{b n p:Int}(h:CntW b n p)(hn:¬n > 20000):n=p:=by
 rcases h.2.2 with e|⟨e,_⟩ <;> omega
theorem ZcS(s:Sc)(m:Mem)(hr:RepC m s):CX Tryz.prog 19 #[s.v] m [] (Ret (.bool s.light)):=by
 apply Zkq
 intro b m1 aH _
 have gq:=hr.vlen
 have dS:=hr.len
 unfold few at gq dS
 have dark:∀{M:Mem},m1.le M->s.weight > 20000->∀{n:Int},n > 20000->∃m'':Mem,m.le m''/\m''.le M/\Ret (.bool s.light) (.bool (decide (n<=20000))) m'' []:=λ{M} hM hw {n} hn=>Zaj (mLt aH hM) (by
  show Value.bool _=Value.bool s.light
  unfold Sc.light
  rw[decide_eq_false (by omega),decide_eq_false (by omega)])
 generalize hV:((s.vars.length:Int)+s.states.length)=V0
 have re:0<=V0/\V0<=200000:=by omega
 rw[Zai (by omega) (by omega)]
 have sW:s.weight=V0+ZaI (s.states.map wS):=by unfold Sc.weight;omega
 refine⟨λxs _ _ m' q=>∃(i:Nat)(n:Int),i<=s.states.length/\xs=[.int .i64 n,.int .i64 i]/\CntW 300000 n (V0+ZaI ((s.states.take i).map wS))/\q=s.states.length - i,⟨_,0,V0,by omega,rfl,⟨by omega,by omega,.inl (by simp[ZaI])⟩,rfl⟩,?_⟩
 rintro n k0 m2 q aK ⟨i,n',hi,hx,hC,hq⟩
 simp only[List.cons.injEq,Value.int.injEq,and_true,true_and]at hx
 obtain⟨rfl,rfl⟩:=hx
 subst hq
 have fB:IntKind.i64.wrap ((i:Int)+1)=((i+1:Nat):Int):=by rw[Zai (by omega) (by omega)];rfl
 simp only[fB,zA8]
 refine Zat (λaC=>?_) (λbF=>?_)
 ·have aP:i < s.states.length:=by omega
  obtain⟨x,hx⟩:=Zcz aP
  have j8:=zA2 hx
  obtain⟨b1,o1,ha,dx⟩:=Zal Sta.len ((hr.mono (mLt aH aK)).row) hx (by omega)
  have cQ:=hr.all x j8
  have jy:=cQ.len
  unfold few at jy
  refine⟨b1,o1,ha,⟨by omega,by omega⟩,_,_,dx,λb2=>Zaa rfl (Zaa rfl ?_)⟩
  generalize kM:V0+ZaI ((s.states.take i).map wS)=P0 at hC
  have sX:V0+ZaI ((s.states.take (i+1)).map wS)=P0+wS x:=by rw[Ze2 wS hx];omega
  have u4:P0+wS x<=s.weight:=by rw[<-sX,sW];have:=Ze3 wS ZwE s.states (i+1);omega
  refine⟨λxs _ _ m' q=>∃(k:Nat)(n:Int),k<=x.rules.length/\xs=[.int .i64 n,.int .i64 k]/\CntW 300000 n (P0+ZaI ((x.rules.take k).map wR))/\q=x.rules.length - k,⟨_,0,n,by omega,rfl,by simpa[ZaI]using hC,rfl⟩,?_⟩
  rintro n1 k1 m3 q aR ⟨k,n1',hk,fN,kj,hq⟩
  simp only[List.cons.injEq,Value.int.injEq,and_true,true_and]at fN
  obtain⟨rfl,rfl⟩:=fN
  subst hq
  have fc:IntKind.i64.wrap ((k:Int)+1)=((k+1:Nat):Int):=by rw[Zai (by omega) (by omega)];rfl
  simp only[fc,zA8]
  have dh:m.le m3:=mLt aH (mLt aK aR)
  refine Zat (λcY=>?_) (λdg=>?_)
  ·have iT:k < x.rules.length:=by have:(k:Int) < (x.rules.length:Int):=cY;omega
   obtain⟨r,gw⟩:=Zcz iT
   have sV:=zA2 gw
   have eK:=cQ.all r sV
   obtain⟨b3,o3,eu,jB⟩:=Zal Ru.len ((cQ.row).mono dh) gw (by omega)
   have mh:=eK.len
   unfold few at mh
   generalize wp:P0+ZaI ((x.rules.take k).map wR)=P1 at kj
   have nN:P0+ZaI ((x.rules.take (k+1)).map wR)=P1+wR r:=by rw[Ze2 wR gw];omega
   have u5:P1+wR r<=s.weight:=by
    rw[<-nN]
    have:=Ze3 wR Zvl x.rules (k+1)
    unfold wS at u4
    omega
   refine Zaa rfl ⟨b3,o3,eu,⟨by omega,by show(k:Int) < (x.rules.length:Int);omega⟩,_,_,_,_,_,_,_,_,_,_,_,_,_,_,_,_,jB,λb4=>Zaa rfl ?_⟩
   have aZ:=Zjf r.t
   refine Zb3 (Zrm r.t m3 (eK.t.mono dh)) λm4 bU=>?_
   have hO:(if(20000:Int) < r.t.size then(20000:Int)else r.t.size)=Zhm r.t.size 20000:=rfl
   have dH:0<=Zhm r.t.size 20000/\Zhm r.t.size 20000<=20000:=by unfold Zhm;split <;> omega
   rw[hO]
   have wq:=kj.1
   have wt:=kj.2.1
   refine⟨λxs _ _ m'=>∃n:Int,xs=[.int .i64 n]/\CntW 330000 n (P1+1+Zhm r.t.size 20000+(if r.t.light then 0 else 20001)),?_,?_⟩
   ·refine Zar (Zk0 r.t m4 (eK.t.mono (mLt dh bU))) λm5 cE=>Zab (λh=>⟨by trivial,20001,rfl,?_⟩) (λh=>⟨by trivial,_,rfl,?_⟩)
    ·have hl:r.t.light=false:=by simpa using h
     rw[hl,if_neg (by decide)]
     have hp:0<=P1:=by rcases kj.2.2 with e|⟨_,e⟩ <;> omega
     exact⟨by omega,by omega,.inr ⟨by omega,by omega⟩⟩
    ·have hl:r.t.light=true:=by simpa using h
     rw[hl,if_pos rfl,Zai (n:=1+Zhm r.t.size 20000) (by omega) (by omega),Zai (by omega) (by omega)]
     refine⟨by omega,by omega,?_⟩
     rcases kj.2.2 with e|⟨e1,e2⟩
     ·left;omega
     ·right;omega
   ·rintro n2 m5 cE ⟨n2',kH,qR⟩
    obtain rfl:n2=n2':=by simpa using kH
    generalize u6:P1+1+Zhm r.t.size 20000+(if r.t.light then 0 else 20001)=P2 at qR
    have fC:wR r=(P2 - P1)+ZaI (r.acts.map wA):=by unfold wR;rw[<-u6];omega
    have ii:m.le m5:=mLt dh (mLt bU cE)
    refine Zaa rfl ⟨λxs _ _ m' q=>∃(j:Nat)(n:Int),j<=r.acts.length/\xs=[.int .i64 n,.int .i64 j]/\CntW (330000+j*200000) n (P2+ZaI ((r.acts.take j).map wA))/\q=r.acts.length - j,⟨_,0,n2,by omega,rfl,by simpa[ZaI]using qR,rfl⟩,?_⟩
    rintro n3 k3 m6 q eA ⟨j,n3',hj,nO,kx,hq⟩
    simp only[List.cons.injEq,Value.int.injEq,and_true,true_and]at nO
    obtain⟨rfl,rfl⟩:=nO
    subst hq
    have u9:IntKind.i64.wrap ((j:Int)+1)=((j+1:Nat):Int):=by rw[Zai (by omega) (by omega)];rfl
    simp only[u9,zA8]
    have eW:=mLt ii eA
    have eZ:=kx.1
    have sO:=kx.2.1
    refine Zat (λeB=>?_) (λfl=>?_)
    ·have nP:j < r.acts.length:=by have:(j:Int) < (r.acts.length:Int):=eB;omega
     obtain⟨a,lB⟩:=Zcz nP
     have gD:=eK.all a (zA2 lB)
     obtain⟨b5,o5,lC,vb⟩:=Zal Ac.len ((eK.row).mono eW) lB (by omega)
     have gL:=gD.n
     unfold few at gL
     have wu:=ZgF a.e
     generalize ww:P2+ZaI ((r.acts.take j).map wA)=P3 at kx
     have rh:P2+ZaI ((r.acts.take (j+1)).map wA)=P3+wA a:=by rw[Ze2 wA lB];omega
     have ve:P3+wA a<=s.weight:=by
      have:=Ze3 wA Zq4 r.acts (j+1)
      omega
     refine Zaa rfl ⟨b5,o5,lC,⟨by omega,by show(j:Int) < (r.acts.length:Int);omega⟩,_,_,_,_,_,_,_,_,vb,λb6=>Zaa rfl ?_⟩
     refine⟨λ_ _ _=>Ret (.int .i64 (nE a.e)),_,rfl,ZmG a.e m6 (RepE.mono' gD.e eW),λv _ _ e=>by rw[show v=_ from e];rfl,λn8 m7 ew io=>Zaa rfl λM gS eD=>Zaa rfl ?_⟩
     obtain rfl:n8=nE a.e:=by cases io;rfl
     have ri:slN (Value.slice a.pa a.parts.length a.pc)=a.parts.length:=rfl
     rw[ri,Zai (n:=1+nE a.e) (by omega) (by omega),Zai (n:=1+nE a.e+(a.parts.length:Int)) (by omega) (by omega),Zai (by omega) (by omega)]
     have vg:wA a=(1+nE a.e+a.parts.length)+ZaI (a.parts.map λp=>nE p.e):=by unfold wA;omega
     have jE:=mLt eW gS
     refine⟨λxs _ _ m' q=>∃(w:Nat)(n:Int),w<=a.parts.length/\xs=[.int .i64 n,.int .i64 w]/\CntW (330000+(j+1)*200000) n (P3+(1+nE a.e+a.parts.length)+ZaI ((a.parts.take w).map λp=>nE p.e))/\q=a.parts.length - w,⟨_,0,_,by omega,rfl,⟨by omega,by omega,?_⟩,rfl⟩,?_⟩
     ·simp only[List.take_zero,List.map_nil,ZaI]
      rcases kx.2.2 with e|⟨e1,e2⟩
      ·left;omega
      ·right;omega
     rintro n4 k4 m8 q dG ⟨w,n4',hw,lz,lD,hq⟩
     simp only[List.cons.injEq,Value.int.injEq,and_true,true_and]at lz
     obtain⟨rfl,rfl⟩:=lz
     subst hq
     have q8:IntKind.i64.wrap ((w:Int)+1)=((w+1:Nat):Int):=by rw[Zai (by omega) (by omega)];rfl
     simp only[q8,zA8]
     have pp:=mLt jE dG
     have pq:m1.le m8:=mLt aK (mLt aR (mLt bU (mLt cE (mLt eA (mLt gS dG)))))
     have ma:=lD.1
     have rj:=lD.2.1
     refine Zat (λjF=>?_) (λjG=>?_)
     ·have nQ:w < a.parts.length:=by have:(w:Int) < (a.parts.length:Int):=jF;omega
      obtain⟨p,gI⟩:=Zcz nQ
      have fS:=gD.all p (zA2 gI)
      obtain⟨b7,o7,nR,vh⟩:=Zal Pt.len ((gD.row).mono pp) gI (by omega)
      have wx:=ZgF p.e
      have bO:=Ze2 (λp:Pt=>nE p.e) gI
      have vj:=Ze3 (λp:Pt=>nE p.e) (λp=>(ZgF p.e).1) a.parts w
      refine Zaa rfl ⟨b7,o7,nR,⟨by omega,by show(w:Int) < (a.parts.length:Int);omega⟩,_,_,_,_,_,_,_,_,vh,λb8=>Zaa rfl (Zat (λhd=>dark pq (lD.out hd (by omega)) hd) (λhd=>?_))⟩
      refine Zb3 (ZmG p.e m8 (RepE.mono' fS.e pp)) λm9 fI=>⟨by trivial,a.parts.length - (w+1),by omega,w+1,_,by omega,rfl,?_,rfl⟩
      have he:=lD.eq hd
      rw[Zai (by omega) (by omega),bO]
      exact⟨by omega,by omega,.inl (by omega)⟩
     ·have hw':w=a.parts.length:=by have:¬(w:Int) < (a.parts.length:Int):=jG;omega
      subst hw'
      rw[List.take_length]at lD
      refine⟨by trivial,r.acts.length - (j+1),by omega,j+1,n4,by omega,rfl,?_,rfl⟩
      rw[rh,vg]
      exact⟨lD.1,by push_cast;omega,by rcases lD.2.2 with e|e;left;omega;right;omega⟩
    ·have hj':j=r.acts.length:=by have:¬(j:Int) < (r.acts.length:Int):=fl;omega
     subst hj'
     rw[List.take_length]at kx
     have jD:m1.le m6:=mLt aK (mLt aR (mLt bU (mLt cE eA)))
     refine Zat (λhd=>dark jD (kx.out hd (by omega)) hd) (λhd=>⟨by trivial,x.rules.length - (k+1),by omega,k+1,n3,by omega,rfl,?_,rfl⟩)
     rw[nN,fC]
     exact⟨kx.1,by omega,.inl (by have:=kx.eq hd;omega)⟩
  ·have hk':k=x.rules.length:=by have:¬(k:Int) < (x.rules.length:Int):=dg;omega
   subst hk'
   rw[List.take_length]at kj
   refine⟨by trivial,s.states.length - (i+1),by omega,i+1,n1,by omega,rfl,?_,rfl⟩
   rw[sX];exact kj
 ·have hi':i=s.states.length:=by omega
  subst hi'
  rw[List.take_length,<-sW]at hC
  refine Zaj (mLt aH aK) ?_
  show Value.bool _=Value.bool s.light
  unfold Sc.light
  congr 1
  rw[decide_eq_decide]
  rcases hC.2.2 with e|⟨e1,e2⟩ <;> omega
theorem Zqp{x:List Value}{K:List Value->Prop}(h:∀y,K y):lV x K:=h x
theorem ZsC(cb:Nat)(Q:Pt->Pt->Mem->Prop)(L:List Pt)(a:Option Addr)(d:Nat)(m:Mem)(aA:rowRd m a (L.map Pt.cs).flatten)(hl:L.length<=few)(jH:∀x∈L,∀m2,m.le m2->CX Tryz.prog cb #[.agg x.cs.toArray] m2 [] (λv m3 _=>∃y:Pt,v=.agg y.cs.toArray/\Q x y (nw m2 m3))):
  CX Tryz.prog 91 #[.slice a L.length d,.func (.func cb) #[] #[]] m [] (ZoB Pt.cs Q m L):=by
 have hl:L.length<=100000:=hl
 apply ZbF (p1fi:=[]) (p1ca:=[])
 refine⟨λxs css tvs m' q=>∃(k:Nat)(a':Option Addr)(c':Nat)(L':List Pt)(μ:Nat->Mem),k<=L.length/\q=L.length - k/\xs=[.slice a' L'.length c',.int .i64 k]/\tvs=[.slice a' L'.length c']/\Each Pt.cs Q m m' (L.take k) a' c' L' μ,⟨_,0,none,0,[],_,by omega,rfl,rfl,rfl,Each.nil m⟩,?_⟩
 rintro a1 n1 c1 z a2 n2 c2 m2 q _ ⟨k,a',c',L',μ,hk,hq,bQ,bY,hE⟩
 simp only[List.cons.injEq,Value.slice.injEq,Value.int.injEq,true_and,and_true]at bQ bY
 obtain⟨⟨rfl,rfl,rfl⟩,rfl⟩:=bQ
 obtain⟨rfl,rfl,rfl⟩:=bY
 have gR:L'.length=k:=by rw[hE.len,List.length_take];omega
 refine Zab (λaC=>?_) (λbF=>?_)
 ·have aP:k < L.length:=by have:=zA6 aC;omega
  obtain⟨x,hx⟩:=Zaw aP
  obtain⟨b,o,ha,bT⟩:=Zal Pt.len aA hx (by omega)
  have hw:IntKind.i64.wrap ((k:Int)+1)=((k+1:Nat):Int):=by rw[Zai (by omega) (by omega)];rfl
  refine⟨b,o,ha,⟨by omega,by omega⟩,_,_,_,_,_,_,_,_,bT.mono hE.le,λb3=>Zaa rfl ⟨_,trivial,jH x (zA2 hx) m2 hE.le,(λv _ _ ⟨y,h,_⟩=>by rw[h];rfl),?_⟩⟩
  intros
  refine Zqp λys=>?_
  rintro aR ⟨y,hv,hQ⟩ b4 eN
  obtain rfl:ys=y.cs:=by simpa using hv
  have aZ:(L'.length+1)*96<=140737488355328:=by omega
  refine Zcy Pt.len Pt.one eN y (hE.row.mono aR) 96 aZ (by omega) (.inl rfl) λa5 c5 m5 cE bH aJ=>?_
  have bO:=hE.step Pt.len (by omega) hx aR hQ eN cE bH aJ
  exact⟨L.length - (k+1),by omega,k+1,a5,c5,L'++[y],_,by omega,rfl,by rw[hw,zA1];rfl,by rw[zA1];rfl,bO⟩
 ·have cO:k=L.length:=by have:=of_decide_eq_false bF;omega
  rw[cO,List.take_length]at hE
  exact⟨m2,hE.le,Mem.le_refl _,_,_,L',μ,rfl,hE⟩
theorem ZsD(cb:Nat)(Q:Ac->Ac->Mem->Prop)(L:List Ac)(a:Option Addr)(d:Nat)(m:Mem)(aA:rowRd m a (L.map Ac.cs).flatten)(hl:L.length<=few)(jH:∀x∈L,∀m2,m.le m2->CX Tryz.prog cb #[.agg x.cs.toArray] m2 [] (λv m3 _=>∃y:Ac,v=.agg y.cs.toArray/\Q x y (nw m2 m3))):
  CX Tryz.prog 88 #[.slice a L.length d,.func (.func cb) #[] #[]] m [] (ZoB Ac.cs Q m L):=by
 have hl:L.length<=100000:=hl
 apply Zba (p1fi:=[]) (p1ca:=[])
 refine⟨λxs css tvs m' q=>∃(k:Nat)(a':Option Addr)(c':Nat)(L':List Ac)(μ:Nat->Mem),k<=L.length/\q=L.length - k/\xs=[.slice a' L'.length c',.int .i64 k]/\tvs=[.slice a' L'.length c']/\Each Ac.cs Q m m' (L.take k) a' c' L' μ,⟨_,0,none,0,[],_,by omega,rfl,rfl,rfl,Each.nil m⟩,?_⟩
 rintro a1 n1 c1 z a2 n2 c2 m2 q _ ⟨k,a',c',L',μ,hk,hq,bQ,bY,hE⟩
 simp only[List.cons.injEq,Value.slice.injEq,Value.int.injEq,true_and,and_true]at bQ bY
 obtain⟨⟨rfl,rfl,rfl⟩,rfl⟩:=bQ
 obtain⟨rfl,rfl,rfl⟩:=bY
 have gR:L'.length=k:=by rw[hE.len,List.length_take];omega
 refine Zab (λaC=>?_) (λbF=>?_)
 ·have aP:k < L.length:=by have:=zA6 aC;omega
  obtain⟨x,hx⟩:=Zaw aP
  obtain⟨b,o,ha,bT⟩:=Zal Ac.len aA hx (by omega)
  have hw:IntKind.i64.wrap ((k:Int)+1)=((k+1:Nat):Int):=by rw[Zai (by omega) (by omega)];rfl
  refine⟨b,o,ha,⟨by omega,by omega⟩,_,_,_,_,_,_,_,_,bT.mono hE.le,λb3=>Zaa rfl ⟨_,trivial,jH x (zA2 hx) m2 hE.le,(λv _ _ ⟨y,h,_⟩=>by rw[h];rfl),?_⟩⟩
  intros
  refine Zqp λys=>?_
  rintro aR ⟨y,hv,hQ⟩ b4 eN
  obtain rfl:ys=y.cs:=by simpa using hv
  have aZ:(L'.length+1)*112<=140737488355328:=by omega
  refine Zcy Ac.len Ac.one eN y (hE.row.mono aR) 112 aZ (by omega) (.inl rfl) λa5 c5 m5 cE bH aJ=>?_
  have bO:=hE.step Ac.len (by omega) hx aR hQ eN cE bH aJ
  exact⟨L.length - (k+1),by omega,k+1,a5,c5,L'++[y],_,by omega,rfl,by rw[hw,zA1];rfl,by rw[zA1];rfl,bO⟩
 ·have cO:k=L.length:=by have:=of_decide_eq_false bF;omega
  rw[cO,List.take_length]at hE
  exact⟨m2,hE.le,Mem.le_refl _,_,_,L',μ,rfl,hE⟩
theorem ZsE(cb:Nat)(Q:Ru->Ru->Mem->Prop)(L:List Ru)(a:Option Addr)(d:Nat)(m:Mem)(aA:rowRd m a (L.map Ru.cs).flatten)(hl:L.length<=few)(jH:∀x∈L,∀m2,m.le m2->CX Tryz.prog cb #[.agg x.cs.toArray] m2 [] (λv m3 _=>∃y:Ru,v=.agg y.cs.toArray/\Q x y (nw m2 m3))):
  CX Tryz.prog 57 #[.slice a L.length d,.func (.func cb) #[] #[]] m [] (ZoB Ru.cs Q m L):=by
 have hl:L.length<=100000:=hl
 apply ZbG (p1fi:=[]) (p1ca:=[])
 refine⟨λxs css tvs m' q=>∃(k:Nat)(a':Option Addr)(c':Nat)(L':List Ru)(μ:Nat->Mem),k<=L.length/\q=L.length - k/\xs=[.slice a' L'.length c',.int .i64 k]/\tvs=[.slice a' L'.length c']/\Each Ru.cs Q m m' (L.take k) a' c' L' μ,⟨_,0,none,0,[],_,by omega,rfl,rfl,rfl,Each.nil m⟩,?_⟩
 rintro a1 n1 c1 z a2 n2 c2 m2 q _ ⟨k,a',c',L',μ,hk,hq,bQ,bY,hE⟩
 simp only[List.cons.injEq,Value.slice.injEq,Value.int.injEq,true_and,and_true]at bQ bY
 obtain⟨⟨rfl,rfl,rfl⟩,rfl⟩:=bQ
 obtain⟨rfl,rfl,rfl⟩:=bY
 have gR:L'.length=k:=by rw[hE.len,List.length_take];omega
 refine Zab (λaC=>?_) (λbF=>?_)
 ·have aP:k < L.length:=by have:=zA6 aC;omega
  obtain⟨x,hx⟩:=Zaw aP
  obtain⟨b,o,ha,bT⟩:=Zal Ru.len aA hx (by omega)
  have hw:IntKind.i64.wrap ((k:Int)+1)=((k+1:Nat):Int):=by rw[Zai (by omega) (by omega)];rfl
  refine⟨b,o,ha,⟨by omega,by omega⟩,_,_,_,_,_,_,_,_,_,_,_,_,_,_,_,_,bT.mono hE.le,λb3=>Zaa rfl ⟨_,trivial,jH x (zA2 hx) m2 hE.le,(λv _ _ ⟨y,h,_⟩=>by rw[h];rfl),?_⟩⟩
  intros
  refine Zqp λys=>?_
  rintro aR ⟨y,hv,hQ⟩ b4 eN
  obtain rfl:ys=y.cs:=by simpa using hv
  have aZ:(L'.length+1)*168<=140737488355328:=by omega
  refine Zcy Ru.len Ru.one eN y (hE.row.mono aR) 168 aZ (by omega) (.inl rfl) λa5 c5 m5 cE bH aJ=>?_
  have bO:=hE.step Ru.len (by omega) hx aR hQ eN cE bH aJ
  exact⟨L.length - (k+1),by omega,k+1,a5,c5,L'++[y],_,by omega,rfl,by rw[hw,zA1];rfl,by rw[zA1];rfl,bO⟩
 ·have cO:k=L.length:=by have:=of_decide_eq_false bF;omega
  rw[cO,List.take_length]at hE
  exact⟨m2,hE.le,Mem.le_refl _,_,_,L',μ,rfl,hE⟩
theorem ZsF(cb:Nat)(Q:Sta->Sta->Mem->Prop)(L:List Sta)(a:Option Addr)(d:Nat)(m:Mem)(aA:rowRd m a (L.map Sta.cs).flatten)(hl:L.length<=few)(jH:∀x∈L,∀m2,m.le m2->CX Tryz.prog cb #[.agg x.cs.toArray] m2 [] (λv m3 _=>∃y:Sta,v=.agg y.cs.toArray/\Q x y (nw m2 m3))):
  CX Tryz.prog 55 #[.slice a L.length d,.func (.func cb) #[] #[]] m [] (ZoB Sta.cs Q m L):=by
 have hl:L.length<=100000:=hl
 apply Zbl (p1fi:=[]) (p1ca:=[])
 refine⟨λxs css tvs m' q=>∃(k:Nat)(a':Option Addr)(c':Nat)(L':List Sta)(μ:Nat->Mem),k<=L.length/\q=L.length - k/\xs=[.slice a' L'.length c',.int .i64 k]/\tvs=[.slice a' L'.length c']/\Each Sta.cs Q m m' (L.take k) a' c' L' μ,⟨_,0,none,0,[],_,by omega,rfl,rfl,rfl,Each.nil m⟩,?_⟩
 rintro a1 n1 c1 z a2 n2 c2 m2 q _ ⟨k,a',c',L',μ,hk,hq,bQ,bY,hE⟩
 simp only[List.cons.injEq,Value.slice.injEq,Value.int.injEq,true_and,and_true]at bQ bY
 obtain⟨⟨rfl,rfl,rfl⟩,rfl⟩:=bQ
 obtain⟨rfl,rfl,rfl⟩:=bY
 have gR:L'.length=k:=by rw[hE.len,List.length_take];omega
 refine Zab (λaC=>?_) (λbF=>?_)
 ·have aP:k < L.length:=by have:=zA6 aC;omega
  obtain⟨x,hx⟩:=Zaw aP
  obtain⟨b,o,ha,bT⟩:=Zal Sta.len aA hx (by omega)
  have hw:IntKind.i64.wrap ((k:Int)+1)=((k+1:Nat):Int):=by rw[Zai (by omega) (by omega)];rfl
  refine⟨b,o,ha,⟨by omega,by omega⟩,_,_,bT.mono hE.le,λb3=>Zaa rfl ⟨_,trivial,jH x (zA2 hx) m2 hE.le,(λv _ _ ⟨y,h,_⟩=>by rw[h];rfl),?_⟩⟩
  intros
  refine Zqp λys=>?_
  rintro aR ⟨y,hv,hQ⟩ b4 eN
  obtain rfl:ys=y.cs:=by simpa using hv
  have aZ:(L'.length+1)*40<=140737488355328:=by omega
  refine Zcy Sta.len Sta.one eN y (hE.row.mono aR) 40 aZ (by omega) (.inl rfl) λa5 c5 m5 cE bH aJ=>?_
  have bO:=hE.step Sta.len (by omega) hx aR hQ eN cE bH aJ
  exact⟨L.length - (k+1),by omega,k+1,a5,c5,L'++[y],_,by omega,rfl,by rw[hw,zA1];rfl,by rw[zA1];rfl,bO⟩
 ·have cO:k=L.length:=by have:=of_decide_eq_false bF;omega
  rw[cO,List.take_length]at hE
  exact⟨m2,hE.le,Mem.le_refl _,_,_,L',μ,rfl,hE⟩
def CpE(m:Mem)(t:E):Value->Mem->List (List Value)->Prop:=λv m' _=>∃t':E,v=t'.v/\t'.er=t.er/\RepE (nw m m') t'
theorem ZoX{m:Mem}{t:E}:∀(v:Value)(m':Mem) (css:List (List Value)),CpE m t v m' css->Shape.fits (.agg [.int .u8,.any,.str,.int .i64,.slice]) v=true:=λv _ _ ⟨t,e,_⟩=>by rw[e];rfl
theorem ZoY(t:E)(m:Mem)(hr:RepE m t)(hl:t.light=true):CX Tryz.prog 90 #[t.v] m [] (CpE m t):=by
 apply Zke
 intro b m1 aH _ b1
 have h:=ZdF t m1 (hr.mono' aH)
 rw[hl]at h
 refine Zar h λm2 aK=>Zmm rfl (Zam (Zju t m2 (hr.mono' (mLt aH aK)) (zA6 hl)) Ze9 ?_)
 rintro n v s n1 a n2 c m3 aR ⟨t',hv,hr',he,hn⟩
 obtain⟨rfl,rfl,rfl,rfl,rfl,rfl,rfl⟩:=ZnM hv
 exact Zaa rfl ⟨m3,mLt aH (mLt aK aR),Mem.le_refl _,t',rfl,he,Zrr t' hr' (hn.less (mLt aH aK))⟩
theorem Zv8(p:Pt)(m:Mem)(hr:RepP m p)(hl:p.e.light=true):CX Tryz.prog 92 #[.agg p.cs.toArray] m [] (λv m' _=>∃q:Pt,v=.agg q.cs.toArray/\QP p q (nw m m')):=by
 apply ZdG
 intro b b1
 refine Zam (ZoY p.e m hr.e hl) ZoX ?_
 rintro n v s n1 a n2 c m3 aR ⟨t',hv,he,dd⟩
 obtain⟨rfl,rfl,rfl,rfl,rfl,rfl,rfl⟩:=ZnM hv
 refine Zaa rfl (Zaa rfl ⟨m3,aR,Mem.le_refl _,⟨p.k,p.s,p.g,t'⟩,rfl,?_,hr.k,hr.s,hr.g,dd⟩)
 simp only[Pt.er,he]
theorem Zv9(x:Ac)(m:Mem)(hr:RepA m x)(hl:LtA x):CX Tryz.prog 89 #[.agg x.cs.toArray] m [] (λv m' _=>∃q:Ac,v=.agg q.cs.toArray/\QA x q (nw m m')):=by
 apply ZeA
 intro b b1
 refine Zam (ZoY x.e m hr.e hl.1) ZoX ?_
 rintro n v s n1 a n2 c m1 aH ⟨t',hv,he,dd⟩
 obtain⟨rfl,rfl,rfl,rfl,rfl,rfl,rfl⟩:=ZnM hv
 refine Zaa rfl ⟨_,trivial,ZsC 92 QP x.parts x.pa x.pc m1 (hr.row.mono aH) hr.n (λp hp m2 aK=>Zv8 p m2 ((hr.all p hp).mono (mLt aH aK)) (hl.2 p hp)),Zev,?_⟩
 rintro a' n' c' m2 aK ⟨a5,c5,L',μ,hv',hE⟩
 simp only[Value.slice.injEq]at hv'
 obtain⟨rfl,rfl,rfl⟩:=hv'
 refine Zaa rfl ⟨m2,mLt aH aK,Mem.le_refl _,⟨x.k,x.s,a',c',L',t'⟩,rfl,?_,Zp1 hr hE (ZdD aH (Mem.le_refl _)) (dd.mono' (ZdD (Mem.le_refl _) aK))⟩
 simp only[Ac.er,he,hE.same λ_ _ _ h=>h.1]
theorem Zwa(x:Ru)(m:Mem)(hr:RepR m x)(hl:LtR x):CX Tryz.prog 49 #[.agg x.cs.toArray] m [] (λv m' _=>∃q:Ru,v=.agg q.cs.toArray/\QR x q (nw m m')):=by
 apply Zf2
 intro b b1
 refine Zam (Zsv x.t m hr.t (zA6 hl.1)) Zsu ?_
 rintro n0 n1 n2 n3 n4 n5 n6 a n c m1 aH ⟨t',hv,he,dd⟩
 simp only[T.v,Value.agg.injEq,Array.mk.injEq,List.cons.injEq,Value.int.injEq,Value.slice.injEq,true_and,and_true]at hv
 obtain⟨rfl,rfl,rfl,rfl,rfl,rfl,rfl,rfl,rfl,rfl⟩:=hv
 refine⟨_,trivial,ZsD 89 QA x.acts x.aa x.ac m1 (hr.row.mono aH) hr.len (λp hp m2 aK=>Zv9 p m2 ((hr.all p hp).mono (mLt aH aK)) (hl.2 p hp)),Zev,?_⟩
 rintro a' n' c' m2 aK ⟨a5,c5,L',μ,hv',hE⟩
 simp only[Value.slice.injEq]at hv'
 obtain⟨rfl,rfl,rfl⟩:=hv'
 refine⟨m2,mLt aH aK,Mem.le_refl _,⟨x.k,x.bg,x.en,t',x.s,x.n,a',c',L',x.go,x.code⟩,rfl,?_,Zp2 hr hE (ZdD aH (Mem.le_refl _)) (dd.mono (ZdD (Mem.le_refl _) aK))⟩
 simp only[Ru.er,he,hE.same λ_ _ _ h=>h.1]
theorem Zwb(x:Sta)(m0 m:Mem)(h0:m0.le m)(hr:RepS m x)(hl:∀r∈x.rules,LtR r):CX Tryz.prog 56 #[.agg x.cs.toArray] m [] (λv m' _=>∃q:Sta,v=.agg q.cs.toArray/\QS m0 x q (nw m m')):=by
 apply Zij
 intro b m1 aH _ b1
 refine⟨λ_ _ μ=>ZoB Ru.cs QR μ x.rules,_,rfl,ZsE 49 QR x.rules x.ra x.rc m1 (hr.row.mono aH) hr.len (λp hp m2 aK=>Zwa p m2 ((hr.all p hp).mono (mLt aH aK)) (hl p hp)),Zev,?_⟩
 rintro a' n' c' m2 aK ⟨a5,c5,L',μ,hv',hE⟩ M _ hM
 simp only[Value.slice.injEq]at hv'
 obtain⟨rfl,rfl,rfl⟩:=hv'
 exact⟨m2,mLt aH aK,hM,⟨x.s,a',c',L'⟩,rfl,(ZtW (mLt h0 aH) (hr.mono aH) hE).mono (ZdD aH (Mem.le_refl _))⟩
def Zvs(m:Mem)(l:List Va):Value->Mem->List (List Value)->Prop:=λv m' _=>∃a' c',v=.slice a' l.length c'/\rowRd (nw m m') a' (l.map Va.cs).flatten/\l.length<=c'
theorem ZmH(a:Option Addr)(c:Nat)(l:List Va)(m:Mem)(h:rowRd m a (l.map Va.cs).flatten)(hl:l.length<=few):CXT Tryz.prog 54 #[.slice a l.length c] m 4 (Zvs m l):=by
 have hl:l.length<=100000:=hl
 apply Zbf
 have aE:(l.map Va.cs).flatten.length=l.length*4:=ZaO Va.len l
 refine Zab (λha=>?_) (λha=>⟨⟨rfl,Int.le_refl _,by decide,by decide⟩,λb hf _=>⟨.inl rfl,[],(l.map Va.cs).flatten,rfl,aE,.inl rfl,h,?_,by omega,by omega,λa' c' m' hm aA ie=>⟨rfl,?_⟩⟩⟩)
 ·obtain rfl:a=none:=by simpa using ha
  have h0:l=[]:=by
   rcases h with h|⟨_,_,h,_⟩
   ·rw[h]at aE;exact List.eq_nil_of_length_eq_zero (by simp at aE;omega)
   ·cases h
  subst h0
  exact⟨rfl,none,0,rfl,.inl rfl,Nat.le_refl _⟩
 ·intro u hu
  simp only[List.mem_flatten,List.mem_map]at hu
  obtain⟨_,⟨e,_,rfl⟩,hu⟩:=hu
  exact Va.one e u hu
 ·simp only[Nat.zero_add]at ie ⊢
  refine⟨a',c',rfl,ZkT aA ?_,ie.1⟩
  rcases(ie.old (λ_ _ e=>by cases e;rfl)).2 with h1|⟨b',h1,h2|h2⟩
  ·exact .inr λb o e=>by rw[h1]at e;cases e
  ·exact .inr λb' o e=>by rw[<-h2]at e;cases e;exact hf
  ·exact .inr λb o e=>by rw[h1]at e;cases e;exact h2
def CpC(m:Mem)(s:Sc):Value->Mem->List (List Value)->Prop:=λv m' _=>∃s':Sc,v=s'.v/\s'.er=s.er/\RepC (nw m m') s'/\(s'.states=[]\/∃b μ,SepC m m' s' b μ)
theorem ZsG{m:Mem}{s:Sc}:∀(v:Value)(m':Mem) (css:List (List Value)),CpC m s v m' css->Shape.fits (.agg [.int .i64,.slice,.slice]) v=true:=λv _ _ ⟨t,e,_⟩=>by rw[e];rfl
theorem Zqq{m:Mem}{l:List Va}:∀(v:Value)(m':Mem) (css:List (List Value)),Zvs m l v m' css->Shape.fits .slice v=true:=λv _ _ ⟨_,_,h,_⟩=>by rw[h];rfl
theorem ZuA(s:Sc)(m:Mem)(hr:RepC m s)(hl:s.light=true):CX Tryz.prog 18 #[s.v] m [] (CpC m s):=by
 apply Zmq
 intro b m1 aH _ b1
 have h:=ZcS s m1 (hr.mono aH)
 rw[hl]at h
 refine Zar h λm2 aK=>Zmm rfl ?_
 have dY:=hr.mono (mLt aH aK)
 have dq:=mLt aH aK
 refine⟨λi _ μ=>if i=4 then Zvs μ s.vars else ZoB Sta.cs (QS m) μ s.states,_,rfl,(ZmH s.va s.vc s.vars m2 dY.vrow dY.vlen).toCX,Zqq,?_⟩
 rintro a n c m3 aR ⟨a',c',hv,aA,cu⟩
 simp only[Value.slice.injEq]at hv
 obtain⟨rfl,rfl,rfl⟩:=hv
 refine⟨_,rfl,ZsF 56 (QS m) s.states s.sa s.sc m3 (dY.row.mono aR) dY.len (λx hx m4 bU=>Zwb x m m4 (mLt dq (mLt aR bU)) ((dY.all x hx).mono (mLt aR bU)) (ZvN hl x hx)),Zev,?_⟩
 rintro a4 n4 c4 m4 bU ⟨a5,c5,L',μ,hv',hE⟩ M _ fw gi
 simp only[Value.slice.injEq]at hv'
 obtain⟨rfl,rfl,rfl⟩:=hv'
 have dh:=mLt dq aR
 have jX:(nw m3 m4).le (nw m M):=ZdD dh gi
 refine⟨M,mLt dq (mLt aR fw),Mem.le_refl _,⟨s.n,a,c,s.vars,a4,c4,L'⟩,rfl,?_,⟨hr.n,hr.vlen,aA.mono (ZdD dq fw),hr.vall,by rw[hE.len];exact hr.len,hE.rows.mono jX,λy hy=>?_,cu,hE.cap⟩,?_⟩
 ·simp only[Sc.er,hE.same (f:=Sta.er) (g:=Sta.er) λ_ _ _ h=>h.1]
 ·obtain⟨i,x,_,_,hq,hs⟩:=hE.at hy
  exact hq.2.1.mono (mLt hs jX)
 ·rcases hE.blk with⟨h1,_⟩|⟨_,b,hb,hf,hk,hμ⟩
  ·exact .inl (List.eq_nil_of_length_eq_zero (by rw[hE.len,h1];rfl))
  ·refine .inr ⟨b,μ,hb,⟨Zbx dh hf,ZfR dh hk⟩,λi y hy=>?_,λi j md hj b'=>hE.ap i j md (by rw[<-hE.len];exact hj) b',nw m2 m3,aA,ZdD dq fw,Zbx (ZkF _ _) hf,λi hi b'=>?_⟩
   ·have aC:i < s.states.length:=by rw[<-hE.len];exact(zA0 hy).1
    have hq:=hE.q i _ _ (zA3 aC) hy
    exact⟨hq.2.1,hq.2.2,mLt (hE.sub i aC) jX,(hμ i aC).1⟩
   ·by_cases e7:(nw m2 m3).free b'
    ·exact .inl e7
    ·exact .inr (Zbx (hE.sub i (by rw[<-hE.len];exact hi)) (ZpY λh=>e7 (Zbx (ZkF _ _) h)))
variable {m:Mem} {b:Nat}
def Zxo(l:List Pt)(i:Nat)(p:Pt):Bool:=!Zff p||(decide (i > 0)&&(p.k == 1&&(match l[i - 1]? with
 | some q=>q.k == 1
 | none=>false)))
def Zxp(s:Sc)(p:Pt):Bool:=(p.k == 2&&!(ZgG s p.s).2)||(p.k == 4&&!Zc6 s p.e)
def Zxq(r:Ru)(p:Pt):Bool:=(p.k == 3&&decide (p.g > ZcZ r))||(p.k == 4&&decide (p.e.most > ZcZ r))
theorem Zox(s:Sc)(r:Ru)(l:List Pt)(i:Nat)(p:Pt):ZkE s r l i p=Zcf [(307,Zxo l i p),(308,Zxp s p),(309,Zxq r p)]:=rfl
def Zyd(s:Sc)(i n:Nat):List Value:=(List.range n).map λj=>.int .i64 (totals s i j)
def TotI(s:Sc)(i:Nat)(a:Option Addr)(vs:List Value)(m:Mem):Prop:=vs.length=i/\rowRd m a vs/\∀(k:Nat)(x:Sta),k < i->s.states[k]?=some x->∃ak ck,vs[k]?=some (.slice ak x.rules.length ck)/\rowRd m ak (Zyd s k x.rules.length)
theorem TotI.mono{s:Sc}{i:Nat}{a:Option Addr}{vs:List Value}{m m':Mem}(h:TotI s i a vs m)(hm:m.le m'):TotI s i a vs m':=⟨h.1,h.2.1.mono hm,λk x hk hx=>by
 obtain⟨ak,ck,h1,h2⟩:=h.2.2 k x hk hx
 exact⟨ak,ck,h1,h2.mono hm⟩⟩
theorem Zwc{m:Mem}{a:Option Addr}{vs:List Value}(h:rowRd m a vs){k:Nat}{v:Value}(hk:vs[k]?=some v):∃b o,a=some ⟨b,o,none⟩/\m.c b (o+k*1)=some v:=by
 rcases h with h|⟨b,o,ha,h⟩
 ·rw[h]at hk;simp at hk
 ·exact⟨b,o,ha,by rw[Nat.mul_one];exact h k v hk⟩
end Go.Proofs.YtpjepnkiiojgfaaGreat
namespace Go.Proofs.YtpjepnkiiojgfaaGreat
open Go Go.Eng Go.Proofs Go.RowKit
open Go.Value (int slice agg bool string tuple func)
open Go.IntKind (u8 u64 i64)
set_option maxRecDepth 100000
def ZiB:Env:={ EB with
 loops:=(λi=>bif Nat.beq i 5 then⟨[(15,.int .i64)],[],[],false⟩ else⟨[],[],[],false⟩)
 frzNew:=[1]
 frzAt:=(λi=>bif Nat.beq i 37 then[3]else[])
 thaw:=true
 kF:=true }
theorem Zg2(aB:Int)(bA:Option Addr)(aX bD:Nat)(aW:Option Addr)(aO aY:Nat)(m:Mem)(R:RT)(h:
 lV [int i64 aB,slice bA aX bD,slice aW aO aY] λxL=>fzM m xL λb m'=>lE [some (Box.mk b xL 32 3 true true)] λxL_1=>m.free b->(∀(b' o:Nat)(u:Value),m' b' o=some u->m b' o
 = some u\/b'=b)->Mem.k m b=none->kB Tryz.prog 19 [agg (Array.mk xL)] m' λb m'=>br (!b) (rtM m m' R (slice none 0 0)) (∀(b:Nat),lX (Value.map (some b)) λyL=>m'.free b->Mem.k m' b=none->∀(b_1
 : Nat),∃(I:IT),lE (some (Box.mk b_1 [yL] 146 1 false true)::xL_1) λxL=>inI I [int i64 0] [] [] (Mem.updK m' b [])/\∀(n:Int)(m':Mem)(n_1:Nat),lV [int i64 (i64.wrap (n+(1:Int)))] fun
 xL_2=>True->I [int i64 n] [] [] m' n_1->br (decide (n < (↑aO:Int))) (atA aW λb o=>Zad n aO/\∃v v_1:Value,m'.reads b (o+Int.toNat n*2) [v,v_1]/\∀(b:Nat),chk
 (v.oneCell'&&(v_1.oneCell'&&true)) (∃(b:Nat),∃(es:List (Value×Value)),∃(v_2:Value),∃(o:Bool),yL=Value.map (some b)/\Mem.k m' b=some es/\ZqN Tryz.prog 9 v/\LookIs Tryz.prog 9 v
 es (int i64 0) v_2 o/\br (!o) (∃(b:Nat),∃(es:List (Value×Value)),∃(es':List (Value×Value)),yL=Value.map (some b)/\Mem.k m' b=some es/\ZqN Tryz.prog 9 v/\ZhI Tryz.prog 9 v (int i64 n) es es'
 /\ Mem.k m b=none/\Zac xL/\nxI n_1 I xL_2 [] [] (Mem.updK m' b es')) (Zac xL/\nxI n_1 I xL_2 [] [] m'))) (∀(m'_1:Mem),m'.le m'_1->m'_1.reads b_1 0 [yL]->kS Tryz.prog 77 [slice aW aO aY,
 func (Fn.func 78) (Array.mk []) (Array.mk [Value.pointer (some (Addr.mk b_1 0 none))])] m'_1 λa n c m'=>rtM m m' R (slice a n c)))):CX Tryz.prog 32 #[.agg #[.int .i64 aB,.slice bA aX bD,.slice aW aO aY]] m [] R:=
 Zae (E:=ZiB) Zav mix Tryz.func32 (by kernel_rfl) (Eq.mp (by kernel_rfl) h)
def Zge:Env:={ EB with
 loops:=(λi=>bif Nat.beq i 3 then⟨[(4,.slice),(12,.int .i64)],[],[(32,1)],false⟩ else⟨[],[],[],false⟩)
 joins:=(λi=>bif Nat.beq i 6 then some [(28,.bool)]else none)
 tokOf:=(λi=>bif Nat.beq i 32 then 32 else 0)
 frzNew:=[2]
 thaw:=true
 lentC:=(λi=>bif Nat.beq i 35 then some [(32,1)]else bif Nat.beq i 37 then some [(32,1)]else none) }
theorem Zfn(aB:ByteArray)(bA:Option Addr)(aX bD c0b c0o:Nat)(m:Mem)(R:RT)(h:
 lV [string aB,slice bA aX bD] λxL=>fzM m xL λb m'=>lE [some (Box.mk b xL 36 2 true true)] λxL=>m.free b->(∀(b' o:Nat)(u:Value),m' b' o=some u->m b' o=some u\/b'=b)->∃(I:
 IT),inI I [slice none 0 0,int i64 0] [] [slice none 0 0] m'/\∀(a:Option Addr)(n c:Nat)(af:Int)(a3:Option Addr)(a4 a5:Nat)(m':Mem)(ai:Nat),lX (slice a3 a4 a5) λyL=>lE (Tok.mk yL 1) λag=>
 lE [some ag] λah=>lV [int i64 (i64.wrap (af+(1:Int)))] λak=>lE (n+1) λac=>lX (slice a n c) λad=>True->I [ad,int i64 af] [] [yL] m' ai->br (decide (af < (↑aX:Int))) (atA bA
 λb o=>Zad af aX/\∃v al am an ao ap aq ar au av aw ax ay az ae a0:Value,lV [v,al,am,an,ao,ap,aq,ar,au,av,aw,ax,ay,az,ae,a0] λa1=>m'.reads b (o+Int.toNat af*16) a1/\∀(b:Nat),lE (some
 (Box.mk b a1 47 16 false true)::xL) λa2=>chk (v.oneCell'&&(al.oneCell'&&(am.oneCell'&&(an.oneCell'&&(ao.oneCell'&&(ap.oneCell'&&(aq.oneCell' &&
 (ar.oneCell'&&(au.oneCell'&&(av.oneCell'&&(aw.oneCell'&&(ax.oneCell'&&(ay.oneCell'&&(az.oneCell'&&(ae.oneCell'&&(a0.oneCell'&&true))))))))))))))))
 (∃(v:Value),m' c0b c0o=some v/\∃(b:Nat),∃(es:List (Value×Value)),∃(aj:Value),∃(o:Bool),lV (List.append (Array.toList (Value.cells aj)) []) λa6=>v=Value.map (some b)/\Mem.k m' b=some es
 /\ ZqN Tryz.prog 9 ae/\LookIs Tryz.prog 9 ae es (int i64 0) aj o/\∃(b:Bool),br o (chk (Zhx ae&&true) (Zac a2/\ah=ah/\[bool !ByteArray.toList (ZbX ae) == ByteArray.toList bE0]
 = [bool b])) (Zac a2/\ah=ah/\[bool false]=[bool b])/\br b (chk (Nat.beq (List.length (Array.toList (Value.cells aj))) 1&&true) (∀(b:Nat),lM (m'.add b a6) λmL=>m'.free b->(ag=Tok.mk ad 1\/
 ad=slice none 0 0\/c < ac)/\∃(xs:List Value),∃(ys:List Value),xs.length=n*1/\ys.length=1*1/\rowRd mL a xs/\rowRd mL (some (Addr.mk b 0 none)) ys/\(∀(u:Value),u∈ys->u.oneCell'=true)/\ac*8<=140737488355328/\ac<=9223372036854775807/\∀(a':Option Addr)(c':Nat)(m':Mem),mL.le m'->rowRd m' a' (List.append xs ys)->TokFact mL a a' ac c'->Zac xL/\nxI ai I (slice a' ac c'
 :: ak) [] [slice a' ac c'] m')) (Zac xL/\nxI ai I (ad::ak) [] [yL] m'))) (∃(Y:Nat->Prop),∃(R_1:Value->Mem->List (List Value)->List Value->Prop),CXY Tryz.prog 36 (Array.mk [ad]) m' Y [] [ag] R_1/\(∀
 (t:Tok),t∈[ag]->∀(b:Nat),Tok.blk t=some b->Y b)/\(∀(aa:Nat),Y aa->(∃(t:Tok),t∈[ag]/\Tok.blk t=some aa)\/(m.free aa/\Mem.k m aa=none)/\((∃(o:Nat),∃(v:Value),m' aa o=some v)
 \/ ∃(e:List (Value×Value)),Mem.k m' aa=some e)/\b≠aa/\True)/\(∀(v:Value)(m':Mem) (css:List (List Value)) (tvs:List Value),R_1 v m' css tvs->Shape.fits (Shape.tup []) v=true)/\∀(ab:Mem),
 Mem.le (Mem.off m' Y) ab->(NewM m' ab λb=>Y b\/m'.free b)->∀(a:Option Addr)(c d:Nat),lE [Tok.mk (slice a c d) 1] λxL=>R_1 (tuple (Array.mk [])) ab [] [slice a c d]->∃(Y:Nat->Prop),∃(R_2:
 Value->Mem->List (List Value)->List Value->Prop),CXY Tryz.prog 37 (Array.mk [ad]) ab Y [] xL R_2/\(∀(t:Tok),t∈xL->∀(b:Nat),Tok.blk t=some b->Y b)/\(∀(aa:Nat),Y aa->(∃(t:Tok),t∈xL/\
 Tok.blk t=some aa)\/(m.free aa/\Mem.k m aa=none)/\((∃(o:Nat),∃(v:Value),ab aa o=some v)\/∃(e:List (Value×Value)),Mem.k ab aa=some e)/\b≠aa/\True)/\(∀(v:Value)(m':Mem) (css:List
 (List Value)) (tvs:List Value),R_2 v m' css tvs->Shape.fits Shape.slice v=true)/\∀(a:Option Addr)(n c:Nat)(m':Mem),Mem.le (Mem.off ab Y) m'->(NewM ab m' λb=>Y b\/ab.free b)->∀(a7:Option
 Addr) (a8 d:Nat),R_2 (slice a n c) m' [] [slice a7 a8 d]->rtM m m' R (slice a n c))):CX Tryz.prog 78 #[.agg #[.string aB,.slice bA aX bD],.pointer (some ⟨c0b,c0o,none⟩)] m [] R:=
 Zae (E:=Zge) Zav mix Tryz.func78 (by kernel_rfl) (Eq.mp (by kernel_rfl) h)
def Zci:Env:={ EB with
 loops:=(λi=>bif Nat.beq i 3 then⟨[(5,.slice),(10,.int .i64)],[],[(19,1)],false⟩ else⟨[],[],[],false⟩)
 tokOf:=(λi=>bif Nat.beq i 19 then 19 else 0)
 thaw:=true }
theorem Zb1(p0a:Option Addr)(p0n p0c p1g:Nat)(p1fi p1ca:List Value)(m:Mem)(R:RT)(h:
 ∃(I:IT),inI I [slice none 0 0,int i64 0] [] [slice none 0 0] m/\∀(a:Option Addr)(n c:Nat)(n_1:Int)(a_1:Option Addr)(n_2 c_1:Nat)(m':Mem)(n_3:Nat),lX (slice a n c) λyL=>lE (n+1) fun
 yL_1=>True->I [yL,int i64 n_1] [] [slice a_1 n_2 c_1] m' n_3->br (decide (n_1 < (↑p0n:Int))) (atA p0a λb o=>Zad n_1 p0n/\∃v v_1:Value,m'.reads b (o+Int.toNat n_1*2) [v,v_1]/\
 ∀(b:Nat),chk (v.oneCell'&&(v_1.oneCell'&&true)) (kS Tryz.prog p1g (List.append (List.append p1fi [agg (Array.mk [v,v_1])]) p1ca) m' λa_4 n_4 c_2 m'=>∀(b:Nat),lM (m'.add b [slice a_4 n_4
 c_2]) λmL=>m'.free b->(Tok.mk (slice a_1 n_2 c_1) 1=Tok.mk yL 1\/yL=slice none 0 0\/c < yL_1)/\∃(xs:List Value),∃(ys:List Value),xs.length=n*1/\ys.length=1*1/\rowRd mL a xs/\
 rowRd mL (some (Addr.mk b 0 none)) ys/\(∀(u:Value),u∈ys->u.oneCell'=true)/\yL_1*24<=140737488355328/\yL_1<=9223372036854775807/\∀(a':Option Addr)(c':Nat)(m':Mem),mL.le m'->rowRd m'
 a' (List.append xs ys)->TokFact mL a a' yL_1 c'->nxI n_3 I [slice a' yL_1 c',int i64 (i64.wrap (n_1+(1:Int)))] [] [slice a' yL_1 c'] m')) (rtM m m' R yL)):CX Tryz.prog 77 #[.slice p0a p0n p0c,.func (.func p1g) p1fi.toArray p1ca.toArray] m [] R:=
 Zae (E:=Zci) Zav mix Tryz.func77 (by kernel_rfl) (Eq.mp (by kernel_rfl) h)
def Zkt:Env:={ EB with
 loops:=(λi=>bif Nat.beq i 1 then⟨[(7,.int .i64)],[100000],[(18,1),(900,1)],false⟩ else⟨[],[],[],false⟩)
 tokOf:=(λi=>bif Nat.beq i 18 then 900 else 0)
 thaw:=true }
theorem Zg3(p0a:Option Addr)(p0n p0c c0b:Nat)(c0_0a:Option Addr)(c0_0n c0_0c:Nat)(t0a:Option Addr)(t0n t0c:Nat)(m:Mem)(Y:Nat->Prop)(R:RTY)(h:
 ∃(I:IT),lE [some (Box.mk c0b [] 80 1 false true)] λxL=>lE (Box.mk c0b [slice c0_0a c0_0n c0_0c] 80 1 false true) λyL=>inI I [int i64 0] [[slice c0_0a c0_0n c0_0c]] [slice none 0 0,slice t0a t0n t0c] m/\∀
 (n:Int) (cs:List Value) (a:Option Addr) (n_1 c:Nat) (a_1:Option Addr) (n_2 c_1:Nat) (m':Mem) (n_3:Nat),lX (slice a n_1 c) λyL_1=>lV [int i64 (i64.wrap (n+(1:Int)))] λxL_1=>lX
 (slice a_1 n_2 c_1) λyL_2=>True->I [int i64 n] [cs] [yL_1,yL_2] m' n_3->br (decide (n < (↑p0n:Int))) (atA p0a λb o=>Zad n p0n/\∃(v:Value),lV (List.append (Array.toList (Value.cells v)) []) fun
 xL_2=>m' b (o+Int.toNat n*1)=some v/\Eng.ZrE cs 0 λv_1=>kB Tryz.prog 29 [v_1,v] m' λb m'=>br (!b) (Eng.ZrE cs 0 λv_2=>lE (slN v_2+1) λyL=>chk (Nat.beq (List.length (Array.toList
 (Value.cells v))) 1&&true) (∀(b:Nat),lM (m'.add b xL_2) λmL=>m'.free b->chk (Zbr v_2&&true) ((Tok.mk yL_2 1=Tok.mk v_2 1\/v_2=slice none 0 0\/slC v_2 < yL)/\∃(xs:List Value),∃(ys:
 List Value),xs.length=slN v_2*1/\ys.length=1*1/\rowRd mL (slA v_2) xs/\rowRd mL (some (Addr.mk b 0 none)) ys/\(∀(u:Value),u∈ys->u.oneCell'=true)/\yL*16<=140737488355328/\yL <=
 9223372036854775807/\∀(a':Option Addr)(c':Nat)(m':Mem),mL.le m'->rowRd m' a' (List.append xs ys)->TokFact mL (slA v_2) a' yL c'->Zac xL/\([none]:List (Option Tok))=[none]/\nxI n_3 I xL_1
 [[slice a' yL c']] [yL_1,slice a' yL c'] m'))) (Zac xL/\([none]:List (Option Tok))=[none]/\nxI n_3 I xL_1 [cs] [yL_1,yL_2] m')) (yL=yL/\R (tuple (Array.mk [])) m' [cs] [yL_2])):CXY Tryz.prog 108 #[.slice p0a p0n p0c,.pointer (some ⟨c0b,0,none⟩)] m Y [⟨c0b,[.slice c0_0a c0_0n c0_0c],80,1,false,true⟩] [⟨.slice t0a t0n t0c,1⟩] R:=
 Zja (E:=Zkt) Zav mix Tryz.func108 [.v (.slice p0a p0n p0c),.loc 100000 0] [⟨c0b,[.slice c0_0a c0_0n c0_0c],80,1,false,true⟩] [900] [⟨.slice t0a t0n t0c,1⟩] (by decide) (by kernel_rfl) (Eq.mp (by kernel_rfl) h)
def ZnQ:Env:={ EB with
 loops:=(λi=>bif Nat.beq i 7 then⟨[(18,.agg [.int .u8,.str,.slice,.int .u8,.any,.str,.int .i64,.slice])],[5],[(900,1)],false⟩ else bif Nat.beq i 13 then⟨[(44,.int .i64)],[5],[(900,1)],false⟩ else⟨[],[],[],false⟩)
 joins:=(λi=>bif Nat.beq i 8 then some [(27,.bool)]else none)
 dr:=(λi=>bif Nat.beq i 11 then[⟨0,[6],[],none,[],[]⟩,⟨1,[7],[],none,[],[]⟩,⟨2,[7],[],none,[1],[]⟩,⟨3,[],[],none,[1,2],[]⟩]else bif Nat.beq i 19 then[⟨0,[6],[],none,[],[]⟩,⟨1,[9],[],none,[],[]⟩,⟨2,[9],[],none,[1],[]⟩,⟨3,[],[],none,[1,2],[]⟩]else[])
 borrow:=(λi=>bif Nat.beq i 32 then[5]else bif Nat.beq i 40 then[5]else bif Nat.beq i 56 then[5]else bif Nat.beq i 63 then[5]else[])
 frzNew:=[2,3]
 last:=(λi=>bif Nat.beq i 11 then true else bif Nat.beq i 19 then true else false)
 lastK:=(λi=>bif Nat.beq i 11 then 1 else bif Nat.beq i 19 then 1 else 1)
 thaw:=true
 cuts:=λi=>bif Nat.beq i 12 then some ⟨[],[5],[(900,1)],false⟩ else none
 lentC:=(λi=>bif Nat.beq i 32 then some [(900,1)]else bif Nat.beq i 40 then some [(900,1)]else bif Nat.beq i 56 then some [(900,1)]else bif Nat.beq i 63 then some [(900,1)]else none) }
theorem ZmI(aB:Int)(aD aG:Bool)(aF bC bI bJ dB dC dD:Int)(cx:Option Addr)(cy cz:Nat)(cJ:ByteArray)(cK:Int)(cA:Option Addr)(cB cC:Nat)(cL:ByteArray)(cM:Int)(p1:Bool)(m:Mem)(R:RT)(h:
 lV [bool p1] λxL=>lV [int u8 aB,bool aD,bool aG,int u8 aF,int u64 bC,int u64 bI,int u64 bJ,int u64 dB,int i64 dC,int i64 dD,slice cx cy cz,string cJ,int i64 cK,
 slice cA cB cC,string cL,int i64 cM] λan=>fzM m an λb m'=>lE [some (Box.mk b an 47 16 true true)] λbc=>m.free b->(∀(b' o:Nat)(u:Value),m' b' o=some u->m b' o=some u\/
 b'=b)->fzM m' xL λae aw=>lE (some (Box.mk ae xL 4 1 true true)::bc) λxL=>m'.free ae->(∀(b' o:Nat)(u:Value),aw b' o=some u->m' b' o=some u\/b'=ae)->∃(R_1:RT),True/\CX Tryz.prog 75
 (Array.mk [agg (Array.mk an)]) aw [] R_1/\ZbD (Shape.agg [Shape.int i64,Shape.slice,Shape.slice]) R_1/\∀(n:Int)(a:Option Addr)(bd c:Nat)(be:Option Addr)(bf bg:Nat)(m':Mem),lX (agg (Array.mk [int
 i64 n,slice a bd c,slice be bf bg])) λyL=>aw.le m'->R_1 yL m' []->kB Tryz.prog 19 [yL] m' λbh m'=>br (!bh) (rtM m m' R (slice none 0 0)) (∀(ao bi:Nat),∃(R_2:RT),lV [Value.pointer (some (Addr.mk
 ao 0 none))] λaj=>lE (some (Box.mk bi [func (Fn.func 108) (Array.mk []) (Array.mk aj)] 180 1 false true)) λyL=>lE (yL::some (Box.mk ao [] 80 1 false true)::xL) λad=>True/\CX Tryz.prog 75 (Array.mk
 [agg (Array.mk an)]) m' [] R_2/\ZbD (Shape.agg [Shape.int i64,Shape.slice,Shape.slice]) R_2/\∀(n:Int)(a:Option Addr)(bj c:Nat)(bk:Option Addr)(bl bm:Nat)(ax:Mem),lX (agg (Array.mk [int i64 n,
 slice a bj c,slice bk bl bm])) λa2=>m'.le ax->R_2 a2 ax []->kF Tryz.prog 71 [a2] ax λg fi ca m'=>∃(mi:Mem),mi.le m'/\∃(xs:List (List Value)),IX Tryz.prog g fi ca mi xs/\(∀(x:List
 Value),x∈xs->Shape.fitsL [Shape.agg [Shape.int u8,Shape.str,Shape.slice,Shape.int u8,Shape.any,Shape.str,Shape.int i64,Shape.slice]] x=true)/\∃(I:IT),I [] [[slice none 0 0]] [slice none 0 0] m' 0/\(∀
 (n:Int) (s:ByteArray) (a:Option Addr) (ay c:Nat) (bn:Int) (v:Value) (bo:ByteArray) (bp:Int) (bq:Option Addr) (bs bt:Nat) (cs:List Value) (bu:Option Addr) (bv bw:Nat) (m':Mem) (ak:Nat),lX
 (slice bu bv bw) λap=>lE (Tok.mk ap 1) λaf=>lE [some af] λaq=>lV [string s] λbx=>lE (Box.mk ao cs 80 1 false true) λar=>lV [int u8 bn,v,string bo,int i64 bp,slice bq bs bt] λaz=>lV (int
 u8 n::string s::slice a ay c::az) λa3=>mi.le m'->List.get?Internal xs ak=some [agg (Array.mk a3)]->I [] [cs] [ap] m' ak->∀(bz:Nat),lE (some (Box.mk bz a3 54 8 false true)) λag=>chk
 (v.oneCell'&&true) (br p1 (∃(ab:Bool),br (n == (2:Int)) (Zac (ag::yL::some ar::xL)/\aq=aq/\[bool true]=[bool ab]) (Zac (ag::yL::some ar::xL)/\aq=aq/\[bool (n == (3:Int))] =
 [bool ab])/\br ab (∀(al:Nat),lM (m'.add al bx) λmL=>m'.free al->∃(Y:Nat->Prop),∃(R:Value->Mem->List (List Value)->List Value->Prop),CXY Tryz.prog 108 (Array.mk (slice (some (Addr.mk al 0
 none)) 1 1::aj)) mL Y [ar] [af] R/\(∀(t:Tok),t∈[af]->∀(b:Nat),Tok.blk t=some b->Y b)/\(∀(aa:Nat),Y aa->(∃(t:Tok),t∈[af]/\Tok.blk t=some aa)\/(m.free aa/\Mem.k m aa=none)/\((∃(o
 : Nat),∃(v:Value),mL aa o=some v)\/∃(e:List (Value×Value)),Mem.k mL aa=some e)/\al≠aa/\ae≠aa/\b≠aa/\True)/\(∀(v:Value)(m':Mem) (css:List (List Value)) (tvs:List Value),R v m' css
 tvs->Shape.fits (Shape.tup []) v=true)/\∀(m':Mem),Mem.le (Mem.off mL Y) m'->(NewM mL m' λb=>Y b\/mL.free b)->∀(cs:List Value)(a:Option Addr)(c d:Nat),R (tuple (Array.mk [])) m' [cs] [slice
 a c d]->mi.le m'/\Zac ad/\I [] [cs] [slice a c d] m' (ak+1)) (mi.le m'/\Zac ad/\I [] [cs] [ap] m' (ak+1))) (∃(J:JT),br (n == (3:Int)) (∃(f:Fx),∃(R:RT),R=f 3 [agg (Array.mk az)] m'
 /\ CX Tryz.prog 109 (Array.mk [agg (Array.mk az)]) m' [] R/\ZbD Shape.slice R/\∀(a:Option Addr)(n c:Nat)(ah:Mem),m'.le ah->R (slice a n c) ah []->∀(M:Mem),m'.le M->ah.le M->∃(Y:Nat->
 Prop),∃(R:Value->Mem->List (List Value)->List Value->Prop),CXY Tryz.prog 108 (Array.mk (slice a n c::aj)) M Y [ar] [af] R/\(∀(t:Tok),t∈[af]->∀(b:Nat),Tok.blk t=some b->Y b)/\(∀(ab:Nat),Y
 ab->(∃(t:Tok),t∈[af]/\Tok.blk t=some ab)\/(m.free ab/\Mem.k m ab=none)/\((∃(o:Nat),∃(v:Value),M ab o=some v)\/∃(e:List (Value×Value)),Mem.k M ab=some e)/\ae≠ab/\b≠ab/\True)/\
 (∀(v:Value)(m':Mem) (css:List (List Value)) (tvs:List Value),R v m' css tvs->Shape.fits (Shape.tup []) v=true)/\∀(m':Mem),Mem.le (Mem.off M Y) m'->(NewM M m' λb=>Y b\/M.free b)->∀(cs:
 List Value) (a:Option Addr) (c d:Nat),R (tuple (Array.mk [])) m' [cs] [slice a c d]->Zac (ag::ad)/\([none]:List (Option Tok))=[none]/\J [] [cs] [slice a c d] m') (Zac (ag::ad)/\([none]:List
 (Option Tok))=[none]/\J [] [cs] [ap] m')/\∀(cs:List Value)(a4:Option Addr)(n c:Nat)(m':Mem),True->J [] [cs] [slice a4 n c] m'->∃(am:IT),inI am [int i64 0] [cs] [slice a4 n c] m'/\∀(n:Int) (cs
 : List Value) (cb:Option Addr) (cc c:Nat) (m':Mem) (au:Nat),lE [Box.mk ao cs 80 1 false true] λxL=>lX (slice cb cc c) λyL=>lV [int i64 (i64.wrap (n+(1:Int)))] λa0=>lE [Tok.mk yL 1]
 λai=>True->am [int i64 n] [cs] [yL] m' au->br (decide (n < (↑ay:Int))) (atA a λab o=>Zad n ay/\∃v av a5 a6 a7 a8 a9 ba:Value,lV [a6,a7,a8,a9,ba] λa1=>lE (Za2 u8 v&&decide (u8=u8)) λbb=>lV (List.append (Array.toList (Value.cells av)) []) λcd=>m'.reads ab (o+Int.toNat n*8) (v::av::a5
 :: a1)/\∀(al:Nat),chk (v.oneCell'&&(av.oneCell'&&(a5.oneCell'&&(a6.oneCell'&&(a7.oneCell'&&(a8.oneCell'&&(a9.oneCell'&&(ba.oneCell'&&true)))))))) (chk
 bb (br (RowKit.intOf v == (2:Int)) (chk (Nat.beq (List.length (Array.toList (Value.cells av))) 1&&true) (∀(aa:Nat),lM (m'.add aa cd) λmL=>m'.free aa->∃(Y:Nat->Prop),∃(R:Value->Mem->List
 (List Value)->List Value->Prop),CXY Tryz.prog 108 (Array.mk (slice (some (Addr.mk aa 0 none)) 1 1::aj)) mL Y xL ai R/\(∀(t:Tok),t∈ai->∀(b:Nat),Tok.blk t=some b->Y b)/\(∀(ac:Nat),Y ac->(∃(t:
 Tok),t∈ai/\Tok.blk t=some ac)\/(m.free ac/\Mem.k m ac=none)/\((∃(o:Nat),∃(v:Value),mL ac o=some v)\/∃(e:List (Value×Value)),Mem.k mL ac=some e)/\aa≠ac/\ae≠ac/\b≠ac/\True)/\(∀
 (v:Value) (m':Mem) (css:List (List Value)) (tvs:List Value),R v m' css tvs->Shape.fits (Shape.tup []) v=true)/\∀(m':Mem),Mem.le (Mem.off mL Y) m'->(NewM mL m' λb=>Y b\/mL.free b)->∀(cs:
 List Value) (a:Option Addr) (c d:Nat),R (tuple (Array.mk [])) m' [cs] [slice a c d]->Zac (ag::ad)/\([none,none]:List (Option Tok))=[none,none]/\nxI au am a0 [cs] [slice a c d] m')) (chk bb (br
 (RowKit.intOf v == (4:Int)) (∃(f:Fx),∃(R:RT),R=f 3 [agg (Array.mk a1)] m'/\CX Tryz.prog 109 (Array.mk [agg (Array.mk a1)]) m' [] R/\ZbD Shape.slice R/\∀(a:Option Addr)(n c:Nat)(ah:Mem),m'.le ah->R (slice a n c) ah []->∀(M:Mem),m'.le M->ah.le M->∃(Y:Nat->Prop),∃(R:Value->Mem->List (List Value)->List Value->Prop),CXY Tryz.prog 108 (Array.mk (slice a n c::aj)) M Y xL ai R/\(∀
 (t:Tok),t∈ai->∀(b:Nat),Tok.blk t=some b->Y b)/\(∀(aa:Nat),Y aa->(∃(t:Tok),t∈ai/\Tok.blk t=some aa)\/(m.free aa/\Mem.k m aa=none)/\((∃(o:Nat),∃(v:Value),M aa o=some v)\/∃
 (e:List (Value×Value)),Mem.k M aa=some e)/\ae≠aa/\b≠aa/\True)/\(∀(v:Value)(m':Mem) (css:List (List Value)) (tvs:List Value),R v m' css tvs->Shape.fits (Shape.tup []) v=true)/\∀(m':Mem),
 Mem.le (Mem.off M Y) m'->(NewM M m' λb=>Y b\/M.free b)->∀(cs:List Value)(a:Option Addr)(c d:Nat),R (tuple (Array.mk [])) m' [cs] [slice a c d]->Zac (ag::ad)/\([none,none]:List (Option
 Tok))=[none,none]/\nxI au am a0 [cs] [slice a c d] m') (Zac (ag::ad)/\([none,none]:List (Option Tok))=[none,none]/\nxI au am a0 [cs] [yL] m')))))) (mi.le m'/\Zac ad/\I [] [cs] [yL] m' (ak +
 1)))))/\∀(cs:List Value)(a:Option Addr)(n c:Nat)(m':Mem),mi.le m'->I [] [cs] [slice a n c] m' (xs.length)->Eng.ZrE cs 0 λv=>rtM m m' R v)):CX Tryz.prog 74 #[.agg #[.int .u8 aB,.bool aD,.bool aG,.int .u8 aF,.int .u64 bC,.int .u64 bI,.int .u64 bJ,.int .u64 dB,.int .i64 dC,.int .i64 dD,.slice cx cy cz,.string cJ,.int .i64 cK,.slice cA cB cC,.string cL,.int .i64 cM],.bool p1] m [] R:=
 Zae (E:=ZnQ) Zav mix Tryz.func74 (by kernel_rfl) (Eq.mp (by kernel_rfl) h)
def ZmJ:Env:={ EB with
 frzNew:=[1] }
theorem Zku(aB:Int)(aD aG:Bool)(aF bC bI bJ dB dC dD:Int)(cx:Option Addr)(cy cz:Nat)(cJ:ByteArray)(cK:Int)(cA:Option Addr)(cB cC:Nat)(cL:ByteArray)(cM:Int)(m:Mem)(R:RT)(h:
 lV [int u8 aB,bool aD,bool aG,int u8 aF,int u64 bC,int u64 bI,int u64 bJ,int u64 dB,int i64 dC,int i64 dD,slice cx cy cz,string cJ,int i64 cK,slice cA cB
 cC,string cL,int i64 cM] λxL=>fzM m xL λb m'=>kS Tryz.prog 74 [agg (Array.mk xL),bool false] m' λa n c m'=>rtM m m' R (slice a n c)):CX Tryz.prog 27 #[.agg #[.int .u8 aB,.bool aD,.bool aG,.int .u8 aF,.int .u64 bC,.int .u64 bI,.int .u64 bJ,.int .u64 dB,.int .i64 dC,.int .i64 dD,.slice cx cy cz,.string cJ,.int .i64 cK,.slice cA cB cC,.string cL,.int .i64 cM]] m [] R:=
 Zae (E:=ZmJ) Zav mix Tryz.func27 (by kernel_rfl) (Eq.mp (by kernel_rfl) h)
def Zkv:Env:={ EB with
 frzNew:=[1] }
theorem ZiC(aB:Int)(aD aG:Bool)(aF bC bI bJ dB dC dD:Int)(cx:Option Addr)(cy cz:Nat)(cJ:ByteArray)(cK:Int)(cA:Option Addr)(cB cC:Nat)(cL:ByteArray)(cM:Int)(m:Mem)(R:RT)(h:
 lV [int u8 aB,bool aD,bool aG,int u8 aF,int u64 bC,int u64 bI,int u64 bJ,int u64 dB,int i64 dC,int i64 dD,slice cx cy cz,string cJ,int i64 cK,slice cA cB
 cC,string cL,int i64 cM] λxL=>fzM m xL λb m'=>kS Tryz.prog 74 [agg (Array.mk xL),bool true] m' λa n c m'=>rtM m m' R (slice a n c)):CX Tryz.prog 28 #[.agg #[.int .u8 aB,.bool aD,.bool aG,.int .u8 aF,.int .u64 bC,.int .u64 bI,.int .u64 bJ,.int .u64 dB,.int .i64 dC,.int .i64 dD,.slice cx cy cz,.string cJ,.int .i64 cK,.slice cA cB cC,.string cL,.int .i64 cM]] m [] R:=
 Zae (E:=Zkv) Zav mix Tryz.func28 (by kernel_rfl) (Eq.mp (by kernel_rfl) h)
def ZnR:Env:={ EB with
 loops:=(λi=>bif Nat.beq i 6 then⟨[(14,.agg [.int .u8,.str,.slice,.int .u8,.any,.str,.int .i64,.slice])],[3],[],false⟩ else bif Nat.beq i 9 then⟨[(26,.int .i64)],[3],[],false⟩ else⟨[],[],[],false⟩)
 dr:=(λi=>bif Nat.beq i 7 then[⟨0,[3],[],none,[],[]⟩,⟨1,[4],[],none,[],[]⟩,⟨2,[4],[],none,[1],[]⟩,⟨3,[],[],none,[1,2],[]⟩,⟨4,[],[],none,[0,1,2,3],[]⟩,⟨5,[3],[3],none,[0,1,2,3,4],[]⟩]else bif Nat.beq i 15 then[⟨0,[3],[],none,[],[]⟩,⟨1,[6],[],none,[],[]⟩,⟨2,[6],[],none,[1],[]⟩,⟨3,[],[],none,[1,2],[]⟩,⟨4,[],[],none,[0,1,2,3],[]⟩,⟨5,[3],[3],none,[0,1,2,3,4],[]⟩]else[])
 frzNew:=[1]
 cuts:=λi=>bif Nat.beq i 8 then some ⟨[],[3],[],false⟩ else none }
theorem ZmK(aB:Int)(aD aG:Bool)(aF bC bI bJ dB dC dD:Int)(cx:Option Addr)(cy cz:Nat)(cJ:ByteArray)(cK:Int)(cA:Option Addr)(cB cC:Nat)(cL:ByteArray)(cM:Int)(m:Mem)(R:RT)(h:
 lV [int u8 aB,bool aD,bool aG,int u8 aF,int u64 bC,int u64 bI,int u64 bJ,int u64 dB,int i64 dC,int i64 dD,slice cx cy cz,string cJ,int i64 cK,slice cA cB
 cC,string cL,int i64 cM] λxL=>fzM m xL λb m'=>∃(R_1:RT),lE [some (Box.mk b xL 47 16 true true)] λav=>True/\CX Tryz.prog 75 (Array.mk [agg (Array.mk xL)]) m' [] R_1/\ZbD (Shape.agg
 [Shape.int i64,Shape.slice,Shape.slice]) R_1/\∀(n:Int)(a:Option Addr)(aw c:Nat)(ax:Option Addr)(ay az:Nat)(ag:Mem),lX (agg (Array.mk [int i64 n,slice a aw c,slice ax ay az])) λyL=>m'.le ag->R_1 yL ag []->kB Tryz.prog 19 [yL] ag λb m'=>br (!b) (rtM m m' R (int i64 0)) (∀(b:Nat),∃(R_2:RT),lE (some (Box.mk b [] 3 1 false true)::av) λal=>True/\CX Tryz.prog 75 (Array.mk [agg (Array.mk
 xL)]) m' [] R_2/\ZbD (Shape.agg [Shape.int i64,Shape.slice,Shape.slice]) R_2/\∀(n:Int)(a:Option Addr)(a0 c:Nat)(a1:Option Addr)(a2 a3:Nat)(ah:Mem),lX (agg (Array.mk [int i64 n,slice a a0 c,
 slice a1 a2 a3])) λyL=>m'.le ah->R_2 yL ah []->kF Tryz.prog 71 [yL] ah λg fi ca m'=>∃(xs:List (List Value)),IX Tryz.prog g fi ca m' xs/\(∀(x:List Value),x∈xs->Shape.fitsL [Shape.agg
 [Shape.int u8,Shape.str,Shape.slice,Shape.int u8,Shape.any,Shape.str,Shape.int i64,Shape.slice]] x=true)/\∃(I:IT),I [] [[int i64 (-1:Int)]] [] m' 0/\(∀(n:Int)(s:ByteArray)(a:Option Addr) (ai c
 : Nat) (a4:Int) (v:Value) (a5:ByteArray) (a6:Int) (a7:Option Addr) (a8 a9:Nat) (cs:List Value) (aa:Mem) (aj:Nat),lV [int u8 a4,v,string a5,int i64 a6,slice a7 a8 a9] λxL=>lV (int u8 n ::
 string s::slice a ai c::xL) λam=>m'.le aa->List.get?Internal xs aj=some [agg (Array.mk am)]->I [] [cs] [] aa aj->∀(b:Nat),lE (some (Box.mk b am 54 8 false true)::al) λac=>chk (v.oneCell'&&true) (∃(J:JT),br (n == (3:Int)) (∃(f:Fx),Eng.ZrE cs 0 λv=>∃(R:RT),R=f 3 [agg (Array.mk xL)] aa/\CX Tryz.prog 76 (Array.mk [agg (Array.mk xL)]) aa [] R/\ZbD (Shape.int i64) R/\∀(n:Int)
 (m':Mem),aa.le m'->R (int i64 n) m' []->chk (Za2 i64 v&&decide (i64=i64)) (∀(M:Mem),aa.le M->m'.le M->Zac ac/\J [] [[int i64 (if n > RowKit.intOf v then n else RowKit.intOf v)]] [] M))
 (Zac ac/\J [] [cs] [] aa)/\∀(cs:List Value)(m':Mem),aa.le m'->J [] [cs] [] m'->∃(ad:IT),inI ad [int i64 0] [cs] [] m'/\∀(n:Int)(cs:List Value)(ab:Mem)(af:Nat),lV [int i64
 (i64.wrap (n+(1:Int)))] λxL=>m'.le ab->ad [int i64 n] [cs] [] ab af->br (decide (n < (↑ai:Int))) (atA a λb o=>Zad n ai/\∃v an ae ao ap aq ar au:Value,lV [ao,ap,aq,ar,au] λak=>lE (Za2 u8 v&&decide (u8=u8)) λyL=>ab.reads b (o+Int.toNat n*8) (v::an::ae::ak)/\∀(b:Nat),chk
 (v.oneCell'&&(an.oneCell'&&(ae.oneCell'&&(ao.oneCell'&&(ap.oneCell'&&(aq.oneCell'&&(ar.oneCell'&&(au.oneCell'&&true)))))))) (chk yL (br (RowKit.intOf v ==
 (3:Int)) (Eng.ZrE cs 0 λv=>chk (Za2 i64 v&&Za2 i64 ae) (Zac ac/\nxI af ad xL [[int i64 (if RowKit.intOf ae > RowKit.intOf v then RowKit.intOf ae else RowKit.intOf v)]] [] ab)) (chk yL (br (RowKit.intOf
 v == (4:Int)) (∃(f:Fx),Eng.ZrE cs 0 λv=>∃(R:RT),R=f 3 [agg (Array.mk ak)] ab/\CX Tryz.prog 76 (Array.mk [agg (Array.mk ak)]) ab [] R/\ZbD (Shape.int i64) R/\∀(n:Int)(m':Mem),ab.le m'->R
 (int i64 n) m' []->chk (Za2 i64 v&&decide (i64=i64)) (∀(M:Mem),ab.le M->m'.le M->Zac ac/\nxI af ad xL [[int i64 (if n > RowKit.intOf v then n else RowKit.intOf v)]] [] M)) (Zac ac/\nxI af ad
 xL [cs] [] ab)))))) (Zac al/\I [] [cs] [] ab (aj+1))))/\∀(cs:List Value)(aa:Mem),m'.le aa->I [] [cs] [] aa (xs.length)->Eng.ZrE cs 0 λv=>rtM m aa R v)):CX Tryz.prog 30 #[.agg #[.int .u8 aB,.bool aD,.bool aG,.int .u8 aF,.int .u64 bC,.int .u64 bI,.int .u64 bJ,.int .u64 dB,.int .i64 dC,.int .i64 dD,.slice cx cy cz,.string cJ,.int .i64 cK,.slice cA cB cC,.string cL,.int .i64 cM]] m [] R:=
 Zae (E:=ZnR) Zav mix Tryz.func30 (by kernel_rfl) (Eq.mp (by kernel_rfl) h)
def ZcC:Env:={ EB with
 loops:=(λi=>bif Nat.beq i 4 then⟨[(13,.int .i64)],[],[],false⟩ else⟨[],[],[],false⟩)
 dr:=(λi=>bif Nat.beq i 6 then[⟨0,[],[],none,[],[]⟩,⟨1,[],[],none,[],[]⟩,⟨2,[],[],none,[0,1],[]⟩,⟨3,[],[],none,[0,1,2],[]⟩,⟨4,[],[],none,[],[]⟩,⟨5,[],[],none,[],[]⟩,⟨6,[],[],none,[4,5],[]⟩,⟨7,[],[],none,[4,5,6],[]⟩,⟨8,[],[],none,[0,1,2,3,4,5,6,7],[]⟩]else[]) }
theorem ZcA(p0a:Option Addr)(p0n p0c:Nat)(p1a:Option Addr)(p1n p1c:Nat)(m:Mem)(R:RT)(h:
 br (!(↑p0n:Int) == (↑p1n:Int)) (rtM m m R (bool false)) (∃(I:IT),inI I [int i64 0] [] [] m/\∀(n:Int)(m':Mem)(n_1:Nat),m.le m'->I [int i64 n] [] [] m' n_1->br (decide (n < (↑p0n:Int))) (atA p0a
 λb o=>Zad n p0n/\∃(v:Value),m' b (o+Int.toNat n*1)=some v/\atA p1a λb o=>Zad n p1n/\∃(v_1:Value),m' b (o+Int.toNat n*1)=some v_1/\chk (Za2 i64 v&&Za2 i64 v_1) (br
 (!RowKit.intOf v == RowKit.intOf v_1) (rtM m m' R (bool false)) (nxI n_1 I [int i64 (i64.wrap (n+(1:Int)))] [] [] m'))) (rtM m m' R (bool true)))):CX Tryz.prog 38 #[.slice p0a p0n p0c,.slice p1a p1n p1c] m [] R:=
 Zae (E:=ZcC) Zav mix Tryz.func38 (by kernel_rfl) (Eq.mp (by kernel_rfl) h)
def ZbL:Env:={ EB with
 loops:=(λi=>bif Nat.beq i 4 then⟨[(13,.int .i64)],[],[],false⟩ else⟨[],[],[],false⟩)
 dr:=(λi=>bif Nat.beq i 6 then[⟨0,[],[],none,[],[]⟩,⟨1,[],[],none,[],[]⟩,⟨2,[],[],none,[0,1],[]⟩,⟨3,[],[],none,[0,1,2],[]⟩,⟨4,[],[],none,[],[]⟩,⟨5,[],[],none,[],[]⟩,⟨6,[],[],none,[4,5],[]⟩,⟨7,[],[],none,[4,5,6],[]⟩,⟨8,[],[],none,[0,1,2,3,4,5,6,7],[]⟩]else[]) }
theorem ZbH(p0a:Option Addr)(p0n p0c:Nat)(p1a:Option Addr)(p1n p1c:Nat)(m:Mem)(R:RT)(h:
 br (!(↑p0n:Int) == (↑p1n:Int)) (rtM m m R (bool false)) (∃(I:IT),inI I [int i64 0] [] [] m/\∀(n:Int)(m':Mem)(n_1:Nat),m.le m'->I [int i64 n] [] [] m' n_1->br (decide (n < (↑p0n:Int))) (atA p0a
 λb o=>Zad n p0n/\∃(v:Value),m' b (o+Int.toNat n*1)=some v/\atA p1a λb o=>Zad n p1n/\∃(v_1:Value),m' b (o+Int.toNat n*1)=some v_1/\chk (Zhx v&&Zhx v_1) (br
 (!ByteArray.toList (ZbX v) == ByteArray.toList (ZbX v_1)) (rtM m m' R (bool false)) (nxI n_1 I [int i64 (i64.wrap (n+(1:Int)))] [] [] m'))) (rtM m m' R (bool true)))):CX Tryz.prog 42 #[.slice p0a p0n p0c,.slice p1a p1n p1c] m [] R:=
 Zae (E:=ZbL) Zav mix Tryz.func42 (by kernel_rfl) (Eq.mp (by kernel_rfl) h)
end Go.Proofs.YtpjepnkiiojgfaaGreat
namespace Go.Proofs.YtpjepnkiiojgfaaGreat
open Go Go.Eng Go.Rx Go.Proofs Go.RowKit
set_option maxRecDepth 100000
def iC(z:Int):List Value:=[.int .i64 z]
theorem Zwd(z:Int):(iC z).length=1:=rfl
theorem Zwe(z:Int):∀u∈iC z,u.oneCell'=true:=λu hu=>by
 obtain rfl:u=.int .i64 z:=by simpa[iC]using hu
 rfl
theorem ZoZ:∀l:List Int,(l.map iC).flatten=Ze8 l
 | []=>rfl
 | z::l=>by
  have:=ZoZ l
  simp only[List.map_cons,List.flatten_cons,this];rfl
theorem Zxr(a b:ByteArray):(a == b)=decide (a=b):=by
 rw[Bool.eq_iff_iff,decide_eq_true_eq]
 cases a with|mk x=>cases b with|mk y=>
 show(x == y)=true↔_
 rw[beq_iff_eq,ByteArray.mk.injEq]
theorem ZsH(a b:ByteArray):EqIs Tryz.prog 9 (.string a) (.string b) (decide (a=b)):=by
 rw[<-Zxr]
 exact ZrJ Tryz.underlying9 (by simp[Instr.sameNow]) (λop ox oy w=>by cases op <;> simp[eqGuard])
abbrev gN(k:Nat):Value:=.int .i64 k
def Zs7(m:Mem)(bm:Nat)(L:List Sta)(i:Nat):Prop:=m.k bm=some (ZwM Value.string gN (Zcw L i))
theorem ZmL{m:Mem}{bm:Nat}{L:List Sta}{i:Nat}(hm:Zs7 m bm L i)(n:ByteArray):∃r:Option Nat,LookIs Tryz.prog 9 (.string n) (ZwM Value.string gN (Zcw L i)) (.int .i64 0) ((r.map gN).getD (.int .i64 0)) r.isSome/\(∀k,r=some k->(n,k)∈Zcw L i)/\(r=none->n ∉ (Zcw L i).map (·.1)):=by
 by_cases h:n∈(Zcw L i).map (·.1)
 ·obtain⟨q,hq,fP⟩:=List.mem_map.1 h
  obtain⟨n',k⟩:=q
  obtain rfl:n'=n:=fP
  exact⟨some k,⟨some (gN k),Zrg ZsH n' k _ hq (Zjm L i),rfl,rfl⟩,(λk' e=>by cases e;exact hq),λe=>by cases e⟩
 ·exact⟨none,⟨none,ZoF ZsH n _ h,rfl,rfl⟩,(λk' e=>by cases e),λ_=>h⟩
theorem ZsI{L:List Sta}{n:ByteArray}{r:Option Nat}(h1:∀k,r=some k->(n,k)∈Zcw L L.length)(h2:r=none->n ∉ (Zcw L L.length).map (·.1)):goI L n=r:=by
 cases r with
 | some k=>exact ZkV.2 (h1 k rfl)
 | none=>
  cases e:goI L n with
  | none=>rfl
  | some k=>exact absurd (List.mem_map.2 ⟨_,ZkV.1 e,rfl⟩) (h2 rfl)
structure Il where
 a:Option Addr
 c:Nat
 l:List Int
def Il.cs(y:Il):List Value:=[.slice y.a y.l.length y.c]
theorem Il.len(y:Il):y.cs.length=1:=rfl
theorem Il.one(y:Il):∀u∈y.cs,u.oneCell'=true:=λu hu=>by
 obtain rfl:u=_:=by simpa[Il.cs]using hu
 rfl
def QT(L:List Sta)(x:Sta)(y:Il)(μ:Mem):Prop:=y.l=ZuZ L x/\rowRd μ y.a (Ze8 y.l)
def TgI(L:List Sta)(m:Mem)(x:Sta):Value->Mem->List (List Value)->Prop:=λv m' _=>∃y:Il,v=.slice y.a y.l.length y.c/\QT L x y (nw m m')
theorem ZmM(L:List Sta)(x:Sta)(m:Mem)(c0b bm:Nat)(hx:RepS m x)(hc:m.reads c0b 0 [.map (some bm)])(hk:Zs7 m bm L L.length):
  CX Tryz.prog 78 #[.agg x.cs.toArray,.pointer (some ⟨c0b,0,none⟩)] m [] (TgI L m x):=by
 have gX:x.rules.length<=100000:=hx.len
 apply Zfn (c0b:=c0b) (c0o:=0)
 intro b m1 aH lF e7 vn
 refine⟨λxs css tvs mm q=>∃(i:Nat)(a:Option Addr)(c:Nat),i<=x.rules.length/\xs=[.slice a (Zj2 L (x.rules.take i)).length c,.int .i64 i]/\tvs=[.slice a (Zj2 L (x.rules.take i)).length c]/\m1.le mm/\rowRd mm a (Ze8 (Zj2 L (x.rules.take i)))/\(∀b',Yi (.slice a (Zj2 L (x.rules.take i)).length c) b'->m1.free b'/\m1.k b'=none)/\q=x.rules.length - i,⟨_,0,none,0,by omega,rfl,rfl,Mem.le_refl _,.inl rfl,(λb' h=>by simp[Yi,Tok.blk]at h),rfl⟩,?_⟩
 rintro a n c z a2 n2 c2 mm q _ ⟨i,a',c',hi,bQ,bY,hM,aA,bB,rfl⟩
 simp only[List.cons.injEq,Value.slice.injEq,Value.int.injEq,true_and,and_true]at bQ bY
 obtain⟨⟨rfl,rfl,rfl⟩,rfl⟩:=bQ
 obtain⟨rfl,rfl,rfl⟩:=bY
 have aE:=Zt4 L (x.rules.take i)
 rw[List.length_take]at aE
 have gT:IntKind.i64.wrap ((i:Int)+1)=((i+1:Nat):Int):=by rw[Zai (by omega) (by omega)];rfl
 have jE:=mLt aH hM
 refine Zat (λaC=>?_) (λbF=>?_)
 ·have aC:(i:Int) < (x.rules.length:Nat):=aC
  obtain⟨r,hr⟩:=Zcz (show i < x.rules.length by omega)
  obtain⟨b2,o2,fK,iU⟩:=Zal Ru.len (hx.mono jE).row hr (by omega)
  have bO:=Zsg (L:=L) hr
  obtain⟨ro,rk,ia,jY⟩:=ZmL (m:=m) hk r.go
  have rm:=ZsI ia jY
  refine⟨b2,o2,fK,⟨by omega,aC⟩,_,_,_,_,_,_,_,_,_,_,_,_,_,_,_,_,iU,λb3=>Zaa rfl ⟨_,(hc.mono jE) 0 _ rfl,bm,_,_,_,rfl,jE.k _ _ hk,ZhJ Tryz.underlying9 _,rk,?_⟩⟩
  have gU:ZuY L r=none->nxI (x.rules.length - i) (λxs css tvs mm q=>∃(i:Nat)(a:Option Addr)(c:Nat),i<=x.rules.length/\xs=[.slice a (Zj2 L (x.rules.take i)).length c,.int .i64 i]/\tvs=[.slice a (Zj2 L (x.rules.take i)).length c]/\m1.le mm/\rowRd mm a (Ze8 (Zj2 L (x.rules.take i)))/\(∀b',Yi (.slice a (Zj2 L (x.rules.take i)).length c) b'->m1.free b'/\m1.k b'=none)/\q=x.rules.length - i) [.slice a2 (Zj2 L (x.rules.take i)).length c2,.int .i64 (IntKind.i64.wrap ((i:Int)+1))] [] [.slice a2 (Zj2 L (x.rules.take i)).length c2] mm:=λhe=>by
   rw[he,Option.toList_none,List.append_nil]at bO
   exact⟨x.rules.length - (i+1),by omega,i+1,a2,c2,by omega,by rw[gT,bO],by rw[bO],hM,by rw[bO];exact aA,by rw[bO];exact bB,rfl⟩
  cases ro with
  | none=>
   have ht:ZuY L r=none:=by unfold ZuY;rw[rm];split <;> rfl
   exact⟨false,Zmm rfl ⟨rfl,rfl,rfl⟩,Zmm rfl ⟨rfl,gU ht⟩⟩
  | some k=>
   by_cases hz:r.go.size=0
   ·have ht:ZuY L r=none:=by unfold ZuY;rw[if_pos hz]
    refine⟨false,Zs5 rfl (Zaa rfl ⟨rfl,rfl,?_⟩),Zmm rfl ⟨rfl,gU ht⟩⟩
    show[Value.bool (!(r.go.toList == ByteArray.toList ⟨#[]⟩))]=_
    rw[ZtM,hz];rfl
   ·have ht:ZuY L r=some (k:Int):=by unfold ZuY;rw[if_neg hz,rm];rfl
    have lR:=ZvX rm
    refine⟨true,Zs5 rfl (Zaa rfl ⟨rfl,rfl,?_⟩),Zs5 rfl (Zaa rfl λb4 eN=>?_)⟩
    ·show[Value.bool (!(r.go.toList == ByteArray.toList ⟨#[]⟩))]=_
     rw[ZtM,show(r.go.size == 0)=false by simpa using hz];rfl
    rw[ht,Option.toList_some]at bO
    refine Zcy Zwd Zwe (ts:=Zj2 L (x.rules.take i)) eN (k:Int) (by rw[ZoZ];exact aA) 8 (by omega) (by omega) (.inl rfl) λa5 c5 m5 cE bH ie=>?_
    have rp:=mLt (Mem.le_add eN _) cE
    refine⟨rfl,x.rules.length - (i+1),by omega,i+1,a5,c5,by omega,by rw[gT,bO,zA1];rfl,by rw[bO,zA1];rfl,mLt hM rp,by rw[bO,<-ZoZ];exact bH,λb' hb'=>?_,rfl⟩
    rcases ie.2 with h|⟨bb,oo,ha',h⟩
    ·rw[h]at hb';simp[Yi,Tok.blk]at hb'
    ·subst ha'
     obtain rfl:bb=b':=by simpa[Yi,Tok.blk]using hb'
     rcases h with h|⟨_,h2,h3⟩
     ·exact bB _ (by rw[h];simp[Yi,Tok.blk])
     ·have sY:=mLt hM (Mem.le_add eN (iC k))
      exact⟨Zbx sY h2,ZfR sY h3⟩
 ·have bF:¬(i:Int) < (x.rules.length:Nat):=bF
  have hi:i=x.rules.length:=by omega
  subst hi
  rw[List.take_length]at aA bB aE ⊢
  have dS:=Zmd (Zj2 L x.rules)
  have rq:∀b',Yi (.slice a2 (Zj2 L x.rules).length c2) b'->m.free b'/\m.k b'=none:=λb' h=>⟨Zbx aH (bB b' h).1,ZfR aH (bB b' h).2⟩
  refine⟨_,_,Zkb (Zj2 L x.rules) a2 c2 mm aA (by omega),(λt ht bb dk=>by
   obtain rfl:t=_:=by simpa using ht
   exact dk),(λbb dk=>.inl ⟨_,by simp,dk⟩),(λv _ _ _ h=>by rw[h.1];rfl),?_⟩
  rintro m2 aK _ a3 c3 d3 ⟨_,_,bY,cN⟩
  simp only[List.cons.injEq,Value.slice.injEq,and_true]at bY
  obtain⟨rfl,rfl,rfl⟩:=bY
  have sZ:=Zf0 (Zp4 (Zj2 L x.rules)) a3 d3 m2 cN (by omega)
  rw[dS]at sZ
  refine⟨_,_,sZ,(λt ht bb dk=>by
   obtain rfl:t=_:=by simpa using ht
   exact dk),(λbb dk=>.inl ⟨_,by simp,dk⟩),(λv _ _ _ h=>by rw[h.1];rfl),?_⟩
  rintro a4 n4 c4 m3 aR _ a6 c6 d6 ⟨hv,_,_,iV⟩
  simp only[Value.slice.injEq]at hv
  obtain⟨rfl,rfl,rfl⟩:=hv
  have eL:m.le m2:=mLt (Zl7 jE rq) aK
  have fH:m.le m3:=mLt (Zl7 eL rq) aR
  refine ZaA fH ⟨⟨a4,c4,ZuZ L x⟩,rfl,rfl,ZkT ?_ ?_⟩
  ·rcases iV with h|⟨b5,o5,lC,h⟩
   ·refine .inl ?_
    unfold Ze8 at h ⊢
    rw[List.map_append]at h
    exact(List.append_eq_nil_iff.1 h).1
   ·refine .inr ⟨b5,o5,lC,λj v hj=>h j v ?_⟩
    have hj:(Ze8 (Go.Lib.compact (Zp4 (Zj2 L x.rules))))[j]?=some v:=hj
    unfold Ze8 at hj ⊢
    rw[List.map_append,zA5 (zA0 hj).1]
    exact hj
  ·refine .inr λb o e=>(rq b ?_).1
   have e:a4=some ⟨b,o,none⟩:=e
   rw[e];simp[Yi,Tok.blk]
theorem ZsJ(cb:Nat)(ca:List Value)(Q:Sta->Il->Mem->Prop)(L:List Sta)(a:Option Addr)(d:Nat)(m:Mem)(aA:rowRd m a (L.map Sta.cs).flatten)(hl:L.length<=few)(jH:∀x∈L,∀m2,m.le m2->CX Tryz.prog cb (Array.mk (.agg x.cs.toArray::ca)) m2 [] (λv m3 _=>∃y:Il,v=.slice y.a y.l.length y.c/\Q x y (nw m2 m3))):
  CX Tryz.prog 77 #[.slice a L.length d,.func (.func cb) #[] (Array.mk ca)] m [] (ZoB Il.cs Q m L):=by
 have hl:L.length<=100000:=hl
 apply Zb1 (p1fi:=[]) (p1ca:=ca)
 refine⟨λxs css tvs m' q=>∃(k:Nat)(a':Option Addr)(c':Nat)(L':List Il)(μ:Nat->Mem),k<=L.length/\q=L.length - k/\xs=[.slice a' L'.length c',.int .i64 k]/\tvs=[.slice a' L'.length c']/\Each Il.cs Q m m' (L.take k) a' c' L' μ,⟨_,0,none,0,[],_,by omega,rfl,rfl,rfl,Each.nil m⟩,?_⟩
 rintro a1 n1 c1 z a2 n2 c2 m2 q _ ⟨k,a',c',L',μ,hk,hq,bQ,bY,hE⟩
 simp only[List.cons.injEq,Value.slice.injEq,Value.int.injEq,true_and,and_true]at bQ bY
 obtain⟨⟨rfl,rfl,rfl⟩,rfl⟩:=bQ
 obtain⟨rfl,rfl,rfl⟩:=bY
 have gR:L'.length=k:=by rw[hE.len,List.length_take];omega
 refine Zab (λaC=>?_) (λbF=>?_)
 ·have aP:k < L.length:=by have:=zA6 aC;omega
  obtain⟨x,hx⟩:=Zaw aP
  obtain⟨b,o,ha,bT⟩:=Zal Sta.len aA hx (by omega)
  have hw:IntKind.i64.wrap ((k:Int)+1)=((k+1:Nat):Int):=by rw[Zai (by omega) (by omega)];rfl
  refine⟨b,o,ha,⟨by omega,by omega⟩,_,_,bT.mono hE.le,λb3=>Zaa rfl ⟨_,trivial,jH x (zA2 hx) m2 hE.le,(λv _ _ ⟨y,h,_⟩=>by rw[h];rfl),?_⟩⟩
  rintro ya yn yc m3 aR ⟨y,hv,hQ⟩ b4 eN
  simp only[Value.slice.injEq]at hv
  obtain⟨rfl,rfl,rfl⟩:=hv
  refine Zcy Il.len Il.one eN y (hE.row.mono aR) 24 (by omega) (by omega) (.inl rfl) λa5 c5 m5 cE bH aJ=>?_
  have bO:=hE.step Il.len (by omega) hx aR hQ eN cE bH aJ
  exact⟨L.length - (k+1),by omega,k+1,a5,c5,L'++[y],_,by omega,rfl,by rw[hw,zA1];rfl,by rw[zA1];rfl,bO⟩
 ·have cO:k=L.length:=by have:=of_decide_eq_false bF;omega
  rw[cO,List.take_length]at hE
  exact⟨m2,hE.le,Mem.le_refl _,_,_,L',μ,rfl,hE⟩
def TgR(s:Sc):Value->Mem->List (List Value)->Prop:=λv m' _=>∃(a:Option Addr)(c:Nat)(L':List Il),v=.slice a L'.length c/\L'.map Il.l=(if s.light then s.states.map (ZuZ s.states)else[])/\rowRd m' a (L'.map Il.cs).flatten/\∀y∈L',rowRd m' y.a (Ze8 y.l)
theorem ZsK{s}:∀(v:Value)(m':Mem) (css:List (List Value)),TgR s v m' css->Shape.fits .slice v=true:=λv _ _ ⟨_,_,_,h,_⟩=>by rw[h];rfl
theorem ZnS(s:Sc)(m:Mem)(hr:RepC m s):CX Tryz.prog 32 #[s.v] m [] (TgR s):=by
 have dS:s.states.length<=100000:=hr.len
 apply Zg2
 intro b m1 aH _ e7 _ _
 refine Zar (ZcS s m1 (hr.mono aH)) λm2 aK=>Zab (λh=>Zaj (mLt aH aK) ?_) (λh=>?_)
 ·have hl:s.light=false:=by simpa using h
  exact⟨none,0,[],rfl,by rw[hl];rfl,.inl rfl,λy hy=>by cases hy⟩
 have hl:s.light=true:=by simpa using h
 have dq:=mLt aH aK
 intro bm hf hk b1
 have gm:m.k bm=none:=ZfR dq hk
 refine⟨λxs _ _ mm q=>∃i:Nat,i<=s.states.length/\xs=[.int .i64 i]/\m2.le mm/\Zs7 mm bm s.states i/\q=s.states.length - i,⟨_,0,by omega,rfl,Mem.le_updK (Mem.le_refl _) hk _,Mem.updK_same _ _ _,rfl⟩,?_⟩
 rintro z mm q _ ⟨i,hi,hz,hM,hE,rfl⟩
 obtain rfl:z=i:=by simpa using hz
 have gT:IntKind.i64.wrap ((i:Int)+1)=((i+1:Nat):Int):=by rw[Zai (by omega) (by omega)];rfl
 have jE:=mLt dq hM
 refine Zat (λaC=>?_) (λbF=>?_)
 ·have aC:(i:Int) < (s.states.length:Nat):=aC
  obtain⟨x,hx⟩:=Zcz (show i < s.states.length by omega)
  obtain⟨b2,o2,fK,iU⟩:=Zal Sta.len (hr.mono jE).row hx (by omega)
  obtain⟨ro,rk,ia,jY⟩:=ZmL hE x.s
  have bO:=Zp6 hx
  refine⟨b2,o2,fK,⟨by omega,aC⟩,_,_,iU,λb3=>Zaa rfl ⟨bm,_,_,_,rfl,hE,ZhJ Tryz.underlying9 _,rk,?_⟩⟩
  cases ro with
  | some k=>
   have ef:ZvW (Zcw s.states i) x.s=true:=Ze5.2 (List.mem_map.2 ⟨_,ia k rfl,rfl⟩)
   rw[if_pos ef]at bO
   exact Zmm rfl ⟨rfl,s.states.length - (i+1),by omega,i+1,by omega,by rw[gT],hM,by unfold Zs7;rw[bO];exact hE,rfl⟩
  | none=>
   have nS:=jY rfl
   have ef:ZvW (Zcw s.states i) x.s=false:=by
    cases e:ZvW (Zcw s.states i) x.s with
    | false=>rfl
    | true=>exact absurd (Ze5.1 e) nS
   rw[ef,if_neg (by decide)]at bO
   exact Zs5 rfl ⟨bm,_,_,rfl,hE,ZhJ Tryz.underlying9 _,Zrf (g:=gN) ZsH x.s i _ nS,gm,rfl,s.states.length - (i+1),by omega,i+1,by omega,by rw[gT],Mem.le_updK hM hk _,by unfold Zs7;rw[bO];exact Mem.updK_same _ _ _,rfl⟩
 ·have bF:¬(i:Int) < (s.states.length:Nat):=bF
  have hi:i=s.states.length:=by omega
  subst hi
  intro m3 aR iQ
  have dh:=mLt jE aR
  have i9:=hr.mono dh
  refine Zam (ZsJ 78 _ (QT s.states) s.states s.sa s.sc m3 i9.row hr.len λx hx m4 bU=>?_) Zev ?_
  ·exact ZmM s.states x m4 b1 bm ((i9.all x hx).mono bU) (iQ.mono bU) (bU.k _ _ (aR.k _ _ hE))
  ·rintro a n c m5 cE ⟨a',c',L',μ,hv,rr⟩
   simp only[Value.slice.injEq]at hv
   obtain⟨rfl,rfl,rfl⟩:=hv
   refine ZaA (mLt dh cE) ⟨_,_,L',rfl,?_,rr.row,λy hy=>?_⟩
   ·rw[hl,if_pos rfl]
    exact rr.same λx y μ hq=>hq.1
   ·obtain⟨i,x,_,_,hq,hs⟩:=rr.at hy
    exact hq.2.mono (mLt hs (ZkF _ _))
end Go.Proofs.YtpjepnkiiojgfaaGreat
end
