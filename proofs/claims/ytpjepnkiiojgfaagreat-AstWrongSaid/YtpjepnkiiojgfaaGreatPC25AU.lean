/- Part of the proof: functions of the program. No condition. -/
import Derived.Test.YtpjepnkiiojgfaaGreatPC25E
import Derived.Test.YtpjepnkiiojgfaaGreatPC25MJ
import Derived.Test.YtpjepnkiiojgfaaGreatMr
import Derived.Test.YtpjepnkiiojgfaaGreatPEnv
import Derived.Test.YtpjepnkiiojgfaaGreatMc
import Derived.Test.YtpjepnkiiojgfaaGreatPVM
import Derived.Test.YtpjepnkiiojgfaaGreatPC25MA
set_option linter.unusedVariables false
set_option linter.unusedSimpArgs false
set_option linter.unusedSectionVars false
noncomputable section
namespace Go.Proofs.YtpjepnkiiojgfaaGreat
open Go Go.Eng Go.Rx Go.Proofs Go.RowKit
set_option maxRecDepth 100000
set_option maxHeartbeats 4000000 in
def CntW(b n p:Int):Prop:=0<=n/\n<=b/\(n=p\/(20000 < n/\20000 < p))
theorem CntW.out{b n p t:Int}(h:CntW b n p)(hn:n > 20000)(ht:p<=t):t > 20000:=by
 rcases h.2.2 with e|⟨_,e⟩ <;> omega
theorem CntW.eq{b n p:Int}(h:CntW b n p)(hn:¬n > 20000):n=p:=by
 rcases h.2.2 with e|⟨e,_⟩ <;> omega
theorem ZbI(s:Sc)(m:Mem)(hr:RepC m s):CX Tryz.prog 19 #[s.v] m [] (Ret (.bool s.light)):=by
 apply Zkl
 intro b m1 aF _
 have gx:=hr.vlen
 have dq:=hr.len
 unfold few at gx dq
 have dark:∀{M:Mem},m1.le M->s.weight > 20000->∀{n:Int},n > 20000->∃m'':Mem,m.le m''/\m''.le M/\Ret (.bool s.light) (.bool (decide (n<=20000))) m'' []:=λ{M} hM hw {n} hn=>Zai (mLt aF hM) (by
  show Value.bool _=Value.bool s.light
  unfold Sc.light
  rw[decide_eq_false (by omega),decide_eq_false (by omega)])
 generalize hV:((s.vars.length:Int)+s.states.length)=V0
 have rF:0<=V0/\V0<=200000:=by omega
 rw[Zak (by omega) (by omega)]
 have tq:s.weight=V0+ZaI (s.states.map wS):=by unfold Sc.weight;omega
 refine⟨λxs _ _ m' q=>∃(i:Nat)(n:Int),i<=s.states.length/\xs=[.int .i64 n,.int .i64 i]/\CntW 300000 n (V0+ZaI ((s.states.take i).map wS))/\q=s.states.length - i,⟨_,0,V0,by omega,rfl,⟨by omega,by omega,.inl (by simp[ZaI])⟩,rfl⟩,?_⟩
 rintro n k0 m2 q aO ⟨i,n',hi,hx,hC,hq⟩
 simp only[List.cons.injEq,Value.int.injEq,and_true,true_and]at hx
 obtain⟨rfl,rfl⟩:=hx
 subst hq
 have fZ:IntKind.i64.wrap ((i:Int)+1)=((i+1:Nat):Int):=by rw[Zak (by omega) (by omega)];rfl
 simp only[fZ,zA8]
 refine Zaz (λaC=>?_) (λbE=>?_)
 ·have aP:i < s.states.length:=by omega
  obtain⟨x,hx⟩:=ZcZ aP
  have kK:=zA2 hx
  obtain⟨b1,o1,ha,di⟩:=Zal Sta.len ((hr.mono (mLt aF aO)).row) hx (by omega)
  have cL:=hr.all x kK
  have jT:=cL.len
  unfold few at jT
  refine⟨b1,o1,ha,⟨by omega,by omega⟩,_,_,di,λb2=>Zaa rfl (Zaa rfl ?_)⟩
  generalize lu:V0+ZaI ((s.states.take i).map wS)=P0 at hC
  have tu:V0+ZaI ((s.states.take (i+1)).map wS)=P0+wS x:=by rw[ZeY wS hx];omega
  have vD:P0+wS x<=s.weight:=by rw[<-tu,tq];have:=ZeZ wS Zwv s.states (i+1);omega
  refine⟨λxs _ _ m' q=>∃(k:Nat)(n:Int),k<=x.rules.length/\xs=[.int .i64 n,.int .i64 k]/\CntW 300000 n (P0+ZaI ((x.rules.take k).map wR))/\q=x.rules.length - k,⟨_,0,n,by omega,rfl,by simpa[ZaI]using hC,rfl⟩,?_⟩
  rintro n1 k1 m3 q aV ⟨k,n1',hk,fN,kL,hq⟩
  simp only[List.cons.injEq,Value.int.injEq,and_true,true_and]at fN
  obtain⟨rfl,rfl⟩:=fN
  subst hq
  have fE:IntKind.i64.wrap ((k:Int)+1)=((k+1:Nat):Int):=by rw[Zak (by omega) (by omega)];rfl
  simp only[fE,zA8]
  have cK:m.le m3:=mLt aF (mLt aO aV)
  refine Zaz (λdx=>?_) (λdF=>?_)
  ·have i7:k < x.rules.length:=by have:(k:Int) < (x.rules.length:Int):=dx;omega
   obtain⟨r,gC⟩:=ZcZ i7
   have tl:=zA2 gC
   have fw:=cL.all r tl
   obtain⟨b3,o3,eE,jV⟩:=Zal Ru.len ((cL.row).mono cK) gC (by omega)
   have mH:=fw.len
   unfold few at mH
   generalize wH:P0+ZaI ((x.rules.take k).map wR)=P1 at kL
   have og:P0+ZaI ((x.rules.take (k+1)).map wR)=P1+wR r:=by rw[ZeY wR gC];omega
   have vE:P1+wR r<=s.weight:=by
    rw[<-og]
    have:=ZeZ wR Zvk x.rules (k+1)
    unfold wS at vD
    omega
   refine Zaa rfl ⟨b3,o3,eE,⟨by omega,by show(k:Int) < (x.rules.length:Int);omega⟩,_,_,_,_,_,_,_,_,_,_,_,_,_,_,_,_,jV,λb4=>Zaa rfl ?_⟩
   have bB:=Zjg r.t
   refine ZbW (Zrr r.t m3 (fw.t.mono cK)) λm4 bU=>?_
   have ib:(if(20000:Int) < r.t.size then(20000:Int)else r.t.size)=Zhj r.t.size 20000:=rfl
   have dG:0<=Zhj r.t.size 20000/\Zhj r.t.size 20000<=20000:=by unfold Zhj;split <;> omega
   rw[ib]
   have wI:=kL.1
   have wJ:=kL.2.1
   refine⟨λxs _ _ m'=>∃n:Int,xs=[.int .i64 n]/\CntW 330000 n (P1+1+Zhj r.t.size 20000+(if r.t.light then 0 else 20001)),?_,?_⟩
   ·refine Zan (ZkU r.t m4 (fw.t.mono (mLt cK bU))) λm5 bW=>Zab (λh=>⟨by trivial,20001,rfl,?_⟩) (λh=>⟨by trivial,_,rfl,?_⟩)
    ·have hl:r.t.light=false:=by simpa using h
     rw[hl,if_neg (by decide)]
     have hp:0<=P1:=by rcases kL.2.2 with e|⟨_,e⟩ <;> omega
     exact⟨by omega,by omega,.inr ⟨by omega,by omega⟩⟩
    ·have hl:r.t.light=true:=by simpa using h
     rw[hl,if_pos rfl,Zak (n:=1+Zhj r.t.size 20000) (by omega) (by omega),Zak (by omega) (by omega)]
     refine⟨by omega,by omega,?_⟩
     rcases kL.2.2 with e|⟨e1,e2⟩
     ·left;omega
     ·right;omega
   ·rintro n2 m5 bW ⟨n2',lp,rp⟩
    obtain rfl:n2=n2':=by simpa using lp
    generalize vF:P1+1+Zhj r.t.size 20000+(if r.t.light then 0 else 20001)=P2 at rp
    have fF:wR r=(P2 - P1)+ZaI (r.acts.map wA):=by unfold wR;rw[<-vF];omega
    have ij:m.le m5:=mLt cK (mLt bU bW)
    refine Zaa rfl ⟨λxs _ _ m' q=>∃(j:Nat)(n:Int),j<=r.acts.length/\xs=[.int .i64 n,.int .i64 j]/\CntW (330000+j*200000) n (P2+ZaI ((r.acts.take j).map wA))/\q=r.acts.length - j,⟨_,0,n2,by omega,rfl,by simpa[ZaI]using rp,rfl⟩,?_⟩
    rintro n3 k3 m6 q dt ⟨j,n3',hj,oh,kW,hq⟩
    simp only[List.cons.injEq,Value.int.injEq,and_true,true_and]at oh
    obtain⟨rfl,rfl⟩:=oh
    subst hq
    have vG:IntKind.i64.wrap ((j:Int)+1)=((j+1:Nat):Int):=by rw[Zak (by omega) (by omega)];rfl
    simp only[vG,zA8]
    have fu:=mLt ij dt
    have fb:=kW.1
    have s9:=kW.2.1
    refine Zaz (λfK=>?_) (λgH=>?_)
    ·have oi:j < r.acts.length:=by have:(j:Int) < (r.acts.length:Int):=fK;omega
     obtain⟨a,mg⟩:=ZcZ oi
     have gI:=fw.all a (zA2 mg)
     obtain⟨b5,o5,jY,vH⟩:=Zal Ac.len ((fw.row).mono fu) mg (by omega)
     have ip:=gI.n
     unfold few at ip
     have wK:=ZgA a.e
     generalize wL:P2+ZaI ((r.acts.take j).map wA)=P3 at kW
     have rG:P2+ZaI ((r.acts.take (j+1)).map wA)=P3+wA a:=by rw[ZeY wA mg];omega
     have vI:P3+wA a<=s.weight:=by
      have:=ZeZ wA Zrb r.acts (j+1)
      omega
     refine Zaa rfl ⟨b5,o5,jY,⟨by omega,by show(j:Int) < (r.acts.length:Int);omega⟩,_,_,_,_,_,_,_,_,vH,λb6=>Zaa rfl ?_⟩
     refine⟨λ_ _ _=>Ret (.int .i64 (nE a.e)),_,rfl,ZmA a.e m6 (RepE.mono' gI.e fu),λv _ _ e=>by rw[show v=_ from e];rfl,λn8 m7 eF ir=>Zaa rfl λM eR dO=>Zaa rfl ?_⟩
     obtain rfl:n8=nE a.e:=by cases ir;rfl
     have rH:slN (Value.slice a.pa a.parts.length a.pc)=a.parts.length:=rfl
     rw[rH,Zak (n:=1+nE a.e) (by omega) (by omega),Zak (n:=1+nE a.e+(a.parts.length:Int)) (by omega) (by omega),Zak (by omega) (by omega)]
     have vJ:wA a=(1+nE a.e+a.parts.length)+ZaI (a.parts.map λp=>nE p.e):=by unfold wA;omega
     have fL:=mLt fu eR
     refine⟨λxs _ _ m' q=>∃(w:Nat)(n:Int),w<=a.parts.length/\xs=[.int .i64 n,.int .i64 w]/\CntW (330000+(j+1)*200000) n (P3+(1+nE a.e+a.parts.length)+ZaI ((a.parts.take w).map λp=>nE p.e))/\q=a.parts.length - w,⟨_,0,_,by omega,rfl,⟨by omega,by omega,?_⟩,rfl⟩,?_⟩
     ·simp only[List.take_zero,List.map_nil,ZaI]
      rcases kW.2.2 with e|⟨e1,e2⟩
      ·left;omega
      ·right;omega
     rintro n4 k4 m8 q dX ⟨w,n4',hw,mf,mh,hq⟩
     simp only[List.cons.injEq,Value.int.injEq,and_true,true_and]at mf
     obtain⟨rfl,rfl⟩:=mf
     subst hq
     have rC:IntKind.i64.wrap ((w:Int)+1)=((w+1:Nat):Int):=by rw[Zak (by omega) (by omega)];rfl
     simp only[rC,zA8]
     have pF:=mLt fL dX
     have pG:m1.le m8:=mLt aO (mLt aV (mLt bU (mLt bW (mLt dt (mLt eR dX)))))
     have mE:=mh.1
     have jC:=mh.2.1
     refine Zaz (λjZ=>?_) (λj0=>?_)
     ·have ol:w < a.parts.length:=by have:(w:Int) < (a.parts.length:Int):=jZ;omega
      obtain⟨p,gO⟩:=ZcZ ol
      have fS:=gI.all p (zA2 gO)
      obtain⟨b7,o7,rI,vK⟩:=Zal Pt.len ((gI.row).mono pF) gO (by omega)
      have wM:=ZgA p.e
      have bP:=ZeY (λp:Pt=>nE p.e) gO
      have vL:=ZeZ (λp:Pt=>nE p.e) (λp=>(ZgA p.e).1) a.parts w
      refine Zaa rfl ⟨b7,o7,rI,⟨by omega,by show(w:Int) < (a.parts.length:Int);omega⟩,_,_,_,_,_,_,_,_,vK,λb8=>Zaa rfl (Zaz (λhd=>dark pG (mh.out hd (by omega)) hd) (λhd=>?_))⟩
      refine ZbW (ZmA p.e m8 (RepE.mono' fS.e pF)) λm9 gX=>⟨by trivial,a.parts.length - (w+1),by omega,w+1,_,by omega,rfl,?_,rfl⟩
      have he:=mh.eq hd
      rw[Zak (by omega) (by omega),bP]
      exact⟨by omega,by omega,.inl (by omega)⟩
     ·have hw':w=a.parts.length:=by have:¬(w:Int) < (a.parts.length:Int):=j0;omega
      subst hw'
      rw[List.take_length]at mh
      refine⟨by trivial,r.acts.length - (j+1),by omega,j+1,n4,by omega,rfl,?_,rfl⟩
      rw[rG,vJ]
      exact⟨mh.1,by push_cast;omega,by rcases mh.2.2 with e|e;left;omega;right;omega⟩
    ·have hj':j=r.acts.length:=by have:¬(j:Int) < (r.acts.length:Int):=gH;omega
     subst hj'
     rw[List.take_length]at kW
     have jX:m1.le m6:=mLt aO (mLt aV (mLt bU (mLt bW dt)))
     refine Zaz (λhd=>dark jX (kW.out hd (by omega)) hd) (λhd=>⟨by trivial,x.rules.length - (k+1),by omega,k+1,n3,by omega,rfl,?_,rfl⟩)
     rw[og,fF]
     exact⟨kW.1,by omega,.inl (by have:=kW.eq hd;omega)⟩
  ·have hk':k=x.rules.length:=by have:¬(k:Int) < (x.rules.length:Int):=dF;omega
   subst hk'
   rw[List.take_length]at kL
   refine⟨by trivial,s.states.length - (i+1),by omega,i+1,n1,by omega,rfl,?_,rfl⟩
   rw[tu];exact kL
 ·have hi':i=s.states.length:=by omega
  subst hi'
  rw[List.take_length,<-tq]at hC
  refine Zai (mLt aF aO) ?_
  show Value.bool _=Value.bool s.light
  unfold Sc.light
  congr 1
  rw[decide_eq_decide]
  rcases hC.2.2 with e|⟨e1,e2⟩ <;> omega
theorem Zqt{x:List Value}{K:List Value->Prop}(h:∀y,K y):lV x K:=h x
theorem ZsI(cb:Nat)(Q:Pt->Pt->Mem->Prop)(L:List Pt)(a:Option Addr)(d:Nat)(m:Mem)(aB:rowRd m a (L.map Pt.cs).flatten)(hl:L.length<=few)(j1:∀x∈L,∀m2,m.le m2->CX Tryz.prog cb #[.agg x.cs.toArray] m2 [] (λv m3 _=>∃y:Pt,v=.agg y.cs.toArray/\Q x y (nw m2 m3))):
  CX Tryz.prog 91 #[.slice a L.length d,.func (.func cb) #[] #[]] m [] (ZoF Pt.cs Q m L):=by
 have hl:L.length<=100000:=hl
 apply ZbG (p1fi:=[]) (p1ca:=[])
 refine⟨λxs css tvs m' q=>∃(k:Nat)(a':Option Addr)(c':Nat)(L':List Pt)(μ:Nat->Mem),k<=L.length/\q=L.length - k/\xs=[.slice a' L'.length c',.int .i64 k]/\tvs=[.slice a' L'.length c']/\Each Pt.cs Q m m' (L.take k) a' c' L' μ,⟨_,0,none,0,[],_,by omega,rfl,rfl,rfl,Each.nil m⟩,?_⟩
 rintro a1 n1 c1 z a2 n2 c2 m2 q _ ⟨k,a',c',L',μ,hk,hq,cD,bQ,hE⟩
 simp only[List.cons.injEq,Value.slice.injEq,Value.int.injEq,true_and,and_true]at cD bQ
 obtain⟨⟨rfl,rfl,rfl⟩,rfl⟩:=cD
 obtain⟨rfl,rfl,rfl⟩:=bQ
 have gW:L'.length=k:=by rw[hE.len,List.length_take];omega
 refine Zab (λaC=>?_) (λbE=>?_)
 ·have aP:k < L.length:=by have:=zA6 aC;omega
  obtain⟨x,hx⟩:=Zav aP
  obtain⟨b,o,ha,bV⟩:=Zal Pt.len aB hx (by omega)
  have hw:IntKind.i64.wrap ((k:Int)+1)=((k+1:Nat):Int):=by rw[Zak (by omega) (by omega)];rfl
  refine⟨b,o,ha,⟨by omega,by omega⟩,_,_,_,_,_,_,_,_,bV.mono hE.le,λb3=>Zaa rfl ⟨_,trivial,j1 x (zA2 hx) m2 hE.le,(λv _ _ ⟨y,h,_⟩=>by rw[h];rfl),?_⟩⟩
  intros
  refine Zqt λys=>?_
  rintro aV ⟨y,hv,hQ⟩ b4 eP
  obtain rfl:ys=y.cs:=by simpa using hv
  have bB:(L'.length+1)*96<=140737488355328:=by omega
  refine Zb0 Pt.len Pt.one eP y (hE.row.mono aV) 96 bB (by omega) (.inl rfl) λa5 c5 m5 bW bG aN=>?_
  have bP:=hE.step Pt.len (by omega) hx aV hQ eP bW bG aN
  exact⟨L.length - (k+1),by omega,k+1,a5,c5,L'++[y],_,by omega,rfl,by rw[hw,zA1];rfl,by rw[zA1];rfl,bP⟩
 ·have cS:k=L.length:=by have:=of_decide_eq_false bE;omega
  rw[cS,List.take_length]at hE
  exact⟨m2,hE.le,Mem.le_refl _,_,_,L',μ,rfl,hE⟩
theorem ZsJ(cb:Nat)(Q:Ac->Ac->Mem->Prop)(L:List Ac)(a:Option Addr)(d:Nat)(m:Mem)(aB:rowRd m a (L.map Ac.cs).flatten)(hl:L.length<=few)(j1:∀x∈L,∀m2,m.le m2->CX Tryz.prog cb #[.agg x.cs.toArray] m2 [] (λv m3 _=>∃y:Ac,v=.agg y.cs.toArray/\Q x y (nw m2 m3))):
  CX Tryz.prog 88 #[.slice a L.length d,.func (.func cb) #[] #[]] m [] (ZoF Ac.cs Q m L):=by
 have hl:L.length<=100000:=hl
 apply Zbb (p1fi:=[]) (p1ca:=[])
 refine⟨λxs css tvs m' q=>∃(k:Nat)(a':Option Addr)(c':Nat)(L':List Ac)(μ:Nat->Mem),k<=L.length/\q=L.length - k/\xs=[.slice a' L'.length c',.int .i64 k]/\tvs=[.slice a' L'.length c']/\Each Ac.cs Q m m' (L.take k) a' c' L' μ,⟨_,0,none,0,[],_,by omega,rfl,rfl,rfl,Each.nil m⟩,?_⟩
 rintro a1 n1 c1 z a2 n2 c2 m2 q _ ⟨k,a',c',L',μ,hk,hq,cD,bQ,hE⟩
 simp only[List.cons.injEq,Value.slice.injEq,Value.int.injEq,true_and,and_true]at cD bQ
 obtain⟨⟨rfl,rfl,rfl⟩,rfl⟩:=cD
 obtain⟨rfl,rfl,rfl⟩:=bQ
 have gW:L'.length=k:=by rw[hE.len,List.length_take];omega
 refine Zab (λaC=>?_) (λbE=>?_)
 ·have aP:k < L.length:=by have:=zA6 aC;omega
  obtain⟨x,hx⟩:=Zav aP
  obtain⟨b,o,ha,bV⟩:=Zal Ac.len aB hx (by omega)
  have hw:IntKind.i64.wrap ((k:Int)+1)=((k+1:Nat):Int):=by rw[Zak (by omega) (by omega)];rfl
  refine⟨b,o,ha,⟨by omega,by omega⟩,_,_,_,_,_,_,_,_,bV.mono hE.le,λb3=>Zaa rfl ⟨_,trivial,j1 x (zA2 hx) m2 hE.le,(λv _ _ ⟨y,h,_⟩=>by rw[h];rfl),?_⟩⟩
  intros
  refine Zqt λys=>?_
  rintro aV ⟨y,hv,hQ⟩ b4 eP
  obtain rfl:ys=y.cs:=by simpa using hv
  have bB:(L'.length+1)*112<=140737488355328:=by omega
  refine Zb0 Ac.len Ac.one eP y (hE.row.mono aV) 112 bB (by omega) (.inl rfl) λa5 c5 m5 bW bG aN=>?_
  have bP:=hE.step Ac.len (by omega) hx aV hQ eP bW bG aN
  exact⟨L.length - (k+1),by omega,k+1,a5,c5,L'++[y],_,by omega,rfl,by rw[hw,zA1];rfl,by rw[zA1];rfl,bP⟩
 ·have cS:k=L.length:=by have:=of_decide_eq_false bE;omega
  rw[cS,List.take_length]at hE
  exact⟨m2,hE.le,Mem.le_refl _,_,_,L',μ,rfl,hE⟩
theorem ZsK(cb:Nat)(Q:Ru->Ru->Mem->Prop)(L:List Ru)(a:Option Addr)(d:Nat)(m:Mem)(aB:rowRd m a (L.map Ru.cs).flatten)(hl:L.length<=few)(j1:∀x∈L,∀m2,m.le m2->CX Tryz.prog cb #[.agg x.cs.toArray] m2 [] (λv m3 _=>∃y:Ru,v=.agg y.cs.toArray/\Q x y (nw m2 m3))):
  CX Tryz.prog 57 #[.slice a L.length d,.func (.func cb) #[] #[]] m [] (ZoF Ru.cs Q m L):=by
 have hl:L.length<=100000:=hl
 apply ZbH (p1fi:=[]) (p1ca:=[])
 refine⟨λxs css tvs m' q=>∃(k:Nat)(a':Option Addr)(c':Nat)(L':List Ru)(μ:Nat->Mem),k<=L.length/\q=L.length - k/\xs=[.slice a' L'.length c',.int .i64 k]/\tvs=[.slice a' L'.length c']/\Each Ru.cs Q m m' (L.take k) a' c' L' μ,⟨_,0,none,0,[],_,by omega,rfl,rfl,rfl,Each.nil m⟩,?_⟩
 rintro a1 n1 c1 z a2 n2 c2 m2 q _ ⟨k,a',c',L',μ,hk,hq,cD,bQ,hE⟩
 simp only[List.cons.injEq,Value.slice.injEq,Value.int.injEq,true_and,and_true]at cD bQ
 obtain⟨⟨rfl,rfl,rfl⟩,rfl⟩:=cD
 obtain⟨rfl,rfl,rfl⟩:=bQ
 have gW:L'.length=k:=by rw[hE.len,List.length_take];omega
 refine Zab (λaC=>?_) (λbE=>?_)
 ·have aP:k < L.length:=by have:=zA6 aC;omega
  obtain⟨x,hx⟩:=Zav aP
  obtain⟨b,o,ha,bV⟩:=Zal Ru.len aB hx (by omega)
  have hw:IntKind.i64.wrap ((k:Int)+1)=((k+1:Nat):Int):=by rw[Zak (by omega) (by omega)];rfl
  refine⟨b,o,ha,⟨by omega,by omega⟩,_,_,_,_,_,_,_,_,_,_,_,_,_,_,_,_,bV.mono hE.le,λb3=>Zaa rfl ⟨_,trivial,j1 x (zA2 hx) m2 hE.le,(λv _ _ ⟨y,h,_⟩=>by rw[h];rfl),?_⟩⟩
  intros
  refine Zqt λys=>?_
  rintro aV ⟨y,hv,hQ⟩ b4 eP
  obtain rfl:ys=y.cs:=by simpa using hv
  have bB:(L'.length+1)*168<=140737488355328:=by omega
  refine Zb0 Ru.len Ru.one eP y (hE.row.mono aV) 168 bB (by omega) (.inl rfl) λa5 c5 m5 bW bG aN=>?_
  have bP:=hE.step Ru.len (by omega) hx aV hQ eP bW bG aN
  exact⟨L.length - (k+1),by omega,k+1,a5,c5,L'++[y],_,by omega,rfl,by rw[hw,zA1];rfl,by rw[zA1];rfl,bP⟩
 ·have cS:k=L.length:=by have:=of_decide_eq_false bE;omega
  rw[cS,List.take_length]at hE
  exact⟨m2,hE.le,Mem.le_refl _,_,_,L',μ,rfl,hE⟩
theorem ZsL(cb:Nat)(Q:Sta->Sta->Mem->Prop)(L:List Sta)(a:Option Addr)(d:Nat)(m:Mem)(aB:rowRd m a (L.map Sta.cs).flatten)(hl:L.length<=few)(j1:∀x∈L,∀m2,m.le m2->CX Tryz.prog cb #[.agg x.cs.toArray] m2 [] (λv m3 _=>∃y:Sta,v=.agg y.cs.toArray/\Q x y (nw m2 m3))):
  CX Tryz.prog 55 #[.slice a L.length d,.func (.func cb) #[] #[]] m [] (ZoF Sta.cs Q m L):=by
 have hl:L.length<=100000:=hl
 apply Zbm (p1fi:=[]) (p1ca:=[])
 refine⟨λxs css tvs m' q=>∃(k:Nat)(a':Option Addr)(c':Nat)(L':List Sta)(μ:Nat->Mem),k<=L.length/\q=L.length - k/\xs=[.slice a' L'.length c',.int .i64 k]/\tvs=[.slice a' L'.length c']/\Each Sta.cs Q m m' (L.take k) a' c' L' μ,⟨_,0,none,0,[],_,by omega,rfl,rfl,rfl,Each.nil m⟩,?_⟩
 rintro a1 n1 c1 z a2 n2 c2 m2 q _ ⟨k,a',c',L',μ,hk,hq,cD,bQ,hE⟩
 simp only[List.cons.injEq,Value.slice.injEq,Value.int.injEq,true_and,and_true]at cD bQ
 obtain⟨⟨rfl,rfl,rfl⟩,rfl⟩:=cD
 obtain⟨rfl,rfl,rfl⟩:=bQ
 have gW:L'.length=k:=by rw[hE.len,List.length_take];omega
 refine Zab (λaC=>?_) (λbE=>?_)
 ·have aP:k < L.length:=by have:=zA6 aC;omega
  obtain⟨x,hx⟩:=Zav aP
  obtain⟨b,o,ha,bV⟩:=Zal Sta.len aB hx (by omega)
  have hw:IntKind.i64.wrap ((k:Int)+1)=((k+1:Nat):Int):=by rw[Zak (by omega) (by omega)];rfl
  refine⟨b,o,ha,⟨by omega,by omega⟩,_,_,bV.mono hE.le,λb3=>Zaa rfl ⟨_,trivial,j1 x (zA2 hx) m2 hE.le,(λv _ _ ⟨y,h,_⟩=>by rw[h];rfl),?_⟩⟩
  intros
  refine Zqt λys=>?_
  rintro aV ⟨y,hv,hQ⟩ b4 eP
  obtain rfl:ys=y.cs:=by simpa using hv
  have bB:(L'.length+1)*40<=140737488355328:=by omega
  refine Zb0 Sta.len Sta.one eP y (hE.row.mono aV) 40 bB (by omega) (.inl rfl) λa5 c5 m5 bW bG aN=>?_
  have bP:=hE.step Sta.len (by omega) hx aV hQ eP bW bG aN
  exact⟨L.length - (k+1),by omega,k+1,a5,c5,L'++[y],_,by omega,rfl,by rw[hw,zA1];rfl,by rw[zA1];rfl,bP⟩
 ·have cS:k=L.length:=by have:=of_decide_eq_false bE;omega
  rw[cS,List.take_length]at hE
  exact⟨m2,hE.le,Mem.le_refl _,_,_,L',μ,rfl,hE⟩
def CpE(m:Mem)(t:E):Value->Mem->List (List Value)->Prop:=λv m' _=>∃t':E,v=t'.v/\t'.er=t.er/\RepE (nw m m') t'
theorem ZoZ{m:Mem}{t:E}:∀(v:Value)(m':Mem) (css:List (List Value)),CpE m t v m' css->Shape.fits (.agg [.int .u8,.any,.str,.int .i64,.slice]) v=true:=λv _ _ ⟨t,e,_⟩=>by rw[e];rfl
theorem Zo0(t:E)(m:Mem)(hr:RepE m t)(hl:t.light=true):CX Tryz.prog 90 #[t.v] m [] (CpE m t):=by
 apply Zj9
 intro b m1 aF _ b1
 have h:=ZdD t m1 (hr.mono' aF)
 rw[hl]at h
 refine Zan h λm2 aO=>ZdJ rfl (Zam (Zjs t m2 (hr.mono' (mLt aF aO)) (zA6 hl)) Ze4 ?_)
 rintro n v s n1 a n2 c m3 aV ⟨t',hv,hr',he,hn⟩
 obtain⟨rfl,rfl,rfl,rfl,rfl,rfl,rfl⟩:=ZnK hv
 exact Zaa rfl ⟨m3,mLt aF (mLt aO aV),Mem.le_refl _,t',rfl,he,Zrw t' hr' (hn.less (mLt aF aO))⟩
theorem Zv0(p:Pt)(m:Mem)(hr:RepP m p)(hl:p.e.light=true):CX Tryz.prog 92 #[.agg p.cs.toArray] m [] (λv m' _=>∃q:Pt,v=.agg q.cs.toArray/\QP p q (nw m m')):=by
 apply ZdE
 intro b b1
 refine Zam (Zo0 p.e m hr.e hl) ZoZ ?_
 rintro n v s n1 a n2 c m3 aV ⟨t',hv,he,cM⟩
 obtain⟨rfl,rfl,rfl,rfl,rfl,rfl,rfl⟩:=ZnK hv
 refine Zaa rfl (Zaa rfl ⟨m3,aV,Mem.le_refl _,⟨p.k,p.s,p.g,t'⟩,rfl,?_,hr.k,hr.s,hr.g,cM⟩)
 simp only[Pt.er,he]
theorem Zv1(x:Ac)(m:Mem)(hr:RepA m x)(hl:LtA x):CX Tryz.prog 89 #[.agg x.cs.toArray] m [] (λv m' _=>∃q:Ac,v=.agg q.cs.toArray/\QA x q (nw m m')):=by
 apply Zex
 intro b b1
 refine Zam (Zo0 x.e m hr.e hl.1) ZoZ ?_
 rintro n v s n1 a n2 c m1 aF ⟨t',hv,he,cM⟩
 obtain⟨rfl,rfl,rfl,rfl,rfl,rfl,rfl⟩:=ZnK hv
 refine Zaa rfl ⟨_,trivial,ZsI 92 QP x.parts x.pa x.pc m1 (hr.row.mono aF) hr.n (λp hp m2 aO=>Zv0 p m2 ((hr.all p hp).mono (mLt aF aO)) (hl.2 p hp)),Zet,?_⟩
 rintro a' n' c' m2 aO ⟨a5,c5,L',μ,hv',hE⟩
 simp only[Value.slice.injEq]at hv'
 obtain⟨rfl,rfl,rfl⟩:=hv'
 refine Zaa rfl ⟨m2,mLt aF aO,Mem.le_refl _,⟨x.k,x.s,a',c',L',t'⟩,rfl,?_,Zp6 hr hE (ZdB aF (Mem.le_refl _)) (cM.mono' (ZdB (Mem.le_refl _) aO))⟩
 simp only[Ac.er,he,hE.same λ_ _ _ h=>h.1]
theorem Zv2(x:Ru)(m:Mem)(hr:RepR m x)(hl:LtR x):CX Tryz.prog 49 #[.agg x.cs.toArray] m [] (λv m' _=>∃q:Ru,v=.agg q.cs.toArray/\QR x q (nw m m')):=by
 apply ZfW
 intro b b1
 refine Zam (ZsB x.t m hr.t (zA6 hl.1)) ZsA ?_
 rintro n0 n1 n2 n3 n4 n5 n6 a n c m1 aF ⟨t',hv,he,cM⟩
 simp only[T.v,Value.agg.injEq,Array.mk.injEq,List.cons.injEq,Value.int.injEq,Value.slice.injEq,true_and,and_true]at hv
 obtain⟨rfl,rfl,rfl,rfl,rfl,rfl,rfl,rfl,rfl,rfl⟩:=hv
 refine⟨_,trivial,ZsJ 89 QA x.acts x.aa x.ac m1 (hr.row.mono aF) hr.len (λp hp m2 aO=>Zv1 p m2 ((hr.all p hp).mono (mLt aF aO)) (hl.2 p hp)),Zet,?_⟩
 rintro a' n' c' m2 aO ⟨a5,c5,L',μ,hv',hE⟩
 simp only[Value.slice.injEq]at hv'
 obtain⟨rfl,rfl,rfl⟩:=hv'
 refine⟨m2,mLt aF aO,Mem.le_refl _,⟨x.k,x.bg,x.en,t',x.s,x.n,a',c',L',x.go,x.code⟩,rfl,?_,Zp7 hr hE (ZdB aF (Mem.le_refl _)) (cM.mono (ZdB (Mem.le_refl _) aO))⟩
 simp only[Ru.er,he,hE.same λ_ _ _ h=>h.1]
theorem Zv3(x:Sta)(m0 m:Mem)(h0:m0.le m)(hr:RepS m x)(hl:∀r∈x.rules,LtR r):CX Tryz.prog 56 #[.agg x.cs.toArray] m [] (λv m' _=>∃q:Sta,v=.agg q.cs.toArray/\QS m0 x q (nw m m')):=by
 apply Zih
 intro b m1 aF _ b1
 refine⟨λ_ _ μ=>ZoF Ru.cs QR μ x.rules,_,rfl,ZsK 49 QR x.rules x.ra x.rc m1 (hr.row.mono aF) hr.len (λp hp m2 aO=>Zv2 p m2 ((hr.all p hp).mono (mLt aF aO)) (hl p hp)),Zet,?_⟩
 rintro a' n' c' m2 aO ⟨a5,c5,L',μ,hv',hE⟩ M _ hM
 simp only[Value.slice.injEq]at hv'
 obtain⟨rfl,rfl,rfl⟩:=hv'
 exact⟨m2,mLt aF aO,hM,⟨x.s,a',c',L'⟩,rfl,(Zt5 (mLt h0 aF) (hr.mono aF) hE).mono (ZdB aF (Mem.le_refl _))⟩
def Zvr(m:Mem)(l:List Va):Value->Mem->List (List Value)->Prop:=λv m' _=>∃a' c',v=.slice a' l.length c'/\rowRd (nw m m') a' (l.map Va.cs).flatten/\l.length<=c'
theorem ZmB(a:Option Addr)(c:Nat)(l:List Va)(m:Mem)(h:rowRd m a (l.map Va.cs).flatten)(hl:l.length<=few):CXT Tryz.prog 54 #[.slice a l.length c] m 4 (Zvr m l):=by
 have hl:l.length<=100000:=hl
 apply Zbg
 have aD:(l.map Va.cs).flatten.length=l.length*4:=ZaQ Va.len l
 refine Zab (λha=>?_) (λha=>⟨⟨rfl,Int.le_refl _,by decide,by decide⟩,λb hf _=>⟨.inl rfl,[],(l.map Va.cs).flatten,rfl,aD,.inl rfl,h,?_,by omega,by omega,λa' c' m' hm aB gl=>⟨rfl,?_⟩⟩⟩)
 ·obtain rfl:a=none:=by simpa using ha
  have h0:l=[]:=by
   rcases h with h|⟨_,_,h,_⟩
   ·rw[h]at aD;exact List.eq_nil_of_length_eq_zero (by simp at aD;omega)
   ·cases h
  subst h0
  exact⟨rfl,none,0,rfl,.inl rfl,Nat.le_refl _⟩
 ·intro u hu
  simp only[List.mem_flatten,List.mem_map]at hu
  obtain⟨_,⟨e,_,rfl⟩,hu⟩:=hu
  exact Va.one e u hu
 ·simp only[Nat.zero_add]at gl ⊢
  refine⟨a',c',rfl,ZkN aB ?_,gl.1⟩
  rcases(gl.old (λ_ _ e=>by cases e;rfl)).2 with h1|⟨b',h1,h2|h2⟩
  ·exact .inr λb o e=>by rw[h1]at e;cases e
  ·exact .inr λb' o e=>by rw[<-h2]at e;cases e;exact hf
  ·exact .inr λb o e=>by rw[h1]at e;cases e;exact h2
def CpC(m:Mem)(s:Sc):Value->Mem->List (List Value)->Prop:=λv m' _=>∃s':Sc,v=s'.v/\s'.er=s.er/\RepC (nw m m') s'/\(s'.states=[]\/∃b μ,SepC m m' s' b μ)
theorem ZkX{m:Mem}{s:Sc}:∀(v:Value)(m':Mem) (css:List (List Value)),CpC m s v m' css->Shape.fits (.agg [.int .i64,.slice,.slice]) v=true:=λv _ _ ⟨t,e,_⟩=>by rw[e];rfl
theorem Zqu{m:Mem}{l:List Va}:∀(v:Value)(m':Mem) (css:List (List Value)),Zvr m l v m' css->Shape.fits .slice v=true:=λv _ _ ⟨_,_,h,_⟩=>by rw[h];rfl
theorem Zo1(s:Sc)(m:Mem)(hr:RepC m s)(hl:s.light=true):CX Tryz.prog 18 #[s.v] m [] (CpC m s):=by
 apply Zmj
 intro b m1 aF _ b1
 have h:=ZbI s m1 (hr.mono aF)
 rw[hl]at h
 refine Zan h λm2 aO=>ZdJ rfl ?_
 have eC:=hr.mono (mLt aF aO)
 have cT:=mLt aF aO
 refine⟨λi _ μ=>if i=4 then Zvr μ s.vars else ZoF Sta.cs (QS m) μ s.states,_,rfl,(ZmB s.va s.vc s.vars m2 eC.vrow eC.vlen).toCX,Zqu,?_⟩
 rintro a n c m3 aV ⟨a',c',hv,aB,cu⟩
 simp only[Value.slice.injEq]at hv
 obtain⟨rfl,rfl,rfl⟩:=hv
 refine⟨_,rfl,ZsL 56 (QS m) s.states s.sa s.sc m3 (eC.row.mono aV) eC.len (λx hx m4 bU=>Zv3 x m m4 (mLt cT (mLt aV bU)) ((eC.all x hx).mono (mLt aV bU)) (ZvM hl x hx)),Zet,?_⟩
 rintro a4 n4 c4 m4 bU ⟨a5,c5,L',μ,hv',hE⟩ M _ eu gj
 simp only[Value.slice.injEq]at hv'
 obtain⟨rfl,rfl,rfl⟩:=hv'
 have cK:=mLt cT aV
 have kw:(nw m3 m4).le (nw m M):=ZdB cK gj
 refine⟨M,mLt cT (mLt aV eu),Mem.le_refl _,⟨s.n,a,c,s.vars,a4,c4,L'⟩,rfl,?_,⟨hr.n,hr.vlen,aB.mono (ZdB cT eu),hr.vall,by rw[hE.len];exact hr.len,hE.rows.mono kw,λy hy=>?_,cu,hE.cap⟩,?_⟩
 ·simp only[Sc.er,hE.same (f:=Sta.er) (g:=Sta.er) λ_ _ _ h=>h.1]
 ·obtain⟨i,x,_,_,hq,hs⟩:=hE.at hy
  exact hq.2.1.mono (mLt hs kw)
 ·rcases hE.blk with⟨h1,_⟩|⟨_,b,hb,hf,hk,hμ⟩
  ·exact .inl (List.eq_nil_of_length_eq_zero (by rw[hE.len,h1];rfl))
  ·refine .inr ⟨b,μ,hb,⟨Zby cK hf,Zes cK hk⟩,λi y hy=>?_,λi j pv hj b'=>hE.ap i j pv (by rw[<-hE.len];exact hj) b',nw m2 m3,aB,ZdB cT eu,Zby (Zh5 _ _) hf,λi hi b'=>?_⟩
   ·have aC:i < s.states.length:=by rw[<-hE.len];exact(zA0 hy).1
    have hq:=hE.q i _ _ (zA3 aC) hy
    exact⟨hq.2.1,hq.2.2,mLt (hE.sub i aC) kw,(hμ i aC).1⟩
   ·by_cases fc:(nw m2 m3).free b'
    ·exact .inl fc
    ·exact .inr (Zby (hE.sub i (by rw[<-hE.len];exact hi)) (Zp3 λh=>fc (Zby (Zh5 _ _) h)))
theorem ZsM(x:Sta)(name:ByteArray)(b:Nat)(m:Mem)(hb:m.reads b 0 [.string name]):CX Tryz.prog 51 #[.agg x.cs.toArray,.pointer (some ⟨b,0,none⟩)] m [] (Ret (.bool (eqS x.s name))):=by
 apply Zix (c0b:=b) (c0o:=0)
 intro b1 m1 aF _
 exact⟨_,(hb.mono aF) 0 _ rfl,Zaa rfl (Zai aF rfl)⟩
variable {m:Mem} {b:Nat}
def Zxg(l:List Pt)(i:Nat)(p:Pt):Bool:=!Zfa p||(decide (i > 0)&&(p.k == 1&&(match l[i - 1]? with
 | some q=>q.k == 1
 | none=>false)))
def Zxh(s:Sc)(p:Pt):Bool:=(p.k == 2&&!(ZgB s p.s).2)||(p.k == 4&&!Zc5 s p.e)
def Zxi(r:Ru)(p:Pt):Bool:=(p.k == 3&&decide (p.g > ZcX r))||(p.k == 4&&decide (p.e.most > ZcX r))
theorem ZoB(s:Sc)(r:Ru)(l:List Pt)(i:Nat)(p:Pt):Zkz s r l i p=Zci [(307,Zxg l i p),(308,Zxh s p),(309,Zxi r p)]:=rfl
def Zx5(s:Sc)(i n:Nat):List Value:=(List.range n).map λj=>.int .i64 (totals s i j)
def TotI(s:Sc)(i:Nat)(a:Option Addr)(vs:List Value)(m:Mem):Prop:=vs.length=i/\rowRd m a vs/\∀(k:Nat)(x:Sta),k < i->s.states[k]?=some x->∃ak ck,vs[k]?=some (.slice ak x.rules.length ck)/\rowRd m ak (Zx5 s k x.rules.length)
theorem TotI.mono{s:Sc}{i:Nat}{a:Option Addr}{vs:List Value}{m m':Mem}(h:TotI s i a vs m)(hm:m.le m'):TotI s i a vs m':=⟨h.1,h.2.1.mono hm,λk x hk hx=>by
 obtain⟨ak,ck,h1,h2⟩:=h.2.2 k x hk hx
 exact⟨ak,ck,h1,h2.mono hm⟩⟩
theorem Zvs{m:Mem}{a:Option Addr}{vs:List Value}(h:rowRd m a vs){k:Nat}{v:Value}(hk:vs[k]?=some v):∃b o,a=some ⟨b,o,none⟩/\m.c b (o+k*1)=some v:=by
 rcases h with h|⟨b,o,ha,h⟩
 ·rw[h]at hk;simp at hk
 ·exact⟨b,o,ha,by rw[Nat.mul_one];exact h k v hk⟩
end Go.Proofs.YtpjepnkiiojgfaaGreat
namespace Go.Proofs.YtpjepnkiiojgfaaGreat
open Go Go.Eng Go.Proofs Go.RowKit
open Go.Value (int slice agg bool string tuple func)
open Go.IntKind (u8 u64 i64)
set_option maxRecDepth 100000
def Ziz:Env:={ EB with
 loops:=(λi=>bif Nat.beq i 5 then⟨[(15,.int .i64)],[],[],false⟩ else⟨[],[],[],false⟩)
 frzNew:=[1]
 frzAt:=(λi=>bif Nat.beq i 37 then[3]else[])
 thaw:=true
 kF:=true }
theorem ZgX(aA:Int)(aQ:Option Addr)(aM aT:Nat)(aK:Option Addr)(aH aS:Nat)(m:Mem)(R:RT)(h:
 lV [int i64 aA,slice aQ aM aT,slice aK aH aS] λxL=>fzM m xL λb m'=>lE [some (Box.mk b xL 32 3 true true)] λxL_1=>m.free b->(∀(b' o:Nat)(u:Value),m' b' o=some u->m b' o
 = some u\/b'=b)->Mem.k m b=none->kB Tryz.prog 19 [agg (Array.mk xL)] m' λb m'=>br (!b) (rtM m m' R (slice none 0 0)) (∀(b:Nat),lX (Value.map (some b)) λyL=>m'.free b->Mem.k m' b=none->∀(b_1
 : Nat),∃(I:IT),lE (some (Box.mk b_1 [yL] 146 1 false true)::xL_1) λxL=>inI I [int i64 0] [] [] (Mem.updK m' b [])/\∀(n:Int)(m':Mem)(n_1:Nat),lV [int i64 (i64.wrap (n+(1:Int)))] fun
 xL_2=>True->I [int i64 n] [] [] m' n_1->br (decide (n < (↑aH:Int))) (atA aK λb o=>Zae n aH/\∃v v_1:Value,m'.reads b (o+Int.toNat n*2) [v,v_1]/\∀(b:Nat),chk
 (v.oneCell'&&(v_1.oneCell'&&true)) (∃(b:Nat),∃(es:List (Value×Value)),∃(v_2:Value),∃(o:Bool),yL=Value.map (some b)/\Mem.k m' b=some es/\ZmU Tryz.prog 9 v/\LookIs Tryz.prog 9 v
 es (int i64 0) v_2 o/\br (!o) (∃(b:Nat),∃(es:List (Value×Value)),∃(es':List (Value×Value)),yL=Value.map (some b)/\Mem.k m' b=some es/\ZmU Tryz.prog 9 v/\ZgE Tryz.prog 9 v (int i64 n) es es'
 /\ Mem.k m b=none/\Zac xL/\nxI n_1 I xL_2 [] [] (Mem.updK m' b es')) (Zac xL/\nxI n_1 I xL_2 [] [] m'))) (∀(m'_1:Mem),m'.le m'_1->m'_1.reads b_1 0 [yL]->kS Tryz.prog 77 [slice aK aH aS,
 func (Fn.func 78) (Array.mk []) (Array.mk [Value.pointer (some (Addr.mk b_1 0 none))])] m'_1 λa n c m'=>rtM m m' R (slice a n c)))):CX Tryz.prog 32 #[.agg #[.int .i64 aA,.slice aQ aM aT,.slice aK aH aS]] m [] R:=
 Zad (E:=Ziz) Zas mix Tryz.func32 (by kernel_rfl) (Eq.mp (by kernel_rfl) h)
def Zf7:Env:={ EB with
 loops:=(λi=>bif Nat.beq i 3 then⟨[(4,.slice),(12,.int .i64)],[],[(32,1)],false⟩ else⟨[],[],[],false⟩)
 joins:=(λi=>bif Nat.beq i 6 then some [(28,.bool)]else none)
 tokOf:=(λi=>bif Nat.beq i 32 then 32 else 0)
 frzNew:=[2]
 thaw:=true
 lentC:=(λi=>bif Nat.beq i 35 then some [(32,1)]else bif Nat.beq i 37 then some [(32,1)]else none) }
theorem Zfh(aA:ByteArray)(aQ:Option Addr)(aM aT c0b c0o:Nat)(m:Mem)(R:RT)(h:
 lV [string aA,slice aQ aM aT] λxL=>fzM m xL λb m'=>lE [some (Box.mk b xL 36 2 true true)] λxL=>m.free b->(∀(b' o:Nat)(u:Value),m' b' o=some u->m b' o=some u\/b'=b)->∃(I:
 IT),inI I [slice none 0 0,int i64 0] [] [slice none 0 0] m'/\∀(a:Option Addr)(n c:Nat)(af:Int)(a3:Option Addr)(a4 a5:Nat)(m':Mem)(ai:Nat),lX (slice a3 a4 a5) λyL=>lE (Tok.mk yL 1) λag=>
 lE [some ag] λah=>lV [int i64 (i64.wrap (af+(1:Int)))] λak=>lE (n+1) λac=>lX (slice a n c) λad=>True->I [ad,int i64 af] [] [yL] m' ai->br (decide (af < (↑aM:Int))) (atA aQ
 λb o=>Zae af aM/\∃v al am an ao ap aq ar au av aw ax ay az ae a0:Value,lV [v,al,am,an,ao,ap,aq,ar,au,av,aw,ax,ay,az,ae,a0] λa1=>m'.reads b (o+Int.toNat af*16) a1/\∀(b:Nat),lE (some
 (Box.mk b a1 47 16 false true)::xL) λa2=>chk (v.oneCell'&&(al.oneCell'&&(am.oneCell'&&(an.oneCell'&&(ao.oneCell'&&(ap.oneCell'&&(aq.oneCell' &&
 (ar.oneCell'&&(au.oneCell'&&(av.oneCell'&&(aw.oneCell'&&(ax.oneCell'&&(ay.oneCell'&&(az.oneCell'&&(ae.oneCell'&&(a0.oneCell'&&true))))))))))))))))
 (∃(v:Value),m' c0b c0o=some v/\∃(b:Nat),∃(es:List (Value×Value)),∃(aj:Value),∃(o:Bool),lV (List.append (Array.toList (Value.cells aj)) []) λa6=>v=Value.map (some b)/\Mem.k m' b=some es
 /\ ZmU Tryz.prog 9 ae/\LookIs Tryz.prog 9 ae es (int i64 0) aj o/\∃(b:Bool),br o (chk (Zgv ae&&true) (Zac a2/\ah=ah/\[bool !ByteArray.toList (ZbT ae) == ByteArray.toList bE0]
 = [bool b])) (Zac a2/\ah=ah/\[bool false]=[bool b])/\br b (chk (Nat.beq (List.length (Array.toList (Value.cells aj))) 1&&true) (∀(b:Nat),lM (m'.add b a6) λmL=>m'.free b->(ag=Tok.mk ad 1\/
 ad=slice none 0 0\/c < ac)/\∃(xs:List Value),∃(ys:List Value),xs.length=n*1/\ys.length=1*1/\rowRd mL a xs/\rowRd mL (some (Addr.mk b 0 none)) ys/\(∀(u:Value),u∈ys->u.oneCell'=true)/\ac*8<=140737488355328/\ac<=9223372036854775807/\∀(a':Option Addr)(c':Nat)(m':Mem),mL.le m'->rowRd m' a' (List.append xs ys)->TokFact mL a a' ac c'->Zac xL/\nxI ai I (slice a' ac c'
 :: ak) [] [slice a' ac c'] m')) (Zac xL/\nxI ai I (ad::ak) [] [yL] m'))) (∃(Y:Nat->Prop),∃(R_1:Value->Mem->List (List Value)->List Value->Prop),CXY Tryz.prog 36 (Array.mk [ad]) m' Y [] [ag] R_1/\(∀
 (t:Tok),t∈[ag]->∀(b:Nat),Tok.blk t=some b->Y b)/\(∀(aa:Nat),Y aa->(∃(t:Tok),t∈[ag]/\Tok.blk t=some aa)\/(m.free aa/\Mem.k m aa=none)/\((∃(o:Nat),∃(v:Value),m' aa o=some v)
 \/ ∃(e:List (Value×Value)),Mem.k m' aa=some e)/\b≠aa/\True)/\(∀(v:Value)(m':Mem) (css:List (List Value)) (tvs:List Value),R_1 v m' css tvs->Shape.fits (Shape.tup []) v=true)/\∀(ab:Mem),
 Mem.le (Mem.off m' Y) ab->(NewM m' ab λb=>Y b\/m'.free b)->∀(a:Option Addr)(c d:Nat),lE [Tok.mk (slice a c d) 1] λxL=>R_1 (tuple (Array.mk [])) ab [] [slice a c d]->∃(Y:Nat->Prop),∃(R_2:
 Value->Mem->List (List Value)->List Value->Prop),CXY Tryz.prog 37 (Array.mk [ad]) ab Y [] xL R_2/\(∀(t:Tok),t∈xL->∀(b:Nat),Tok.blk t=some b->Y b)/\(∀(aa:Nat),Y aa->(∃(t:Tok),t∈xL/\
 Tok.blk t=some aa)\/(m.free aa/\Mem.k m aa=none)/\((∃(o:Nat),∃(v:Value),ab aa o=some v)\/∃(e:List (Value×Value)),Mem.k ab aa=some e)/\b≠aa/\True)/\(∀(v:Value)(m':Mem) (css:List
 (List Value)) (tvs:List Value),R_2 v m' css tvs->Shape.fits Shape.slice v=true)/\∀(a:Option Addr)(n c:Nat)(m':Mem),Mem.le (Mem.off ab Y) m'->(NewM ab m' λb=>Y b\/ab.free b)->∀(a7:Option
 Addr) (a8 d:Nat),R_2 (slice a n c) m' [] [slice a7 a8 d]->rtM m m' R (slice a n c))):CX Tryz.prog 78 #[.agg #[.string aA,.slice aQ aM aT],.pointer (some ⟨c0b,c0o,none⟩)] m [] R:=
 Zad (E:=Zf7) Zas mix Tryz.func78 (by kernel_rfl) (Eq.mp (by kernel_rfl) h)
def Zcl:Env:={ EB with
 loops:=(λi=>bif Nat.beq i 3 then⟨[(5,.slice),(10,.int .i64)],[],[(19,1)],false⟩ else⟨[],[],[],false⟩)
 tokOf:=(λi=>bif Nat.beq i 19 then 19 else 0)
 thaw:=true }
theorem Zb4(p0a:Option Addr)(p0n p0c p1g:Nat)(p1fi p1ca:List Value)(m:Mem)(R:RT)(h:
 ∃(I:IT),inI I [slice none 0 0,int i64 0] [] [slice none 0 0] m/\∀(a:Option Addr)(n c:Nat)(n_1:Int)(a_1:Option Addr)(n_2 c_1:Nat)(m':Mem)(n_3:Nat),lX (slice a n c) λyL=>lE (n+1) fun
 yL_1=>True->I [yL,int i64 n_1] [] [slice a_1 n_2 c_1] m' n_3->br (decide (n_1 < (↑p0n:Int))) (atA p0a λb o=>Zae n_1 p0n/\∃v v_1:Value,m'.reads b (o+Int.toNat n_1*2) [v,v_1]/\
 ∀(b:Nat),chk (v.oneCell'&&(v_1.oneCell'&&true)) (kS Tryz.prog p1g (List.append (List.append p1fi [agg (Array.mk [v,v_1])]) p1ca) m' λa_4 n_4 c_2 m'=>∀(b:Nat),lM (m'.add b [slice a_4 n_4
 c_2]) λmL=>m'.free b->(Tok.mk (slice a_1 n_2 c_1) 1=Tok.mk yL 1\/yL=slice none 0 0\/c < yL_1)/\∃(xs:List Value),∃(ys:List Value),xs.length=n*1/\ys.length=1*1/\rowRd mL a xs/\
 rowRd mL (some (Addr.mk b 0 none)) ys/\(∀(u:Value),u∈ys->u.oneCell'=true)/\yL_1*24<=140737488355328/\yL_1<=9223372036854775807/\∀(a':Option Addr)(c':Nat)(m':Mem),mL.le m'->rowRd m'
 a' (List.append xs ys)->TokFact mL a a' yL_1 c'->nxI n_3 I [slice a' yL_1 c',int i64 (i64.wrap (n_1+(1:Int)))] [] [slice a' yL_1 c'] m')) (rtM m m' R yL)):CX Tryz.prog 77 #[.slice p0a p0n p0c,.func (.func p1g) p1fi.toArray p1ca.toArray] m [] R:=
 Zad (E:=Zcl) Zas mix Tryz.func77 (by kernel_rfl) (Eq.mp (by kernel_rfl) h)
def Zko:Env:={ EB with
 loops:=(λi=>bif Nat.beq i 1 then⟨[(7,.int .i64)],[100000],[(18,1),(900,1)],false⟩ else⟨[],[],[],false⟩)
 tokOf:=(λi=>bif Nat.beq i 18 then 900 else 0)
 thaw:=true }
theorem ZgY(p0a:Option Addr)(p0n p0c c0b:Nat)(c0_0a:Option Addr)(c0_0n c0_0c:Nat)(t0a:Option Addr)(t0n t0c:Nat)(m:Mem)(Y:Nat->Prop)(R:RTY)(h:
 ∃(I:IT),lE [some (Box.mk c0b [] 80 1 false true)] λxL=>lE (Box.mk c0b [slice c0_0a c0_0n c0_0c] 80 1 false true) λyL=>inI I [int i64 0] [[slice c0_0a c0_0n c0_0c]] [slice none 0 0,slice t0a t0n t0c] m/\∀
 (n:Int) (cs:List Value) (a:Option Addr) (n_1 c:Nat) (a_1:Option Addr) (n_2 c_1:Nat) (m':Mem) (n_3:Nat),lX (slice a n_1 c) λyL_1=>lV [int i64 (i64.wrap (n+(1:Int)))] λxL_1=>lX
 (slice a_1 n_2 c_1) λyL_2=>True->I [int i64 n] [cs] [yL_1,yL_2] m' n_3->br (decide (n < (↑p0n:Int))) (atA p0a λb o=>Zae n p0n/\∃(v:Value),lV (List.append (Array.toList (Value.cells v)) []) fun
 xL_2=>m' b (o+Int.toNat n*1)=some v/\Eng.ZrL cs 0 λv_1=>kB Tryz.prog 29 [v_1,v] m' λb m'=>br (!b) (Eng.ZrL cs 0 λv_2=>lE (slN v_2+1) λyL=>chk (Nat.beq (List.length (Array.toList
 (Value.cells v))) 1&&true) (∀(b:Nat),lM (m'.add b xL_2) λmL=>m'.free b->chk (ZbK v_2&&true) ((Tok.mk yL_2 1=Tok.mk v_2 1\/v_2=slice none 0 0\/slC v_2 < yL)/\∃(xs:List Value),∃(ys:
 List Value),xs.length=slN v_2*1/\ys.length=1*1/\rowRd mL (slA v_2) xs/\rowRd mL (some (Addr.mk b 0 none)) ys/\(∀(u:Value),u∈ys->u.oneCell'=true)/\yL*16<=140737488355328/\yL <=
 9223372036854775807/\∀(a':Option Addr)(c':Nat)(m':Mem),mL.le m'->rowRd m' a' (List.append xs ys)->TokFact mL (slA v_2) a' yL c'->Zac xL/\([none]:List (Option Tok))=[none]/\nxI n_3 I xL_1
 [[slice a' yL c']] [yL_1,slice a' yL c'] m'))) (Zac xL/\([none]:List (Option Tok))=[none]/\nxI n_3 I xL_1 [cs] [yL_1,yL_2] m')) (yL=yL/\R (tuple (Array.mk [])) m' [cs] [yL_2])):CXY Tryz.prog 108 #[.slice p0a p0n p0c,.pointer (some ⟨c0b,0,none⟩)] m Y [⟨c0b,[.slice c0_0a c0_0n c0_0c],80,1,false,true⟩] [⟨.slice t0a t0n t0c,1⟩] R:=
 Zjb (E:=Zko) Zas mix Tryz.func108 [.v (.slice p0a p0n p0c),.loc 100000 0] [⟨c0b,[.slice c0_0a c0_0n c0_0c],80,1,false,true⟩] [900] [⟨.slice t0a t0n t0c,1⟩] (by decide) (by kernel_rfl) (Eq.mp (by kernel_rfl) h)
def ZnQ:Env:={ EB with
 loops:=(λi=>bif Nat.beq i 7 then⟨[(18,.agg [.int .u8,.str,.slice,.int .u8,.any,.str,.int .i64,.slice])],[5],[(900,1)],false⟩ else bif Nat.beq i 13 then⟨[(44,.int .i64)],[5],[(900,1)],false⟩ else⟨[],[],[],false⟩)
 joins:=(λi=>bif Nat.beq i 8 then some [(27,.bool)]else none)
 dr:=(λi=>bif Nat.beq i 11 then[⟨0,[6],[],none,[],[]⟩,⟨1,[7],[],none,[],[]⟩,⟨2,[7],[],none,[1],[]⟩,⟨3,[],[],none,[1,2],[]⟩]else bif Nat.beq i 19 then[⟨0,[6],[],none,[],[]⟩,⟨1,[9],[],none,[],[]⟩,⟨2,[9],[],none,[1],[]⟩,⟨3,[],[],none,[1,2],[]⟩]else[])
 borrow:=(λi=>bif Nat.beq i 32 then[5]else bif Nat.beq i 40 then[5]else bif Nat.beq i 56 then[5]else bif Nat.beq i 63 then[5]else[])
 frzNew:=[2,3]
 last:=(λi=>bif Nat.beq i 11 then true else bif Nat.beq i 19 then true else false)
 lastK:=(λi=>bif Nat.beq i 11 then 1 else bif Nat.beq i 19 then 1 else 1)
 thaw:=true
 cuts:=λi=>bif Nat.beq i 12 then some ⟨[],[5],[(900,1)],false⟩ else none
 lentC:=(λi=>bif Nat.beq i 32 then some [(900,1)]else bif Nat.beq i 40 then some [(900,1)]else bif Nat.beq i 56 then some [(900,1)]else bif Nat.beq i 63 then some [(900,1)]else none) }
theorem ZmC(aA:Int)(aE aI:Bool)(aG bI bJ bK dA dB dC:Int)(cx:Option Addr)(cy cz:Nat)(cN:ByteArray)(cO:Int)(cA:Option Addr)(cB cC:Nat)(cP:ByteArray)(cQ:Int)(p1:Bool)(m:Mem)(R:RT)(h:
 lV [bool p1] λxL=>lV [int u8 aA,bool aE,bool aI,int u8 aG,int u64 bI,int u64 bJ,int u64 bK,int u64 dA,int i64 dB,int i64 dC,slice cx cy cz,string cN,int i64 cO,
 slice cA cB cC,string cP,int i64 cQ] λan=>fzM m an λb m'=>lE [some (Box.mk b an 47 16 true true)] λbc=>m.free b->(∀(b' o:Nat)(u:Value),m' b' o=some u->m b' o=some u\/
 b'=b)->fzM m' xL λae aw=>lE (some (Box.mk ae xL 4 1 true true)::bc) λxL=>m'.free ae->(∀(b' o:Nat)(u:Value),aw b' o=some u->m' b' o=some u\/b'=ae)->∃(R_1:RT),True/\CX Tryz.prog 75
 (Array.mk [agg (Array.mk an)]) aw [] R_1/\Zbo (Shape.agg [Shape.int i64,Shape.slice,Shape.slice]) R_1/\∀(n:Int)(a:Option Addr)(bd c:Nat)(be:Option Addr)(bf bg:Nat)(m':Mem),lX (agg (Array.mk [int
 i64 n,slice a bd c,slice be bf bg])) λyL=>aw.le m'->R_1 yL m' []->kB Tryz.prog 19 [yL] m' λbh m'=>br (!bh) (rtM m m' R (slice none 0 0)) (∀(ao bi:Nat),∃(R_2:RT),lV [Value.pointer (some (Addr.mk
 ao 0 none))] λaj=>lE (some (Box.mk bi [func (Fn.func 108) (Array.mk []) (Array.mk aj)] 180 1 false true)) λyL=>lE (yL::some (Box.mk ao [] 80 1 false true)::xL) λad=>True/\CX Tryz.prog 75 (Array.mk
 [agg (Array.mk an)]) m' [] R_2/\Zbo (Shape.agg [Shape.int i64,Shape.slice,Shape.slice]) R_2/\∀(n:Int)(a:Option Addr)(bj c:Nat)(bk:Option Addr)(bl bm:Nat)(ax:Mem),lX (agg (Array.mk [int i64 n,
 slice a bj c,slice bk bl bm])) λa2=>m'.le ax->R_2 a2 ax []->kF Tryz.prog 71 [a2] ax λg fi ca m'=>∃(mi:Mem),mi.le m'/\∃(xs:List (List Value)),IX Tryz.prog g fi ca mi xs/\(∀(x:List
 Value),x∈xs->Shape.fitsL [Shape.agg [Shape.int u8,Shape.str,Shape.slice,Shape.int u8,Shape.any,Shape.str,Shape.int i64,Shape.slice]] x=true)/\∃(I:IT),I [] [[slice none 0 0]] [slice none 0 0] m' 0/\(∀
 (n:Int) (s:ByteArray) (a:Option Addr) (ay c:Nat) (bn:Int) (v:Value) (bo:ByteArray) (bp:Int) (bq:Option Addr) (bs bt:Nat) (cs:List Value) (bu:Option Addr) (bv bw:Nat) (m':Mem) (ak:Nat),lX
 (slice bu bv bw) λap=>lE (Tok.mk ap 1) λaf=>lE [some af] λaq=>lV [string s] λbx=>lE (Box.mk ao cs 80 1 false true) λar=>lV [int u8 bn,v,string bo,int i64 bp,slice bq bs bt] λaz=>lV (int
 u8 n::string s::slice a ay c::az) λa3=>mi.le m'->List.get?Internal xs ak=some [agg (Array.mk a3)]->I [] [cs] [ap] m' ak->∀(bz:Nat),lE (some (Box.mk bz a3 54 8 false true)) λag=>chk
 (v.oneCell'&&true) (br p1 (∃(ab:Bool),br (n == (2:Int)) (Zac (ag::yL::some ar::xL)/\aq=aq/\[bool true]=[bool ab]) (Zac (ag::yL::some ar::xL)/\aq=aq/\[bool (n == (3:Int))] =
 [bool ab])/\br ab (∀(al:Nat),lM (m'.add al bx) λmL=>m'.free al->∃(Y:Nat->Prop),∃(R:Value->Mem->List (List Value)->List Value->Prop),CXY Tryz.prog 108 (Array.mk (slice (some (Addr.mk al 0
 none)) 1 1::aj)) mL Y [ar] [af] R/\(∀(t:Tok),t∈[af]->∀(b:Nat),Tok.blk t=some b->Y b)/\(∀(aa:Nat),Y aa->(∃(t:Tok),t∈[af]/\Tok.blk t=some aa)\/(m.free aa/\Mem.k m aa=none)/\((∃(o
 : Nat),∃(v:Value),mL aa o=some v)\/∃(e:List (Value×Value)),Mem.k mL aa=some e)/\al≠aa/\ae≠aa/\b≠aa/\True)/\(∀(v:Value)(m':Mem) (css:List (List Value)) (tvs:List Value),R v m' css
 tvs->Shape.fits (Shape.tup []) v=true)/\∀(m':Mem),Mem.le (Mem.off mL Y) m'->(NewM mL m' λb=>Y b\/mL.free b)->∀(cs:List Value)(a:Option Addr)(c d:Nat),R (tuple (Array.mk [])) m' [cs] [slice
 a c d]->mi.le m'/\Zac ad/\I [] [cs] [slice a c d] m' (ak+1)) (mi.le m'/\Zac ad/\I [] [cs] [ap] m' (ak+1))) (∃(J:JT),br (n == (3:Int)) (∃(f:Fx),∃(R:RT),R=f 3 [agg (Array.mk az)] m'
 /\ CX Tryz.prog 109 (Array.mk [agg (Array.mk az)]) m' [] R/\Zbo Shape.slice R/\∀(a:Option Addr)(n c:Nat)(ah:Mem),m'.le ah->R (slice a n c) ah []->∀(M:Mem),m'.le M->ah.le M->∃(Y:Nat->
 Prop),∃(R:Value->Mem->List (List Value)->List Value->Prop),CXY Tryz.prog 108 (Array.mk (slice a n c::aj)) M Y [ar] [af] R/\(∀(t:Tok),t∈[af]->∀(b:Nat),Tok.blk t=some b->Y b)/\(∀(ab:Nat),Y
 ab->(∃(t:Tok),t∈[af]/\Tok.blk t=some ab)\/(m.free ab/\Mem.k m ab=none)/\((∃(o:Nat),∃(v:Value),M ab o=some v)\/∃(e:List (Value×Value)),Mem.k M ab=some e)/\ae≠ab/\b≠ab/\True)/\
 (∀(v:Value)(m':Mem) (css:List (List Value)) (tvs:List Value),R v m' css tvs->Shape.fits (Shape.tup []) v=true)/\∀(m':Mem),Mem.le (Mem.off M Y) m'->(NewM M m' λb=>Y b\/M.free b)->∀(cs:
 List Value) (a:Option Addr) (c d:Nat),R (tuple (Array.mk [])) m' [cs] [slice a c d]->Zac (ag::ad)/\([none]:List (Option Tok))=[none]/\J [] [cs] [slice a c d] m') (Zac (ag::ad)/\([none]:List
 (Option Tok))=[none]/\J [] [cs] [ap] m')/\∀(cs:List Value)(a4:Option Addr)(n c:Nat)(m':Mem),True->J [] [cs] [slice a4 n c] m'->∃(am:IT),inI am [int i64 0] [cs] [slice a4 n c] m'/\∀(n:Int) (cs
 : List Value) (cb:Option Addr) (cc c:Nat) (m':Mem) (au:Nat),lE [Box.mk ao cs 80 1 false true] λxL=>lX (slice cb cc c) λyL=>lV [int i64 (i64.wrap (n+(1:Int)))] λa0=>lE [Tok.mk yL 1]
 λai=>True->am [int i64 n] [cs] [yL] m' au->br (decide (n < (↑ay:Int))) (atA a λab o=>Zae n ay/\∃v av a5 a6 a7 a8 a9 ba:Value,lV [a6,a7,a8,a9,ba] λa1=>lE (Za0 u8 v&&decide (u8=u8)) λbb=>lV (List.append (Array.toList (Value.cells av)) []) λcd=>m'.reads ab (o+Int.toNat n*8) (v::av::a5
 :: a1)/\∀(al:Nat),chk (v.oneCell'&&(av.oneCell'&&(a5.oneCell'&&(a6.oneCell'&&(a7.oneCell'&&(a8.oneCell'&&(a9.oneCell'&&(ba.oneCell'&&true)))))))) (chk
 bb (br (RowKit.intOf v == (2:Int)) (chk (Nat.beq (List.length (Array.toList (Value.cells av))) 1&&true) (∀(aa:Nat),lM (m'.add aa cd) λmL=>m'.free aa->∃(Y:Nat->Prop),∃(R:Value->Mem->List
 (List Value)->List Value->Prop),CXY Tryz.prog 108 (Array.mk (slice (some (Addr.mk aa 0 none)) 1 1::aj)) mL Y xL ai R/\(∀(t:Tok),t∈ai->∀(b:Nat),Tok.blk t=some b->Y b)/\(∀(ac:Nat),Y ac->(∃(t:
 Tok),t∈ai/\Tok.blk t=some ac)\/(m.free ac/\Mem.k m ac=none)/\((∃(o:Nat),∃(v:Value),mL ac o=some v)\/∃(e:List (Value×Value)),Mem.k mL ac=some e)/\aa≠ac/\ae≠ac/\b≠ac/\True)/\(∀
 (v:Value) (m':Mem) (css:List (List Value)) (tvs:List Value),R v m' css tvs->Shape.fits (Shape.tup []) v=true)/\∀(m':Mem),Mem.le (Mem.off mL Y) m'->(NewM mL m' λb=>Y b\/mL.free b)->∀(cs:
 List Value) (a:Option Addr) (c d:Nat),R (tuple (Array.mk [])) m' [cs] [slice a c d]->Zac (ag::ad)/\([none,none]:List (Option Tok))=[none,none]/\nxI au am a0 [cs] [slice a c d] m')) (chk bb (br
 (RowKit.intOf v == (4:Int)) (∃(f:Fx),∃(R:RT),R=f 3 [agg (Array.mk a1)] m'/\CX Tryz.prog 109 (Array.mk [agg (Array.mk a1)]) m' [] R/\Zbo Shape.slice R/\∀(a:Option Addr)(n c:Nat)(ah:Mem),m'.le ah->R (slice a n c) ah []->∀(M:Mem),m'.le M->ah.le M->∃(Y:Nat->Prop),∃(R:Value->Mem->List (List Value)->List Value->Prop),CXY Tryz.prog 108 (Array.mk (slice a n c::aj)) M Y xL ai R/\(∀
 (t:Tok),t∈ai->∀(b:Nat),Tok.blk t=some b->Y b)/\(∀(aa:Nat),Y aa->(∃(t:Tok),t∈ai/\Tok.blk t=some aa)\/(m.free aa/\Mem.k m aa=none)/\((∃(o:Nat),∃(v:Value),M aa o=some v)\/∃
 (e:List (Value×Value)),Mem.k M aa=some e)/\ae≠aa/\b≠aa/\True)/\(∀(v:Value)(m':Mem) (css:List (List Value)) (tvs:List Value),R v m' css tvs->Shape.fits (Shape.tup []) v=true)/\∀(m':Mem),
 Mem.le (Mem.off M Y) m'->(NewM M m' λb=>Y b\/M.free b)->∀(cs:List Value)(a:Option Addr)(c d:Nat),R (tuple (Array.mk [])) m' [cs] [slice a c d]->Zac (ag::ad)/\([none,none]:List (Option
 Tok))=[none,none]/\nxI au am a0 [cs] [slice a c d] m') (Zac (ag::ad)/\([none,none]:List (Option Tok))=[none,none]/\nxI au am a0 [cs] [yL] m')))))) (mi.le m'/\Zac ad/\I [] [cs] [yL] m' (ak +
 1)))))/\∀(cs:List Value)(a:Option Addr)(n c:Nat)(m':Mem),mi.le m'->I [] [cs] [slice a n c] m' (xs.length)->Eng.ZrL cs 0 λv=>rtM m m' R v)):CX Tryz.prog 74 #[.agg #[.int .u8 aA,.bool aE,.bool aI,.int .u8 aG,.int .u64 bI,.int .u64 bJ,.int .u64 bK,.int .u64 dA,.int .i64 dB,.int .i64 dC,.slice cx cy cz,.string cN,.int .i64 cO,.slice cA cB cC,.string cP,.int .i64 cQ],.bool p1] m [] R:=
 Zad (E:=ZnQ) Zas mix Tryz.func74 (by kernel_rfl) (Eq.mp (by kernel_rfl) h)
def ZmD:Env:={ EB with
 frzNew:=[1] }
theorem Zkp(aA:Int)(aE aI:Bool)(aG bI bJ bK dA dB dC:Int)(cx:Option Addr)(cy cz:Nat)(cN:ByteArray)(cO:Int)(cA:Option Addr)(cB cC:Nat)(cP:ByteArray)(cQ:Int)(m:Mem)(R:RT)(h:
 lV [int u8 aA,bool aE,bool aI,int u8 aG,int u64 bI,int u64 bJ,int u64 bK,int u64 dA,int i64 dB,int i64 dC,slice cx cy cz,string cN,int i64 cO,slice cA cB
 cC,string cP,int i64 cQ] λxL=>fzM m xL λb m'=>kS Tryz.prog 74 [agg (Array.mk xL),bool false] m' λa n c m'=>rtM m m' R (slice a n c)):CX Tryz.prog 27 #[.agg #[.int .u8 aA,.bool aE,.bool aI,.int .u8 aG,.int .u64 bI,.int .u64 bJ,.int .u64 bK,.int .u64 dA,.int .i64 dB,.int .i64 dC,.slice cx cy cz,.string cN,.int .i64 cO,.slice cA cB cC,.string cP,.int .i64 cQ]] m [] R:=
 Zad (E:=ZmD) Zas mix Tryz.func27 (by kernel_rfl) (Eq.mp (by kernel_rfl) h)
def Zkq:Env:={ EB with
 frzNew:=[1] }
theorem ZiA(aA:Int)(aE aI:Bool)(aG bI bJ bK dA dB dC:Int)(cx:Option Addr)(cy cz:Nat)(cN:ByteArray)(cO:Int)(cA:Option Addr)(cB cC:Nat)(cP:ByteArray)(cQ:Int)(m:Mem)(R:RT)(h:
 lV [int u8 aA,bool aE,bool aI,int u8 aG,int u64 bI,int u64 bJ,int u64 bK,int u64 dA,int i64 dB,int i64 dC,slice cx cy cz,string cN,int i64 cO,slice cA cB
 cC,string cP,int i64 cQ] λxL=>fzM m xL λb m'=>kS Tryz.prog 74 [agg (Array.mk xL),bool true] m' λa n c m'=>rtM m m' R (slice a n c)):CX Tryz.prog 28 #[.agg #[.int .u8 aA,.bool aE,.bool aI,.int .u8 aG,.int .u64 bI,.int .u64 bJ,.int .u64 bK,.int .u64 dA,.int .i64 dB,.int .i64 dC,.slice cx cy cz,.string cN,.int .i64 cO,.slice cA cB cC,.string cP,.int .i64 cQ]] m [] R:=
 Zad (E:=Zkq) Zas mix Tryz.func28 (by kernel_rfl) (Eq.mp (by kernel_rfl) h)
def ZnR:Env:={ EB with
 loops:=(λi=>bif Nat.beq i 6 then⟨[(14,.agg [.int .u8,.str,.slice,.int .u8,.any,.str,.int .i64,.slice])],[3],[],false⟩ else bif Nat.beq i 9 then⟨[(26,.int .i64)],[3],[],false⟩ else⟨[],[],[],false⟩)
 dr:=(λi=>bif Nat.beq i 7 then[⟨0,[3],[],none,[],[]⟩,⟨1,[4],[],none,[],[]⟩,⟨2,[4],[],none,[1],[]⟩,⟨3,[],[],none,[1,2],[]⟩,⟨4,[],[],none,[0,1,2,3],[]⟩,⟨5,[3],[3],none,[0,1,2,3,4],[]⟩]else bif Nat.beq i 15 then[⟨0,[3],[],none,[],[]⟩,⟨1,[6],[],none,[],[]⟩,⟨2,[6],[],none,[1],[]⟩,⟨3,[],[],none,[1,2],[]⟩,⟨4,[],[],none,[0,1,2,3],[]⟩,⟨5,[3],[3],none,[0,1,2,3,4],[]⟩]else[])
 frzNew:=[1]
 cuts:=λi=>bif Nat.beq i 8 then some ⟨[],[3],[],false⟩ else none }
theorem ZmE(aA:Int)(aE aI:Bool)(aG bI bJ bK dA dB dC:Int)(cx:Option Addr)(cy cz:Nat)(cN:ByteArray)(cO:Int)(cA:Option Addr)(cB cC:Nat)(cP:ByteArray)(cQ:Int)(m:Mem)(R:RT)(h:
 lV [int u8 aA,bool aE,bool aI,int u8 aG,int u64 bI,int u64 bJ,int u64 bK,int u64 dA,int i64 dB,int i64 dC,slice cx cy cz,string cN,int i64 cO,slice cA cB
 cC,string cP,int i64 cQ] λxL=>fzM m xL λb m'=>∃(R_1:RT),lE [some (Box.mk b xL 47 16 true true)] λav=>True/\CX Tryz.prog 75 (Array.mk [agg (Array.mk xL)]) m' [] R_1/\Zbo (Shape.agg
 [Shape.int i64,Shape.slice,Shape.slice]) R_1/\∀(n:Int)(a:Option Addr)(aw c:Nat)(ax:Option Addr)(ay az:Nat)(ag:Mem),lX (agg (Array.mk [int i64 n,slice a aw c,slice ax ay az])) λyL=>m'.le ag->R_1 yL ag []->kB Tryz.prog 19 [yL] ag λb m'=>br (!b) (rtM m m' R (int i64 0)) (∀(b:Nat),∃(R_2:RT),lE (some (Box.mk b [] 3 1 false true)::av) λal=>True/\CX Tryz.prog 75 (Array.mk [agg (Array.mk
 xL)]) m' [] R_2/\Zbo (Shape.agg [Shape.int i64,Shape.slice,Shape.slice]) R_2/\∀(n:Int)(a:Option Addr)(a0 c:Nat)(a1:Option Addr)(a2 a3:Nat)(ah:Mem),lX (agg (Array.mk [int i64 n,slice a a0 c,
 slice a1 a2 a3])) λyL=>m'.le ah->R_2 yL ah []->kF Tryz.prog 71 [yL] ah λg fi ca m'=>∃(xs:List (List Value)),IX Tryz.prog g fi ca m' xs/\(∀(x:List Value),x∈xs->Shape.fitsL [Shape.agg
 [Shape.int u8,Shape.str,Shape.slice,Shape.int u8,Shape.any,Shape.str,Shape.int i64,Shape.slice]] x=true)/\∃(I:IT),I [] [[int i64 (-1:Int)]] [] m' 0/\(∀(n:Int)(s:ByteArray)(a:Option Addr) (ai c
 : Nat) (a4:Int) (v:Value) (a5:ByteArray) (a6:Int) (a7:Option Addr) (a8 a9:Nat) (cs:List Value) (aa:Mem) (aj:Nat),lV [int u8 a4,v,string a5,int i64 a6,slice a7 a8 a9] λxL=>lV (int u8 n ::
 string s::slice a ai c::xL) λam=>m'.le aa->List.get?Internal xs aj=some [agg (Array.mk am)]->I [] [cs] [] aa aj->∀(b:Nat),lE (some (Box.mk b am 54 8 false true)::al) λac=>chk (v.oneCell'&&true) (∃(J:JT),br (n == (3:Int)) (∃(f:Fx),Eng.ZrL cs 0 λv=>∃(R:RT),R=f 3 [agg (Array.mk xL)] aa/\CX Tryz.prog 76 (Array.mk [agg (Array.mk xL)]) aa [] R/\Zbo (Shape.int i64) R/\∀(n:Int)
 (m':Mem),aa.le m'->R (int i64 n) m' []->chk (Za0 i64 v&&decide (i64=i64)) (∀(M:Mem),aa.le M->m'.le M->Zac ac/\J [] [[int i64 (if n > RowKit.intOf v then n else RowKit.intOf v)]] [] M))
 (Zac ac/\J [] [cs] [] aa)/\∀(cs:List Value)(m':Mem),aa.le m'->J [] [cs] [] m'->∃(ad:IT),inI ad [int i64 0] [cs] [] m'/\∀(n:Int)(cs:List Value)(ab:Mem)(af:Nat),lV [int i64
 (i64.wrap (n+(1:Int)))] λxL=>m'.le ab->ad [int i64 n] [cs] [] ab af->br (decide (n < (↑ai:Int))) (atA a λb o=>Zae n ai/\∃v an ae ao ap aq ar au:Value,lV [ao,ap,aq,ar,au] λak=>lE (Za0 u8 v&&decide (u8=u8)) λyL=>ab.reads b (o+Int.toNat n*8) (v::an::ae::ak)/\∀(b:Nat),chk
 (v.oneCell'&&(an.oneCell'&&(ae.oneCell'&&(ao.oneCell'&&(ap.oneCell'&&(aq.oneCell'&&(ar.oneCell'&&(au.oneCell'&&true)))))))) (chk yL (br (RowKit.intOf v ==
 (3:Int)) (Eng.ZrL cs 0 λv=>chk (Za0 i64 v&&Za0 i64 ae) (Zac ac/\nxI af ad xL [[int i64 (if RowKit.intOf ae > RowKit.intOf v then RowKit.intOf ae else RowKit.intOf v)]] [] ab)) (chk yL (br (RowKit.intOf
 v == (4:Int)) (∃(f:Fx),Eng.ZrL cs 0 λv=>∃(R:RT),R=f 3 [agg (Array.mk ak)] ab/\CX Tryz.prog 76 (Array.mk [agg (Array.mk ak)]) ab [] R/\Zbo (Shape.int i64) R/\∀(n:Int)(m':Mem),ab.le m'->R
 (int i64 n) m' []->chk (Za0 i64 v&&decide (i64=i64)) (∀(M:Mem),ab.le M->m'.le M->Zac ac/\nxI af ad xL [[int i64 (if n > RowKit.intOf v then n else RowKit.intOf v)]] [] M)) (Zac ac/\nxI af ad
 xL [cs] [] ab)))))) (Zac al/\I [] [cs] [] ab (aj+1))))/\∀(cs:List Value)(aa:Mem),m'.le aa->I [] [cs] [] aa (xs.length)->Eng.ZrL cs 0 λv=>rtM m aa R v)):CX Tryz.prog 30 #[.agg #[.int .u8 aA,.bool aE,.bool aI,.int .u8 aG,.int .u64 bI,.int .u64 bJ,.int .u64 bK,.int .u64 dA,.int .i64 dB,.int .i64 dC,.slice cx cy cz,.string cN,.int .i64 cO,.slice cA cB cC,.string cP,.int .i64 cQ]] m [] R:=
 Zad (E:=ZnR) Zas mix Tryz.func30 (by kernel_rfl) (Eq.mp (by kernel_rfl) h)
def ZcB:Env:={ EB with
 loops:=(λi=>bif Nat.beq i 4 then⟨[(13,.int .i64)],[],[],false⟩ else⟨[],[],[],false⟩)
 dr:=(λi=>bif Nat.beq i 6 then[⟨0,[],[],none,[],[]⟩,⟨1,[],[],none,[],[]⟩,⟨2,[],[],none,[0,1],[]⟩,⟨3,[],[],none,[0,1,2],[]⟩,⟨4,[],[],none,[],[]⟩,⟨5,[],[],none,[],[]⟩,⟨6,[],[],none,[4,5],[]⟩,⟨7,[],[],none,[4,5,6],[]⟩,⟨8,[],[],none,[0,1,2,3,4,5,6,7],[]⟩]else[]) }
theorem Zcz(p0a:Option Addr)(p0n p0c:Nat)(p1a:Option Addr)(p1n p1c:Nat)(m:Mem)(R:RT)(h:
 br (!(↑p0n:Int) == (↑p1n:Int)) (rtM m m R (bool false)) (∃(I:IT),inI I [int i64 0] [] [] m/\∀(n:Int)(m':Mem)(n_1:Nat),m.le m'->I [int i64 n] [] [] m' n_1->br (decide (n < (↑p0n:Int))) (atA p0a
 λb o=>Zae n p0n/\∃(v:Value),m' b (o+Int.toNat n*1)=some v/\atA p1a λb o=>Zae n p1n/\∃(v_1:Value),m' b (o+Int.toNat n*1)=some v_1/\chk (Za0 i64 v&&Za0 i64 v_1) (br
 (!RowKit.intOf v == RowKit.intOf v_1) (rtM m m' R (bool false)) (nxI n_1 I [int i64 (i64.wrap (n+(1:Int)))] [] [] m'))) (rtM m m' R (bool true)))):CX Tryz.prog 38 #[.slice p0a p0n p0c,.slice p1a p1n p1c] m [] R:=
 Zad (E:=ZcB) Zas mix Tryz.func38 (by kernel_rfl) (Eq.mp (by kernel_rfl) h)
def ZbO:Env:={ EB with
 loops:=(λi=>bif Nat.beq i 4 then⟨[(13,.int .i64)],[],[],false⟩ else⟨[],[],[],false⟩)
 dr:=(λi=>bif Nat.beq i 6 then[⟨0,[],[],none,[],[]⟩,⟨1,[],[],none,[],[]⟩,⟨2,[],[],none,[0,1],[]⟩,⟨3,[],[],none,[0,1,2],[]⟩,⟨4,[],[],none,[],[]⟩,⟨5,[],[],none,[],[]⟩,⟨6,[],[],none,[4,5],[]⟩,⟨7,[],[],none,[4,5,6],[]⟩,⟨8,[],[],none,[0,1,2,3,4,5,6,7],[]⟩]else[]) }
theorem ZbJ(p0a:Option Addr)(p0n p0c:Nat)(p1a:Option Addr)(p1n p1c:Nat)(m:Mem)(R:RT)(h:
 br (!(↑p0n:Int) == (↑p1n:Int)) (rtM m m R (bool false)) (∃(I:IT),inI I [int i64 0] [] [] m/\∀(n:Int)(m':Mem)(n_1:Nat),m.le m'->I [int i64 n] [] [] m' n_1->br (decide (n < (↑p0n:Int))) (atA p0a
 λb o=>Zae n p0n/\∃(v:Value),m' b (o+Int.toNat n*1)=some v/\atA p1a λb o=>Zae n p1n/\∃(v_1:Value),m' b (o+Int.toNat n*1)=some v_1/\chk (Zgv v&&Zgv v_1) (br
 (!ByteArray.toList (ZbT v) == ByteArray.toList (ZbT v_1)) (rtM m m' R (bool false)) (nxI n_1 I [int i64 (i64.wrap (n+(1:Int)))] [] [] m'))) (rtM m m' R (bool true)))):CX Tryz.prog 42 #[.slice p0a p0n p0c,.slice p1a p1n p1c] m [] R:=
 Zad (E:=ZbO) Zas mix Tryz.func42 (by kernel_rfl) (Eq.mp (by kernel_rfl) h)
end Go.Proofs.YtpjepnkiiojgfaaGreat
namespace Go.Proofs.YtpjepnkiiojgfaaGreat
open Go Go.Eng Go.Rx Go.Proofs Go.RowKit
set_option maxRecDepth 100000
def iC(z:Int):List Value:=[.int .i64 z]
theorem Zv4(z:Int):(iC z).length=1:=rfl
theorem Zv5(z:Int):∀u∈iC z,u.oneCell'=true:=λu hu=>by
 obtain rfl:u=.int .i64 z:=by simpa[iC]using hu
 rfl
theorem Zo2:∀l:List Int,(l.map iC).flatten=ZcI l
 | []=>rfl
 | z::l=>by
  have:=Zo2 l
  simp only[List.map_cons,List.flatten_cons,this];rfl
theorem Zxj(a b:ByteArray):(a == b)=decide (a=b):=by
 rw[Bool.eq_iff_iff,decide_eq_true_eq]
 cases a with|mk x=>cases b with|mk y=>
 show(x == y)=true↔_
 rw[beq_iff_eq,ByteArray.mk.injEq]
theorem ZsN(a b:ByteArray):EqIs Tryz.prog 9 (.string a) (.string b) (decide (a=b)):=by
 rw[<-Zxj]
 exact Zn6 Tryz.underlying9 (by simp[Instr.sameNow]) (λop ox oy w=>by cases op <;> simp[eqGuard])
abbrev gN(k:Nat):Value:=.int .i64 k
def Ztg(m:Mem)(bm:Nat)(L:List Sta)(i:Nat):Prop:=m.k bm=some (Ztd Value.string gN (Zcx L i))
theorem ZmF{m:Mem}{bm:Nat}{L:List Sta}{i:Nat}(hm:Ztg m bm L i)(n:ByteArray):∃r:Option Nat,LookIs Tryz.prog 9 (.string n) (Ztd Value.string gN (Zcx L i)) (.int .i64 0) ((r.map gN).getD (.int .i64 0)) r.isSome/\(∀k,r=some k->(n,k)∈Zcx L i)/\(r=none->n ∉ (Zcx L i).map (·.1)):=by
 by_cases h:n∈(Zcx L i).map (·.1)
 ·obtain⟨q,hq,fP⟩:=List.mem_map.1 h
  obtain⟨n',k⟩:=q
  obtain rfl:n'=n:=fP
  exact⟨some k,⟨some (gN k),ZoJ ZsN n' k _ hq (Zjm L i),rfl,rfl⟩,(λk' e=>by cases e;exact hq),λe=>by cases e⟩
 ·exact⟨none,⟨none,Zib ZsN n _ h,rfl,rfl⟩,(λk' e=>by cases e),λ_=>h⟩
theorem ZsO{L:List Sta}{n:ByteArray}{r:Option Nat}(h1:∀k,r=some k->(n,k)∈Zcx L L.length)(h2:r=none->n ∉ (Zcx L L.length).map (·.1)):goI L n=r:=by
 cases r with
 | some k=>exact ZkP.2 (h1 k rfl)
 | none=>
  cases e:goI L n with
  | none=>rfl
  | some k=>exact absurd (List.mem_map.2 ⟨_,ZkP.1 e,rfl⟩) (h2 rfl)
structure Il where
 a:Option Addr
 c:Nat
 l:List Int
def Il.cs(y:Il):List Value:=[.slice y.a y.l.length y.c]
theorem Il.len(y:Il):y.cs.length=1:=rfl
theorem Il.one(y:Il):∀u∈y.cs,u.oneCell'=true:=λu hu=>by
 obtain rfl:u=_:=by simpa[Il.cs]using hu
 rfl
def QT(L:List Sta)(x:Sta)(y:Il)(μ:Mem):Prop:=y.l=ZuY L x/\rowRd μ y.a (ZcI y.l)
def TgI(L:List Sta)(m:Mem)(x:Sta):Value->Mem->List (List Value)->Prop:=λv m' _=>∃y:Il,v=.slice y.a y.l.length y.c/\QT L x y (nw m m')
theorem ZmG(L:List Sta)(x:Sta)(m:Mem)(c0b bm:Nat)(hx:RepS m x)(hc:m.reads c0b 0 [.map (some bm)])(hk:Ztg m bm L L.length):
  CX Tryz.prog 78 #[.agg x.cs.toArray,.pointer (some ⟨c0b,0,none⟩)] m [] (TgI L m x):=by
 have hO:x.rules.length<=100000:=hx.len
 apply Zfh (c0b:=c0b) (c0o:=0)
 intro b m1 aF mj fc vM
 refine⟨λxs css tvs mm q=>∃(i:Nat)(a:Option Addr)(c:Nat),i<=x.rules.length/\xs=[.slice a (ZjX L (x.rules.take i)).length c,.int .i64 i]/\tvs=[.slice a (ZjX L (x.rules.take i)).length c]/\m1.le mm/\rowRd mm a (ZcI (ZjX L (x.rules.take i)))/\(∀b',Yi (.slice a (ZjX L (x.rules.take i)).length c) b'->m1.free b'/\m1.k b'=none)/\q=x.rules.length - i,⟨_,0,none,0,by omega,rfl,rfl,Mem.le_refl _,.inl rfl,(λb' h=>by simp[Yi,Tok.blk]at h),rfl⟩,?_⟩
 rintro a n c z a2 n2 c2 mm q _ ⟨i,a',c',hi,cD,bQ,hM,aB,bD,rfl⟩
 simp only[List.cons.injEq,Value.slice.injEq,Value.int.injEq,true_and,and_true]at cD bQ
 obtain⟨⟨rfl,rfl,rfl⟩,rfl⟩:=cD
 obtain⟨rfl,rfl,rfl⟩:=bQ
 have aD:=Zt9 L (x.rules.take i)
 rw[List.length_take]at aD
 have e8:IntKind.i64.wrap ((i:Int)+1)=((i+1:Nat):Int):=by rw[Zak (by omega) (by omega)];rfl
 have fL:=mLt aF hM
 refine Zaz (λaC=>?_) (λbE=>?_)
 ·have aC:(i:Int) < (x.rules.length:Nat):=aC
  obtain⟨r,hr⟩:=ZcZ (show i < x.rules.length by omega)
  obtain⟨b2,o2,gn,i9⟩:=Zal Ru.len (hx.mono fL).row hr (by omega)
  have bP:=Zsm (L:=L) hr
  obtain⟨ro,rJ,eV,kx⟩:=ZmF (m:=m) hk r.go
  have rK:=ZsO eV kx
  refine⟨b2,o2,gn,⟨by omega,aC⟩,_,_,_,_,_,_,_,_,_,_,_,_,_,_,_,_,i9,λb3=>Zaa rfl ⟨_,(hc.mono fL) 0 _ rfl,bm,_,_,_,rfl,fL.k _ _ hk,ZhF Tryz.underlying9 _,rJ,?_⟩⟩
  have gY:ZuX L r=none->nxI (x.rules.length - i) (λxs css tvs mm q=>∃(i:Nat)(a:Option Addr)(c:Nat),i<=x.rules.length/\xs=[.slice a (ZjX L (x.rules.take i)).length c,.int .i64 i]/\tvs=[.slice a (ZjX L (x.rules.take i)).length c]/\m1.le mm/\rowRd mm a (ZcI (ZjX L (x.rules.take i)))/\(∀b',Yi (.slice a (ZjX L (x.rules.take i)).length c) b'->m1.free b'/\m1.k b'=none)/\q=x.rules.length - i) [.slice a2 (ZjX L (x.rules.take i)).length c2,.int .i64 (IntKind.i64.wrap ((i:Int)+1))] [] [.slice a2 (ZjX L (x.rules.take i)).length c2] mm:=λhe=>by
   rw[he,Option.toList_none,List.append_nil]at bP
   exact⟨x.rules.length - (i+1),by omega,i+1,a2,c2,by omega,by rw[e8,bP],by rw[bP],hM,by rw[bP];exact aB,by rw[bP];exact bD,rfl⟩
  cases ro with
  | none=>
   have ht:ZuX L r=none:=by unfold ZuX;rw[rK];split <;> rfl
   exact⟨false,ZdJ rfl ⟨rfl,rfl,rfl⟩,ZdJ rfl ⟨rfl,gY ht⟩⟩
  | some k=>
   by_cases hz:r.go.size=0
   ·have ht:ZuX L r=none:=by unfold ZuX;rw[if_pos hz]
    refine⟨false,ZiK rfl (Zaa rfl ⟨rfl,rfl,?_⟩),ZdJ rfl ⟨rfl,gY ht⟩⟩
    show[Value.bool (!(r.go.toList == ByteArray.toList ⟨#[]⟩))]=_
    rw[ZtV,hz];rfl
   ·have ht:ZuX L r=some (k:Int):=by unfold ZuX;rw[if_neg hz,rK];rfl
    have ly:=ZvQ rK
    refine⟨true,ZiK rfl (Zaa rfl ⟨rfl,rfl,?_⟩),ZiK rfl (Zaa rfl λb4 eP=>?_)⟩
    ·show[Value.bool (!(r.go.toList == ByteArray.toList ⟨#[]⟩))]=_
     rw[ZtV,show(r.go.size == 0)=false by simpa using hz];rfl
    rw[ht,Option.toList_some]at bP
    refine Zb0 Zv4 Zv5 (ts:=ZjX L (x.rules.take i)) eP (k:Int) (by rw[Zo2];exact aB) 8 (by omega) (by omega) (.inl rfl) λa5 c5 m5 bW bG gl=>?_
    have rL:=mLt (Mem.le_add eP _) bW
    refine⟨rfl,x.rules.length - (i+1),by omega,i+1,a5,c5,by omega,by rw[e8,bP,zA1];rfl,by rw[bP,zA1];rfl,mLt hM rL,by rw[bP,<-Zo2];exact bG,λb' hb'=>?_,rfl⟩
    rcases gl.2 with h|⟨bb,oo,ha',h⟩
    ·rw[h]at hb';simp[Yi,Tok.blk]at hb'
    ·subst ha'
     obtain rfl:bb=b':=by simpa[Yi,Tok.blk]using hb'
     rcases h with h|⟨_,h2,h3⟩
     ·exact bD _ (by rw[h];simp[Yi,Tok.blk])
     ·have tw:=mLt hM (Mem.le_add eP (iC k))
      exact⟨Zby tw h2,Zes tw h3⟩
 ·have bE:¬(i:Int) < (x.rules.length:Nat):=bE
  have hi:i=x.rules.length:=by omega
  subst hi
  rw[List.take_length]at aB bD aD ⊢
  have dq:=Zl8 (ZjX L x.rules)
  have rM:∀b',Yi (.slice a2 (ZjX L x.rules).length c2) b'->m.free b'/\m.k b'=none:=λb' h=>⟨Zby aF (bD b' h).1,Zes aF (bD b' h).2⟩
  refine⟨_,_,Zj6 (ZjX L x.rules) a2 c2 mm aB (by omega),(λt ht bb dj=>by
   obtain rfl:t=_:=by simpa using ht
   exact dj),(λbb dj=>.inl ⟨_,by simp,dj⟩),(λv _ _ _ h=>by rw[h.1];rfl),?_⟩
  rintro m2 aO _ a3 c3 d3 ⟨_,_,bQ,cR⟩
  simp only[List.cons.injEq,Value.slice.injEq,and_true]at bQ
  obtain⟨rfl,rfl,rfl⟩:=bQ
  have tx:=ZfU (Zp9 (ZjX L x.rules)) a3 d3 m2 cR (by omega)
  rw[dq]at tx
  refine⟨_,_,tx,(λt ht bb dj=>by
   obtain rfl:t=_:=by simpa using ht
   exact dj),(λbb dj=>.inl ⟨_,by simp,dj⟩),(λv _ _ _ h=>by rw[h.1];rfl),?_⟩
  rintro a4 n4 c4 m3 aV _ a6 c6 d6 ⟨hv,_,_,jb⟩
  simp only[Value.slice.injEq]at hv
  obtain⟨rfl,rfl,rfl⟩:=hv
  have eO:m.le m2:=mLt (Zl3 fL rM) aO
  have fJ:m.le m3:=mLt (Zl3 eO rM) aV
  refine ZaA fJ ⟨⟨a4,c4,ZuY L x⟩,rfl,rfl,ZkN ?_ ?_⟩
  ·rcases jb with h|⟨b5,o5,jY,h⟩
   ·refine .inl ?_
    unfold ZcI at h ⊢
    rw[List.map_append]at h
    exact(List.append_eq_nil_iff.1 h).1
   ·refine .inr ⟨b5,o5,jY,λj v hj=>h j v ?_⟩
    have hj:(ZcI (Go.Lib.compact (Zp9 (ZjX L x.rules))))[j]?=some v:=hj
    unfold ZcI at hj ⊢
    rw[List.map_append,zA5 (zA0 hj).1]
    exact hj
  ·refine .inr λb o e=>(rM b ?_).1
   have e:a4=some ⟨b,o,none⟩:=e
   rw[e];simp[Yi,Tok.blk]
theorem ZsP(cb:Nat)(ca:List Value)(Q:Sta->Il->Mem->Prop)(L:List Sta)(a:Option Addr)(d:Nat)(m:Mem)(aB:rowRd m a (L.map Sta.cs).flatten)(hl:L.length<=few)(j1:∀x∈L,∀m2,m.le m2->CX Tryz.prog cb (Array.mk (.agg x.cs.toArray::ca)) m2 [] (λv m3 _=>∃y:Il,v=.slice y.a y.l.length y.c/\Q x y (nw m2 m3))):
  CX Tryz.prog 77 #[.slice a L.length d,.func (.func cb) #[] (Array.mk ca)] m [] (ZoF Il.cs Q m L):=by
 have hl:L.length<=100000:=hl
 apply Zb4 (p1fi:=[]) (p1ca:=ca)
 refine⟨λxs css tvs m' q=>∃(k:Nat)(a':Option Addr)(c':Nat)(L':List Il)(μ:Nat->Mem),k<=L.length/\q=L.length - k/\xs=[.slice a' L'.length c',.int .i64 k]/\tvs=[.slice a' L'.length c']/\Each Il.cs Q m m' (L.take k) a' c' L' μ,⟨_,0,none,0,[],_,by omega,rfl,rfl,rfl,Each.nil m⟩,?_⟩
 rintro a1 n1 c1 z a2 n2 c2 m2 q _ ⟨k,a',c',L',μ,hk,hq,cD,bQ,hE⟩
 simp only[List.cons.injEq,Value.slice.injEq,Value.int.injEq,true_and,and_true]at cD bQ
 obtain⟨⟨rfl,rfl,rfl⟩,rfl⟩:=cD
 obtain⟨rfl,rfl,rfl⟩:=bQ
 have gW:L'.length=k:=by rw[hE.len,List.length_take];omega
 refine Zab (λaC=>?_) (λbE=>?_)
 ·have aP:k < L.length:=by have:=zA6 aC;omega
  obtain⟨x,hx⟩:=Zav aP
  obtain⟨b,o,ha,bV⟩:=Zal Sta.len aB hx (by omega)
  have hw:IntKind.i64.wrap ((k:Int)+1)=((k+1:Nat):Int):=by rw[Zak (by omega) (by omega)];rfl
  refine⟨b,o,ha,⟨by omega,by omega⟩,_,_,bV.mono hE.le,λb3=>Zaa rfl ⟨_,trivial,j1 x (zA2 hx) m2 hE.le,(λv _ _ ⟨y,h,_⟩=>by rw[h];rfl),?_⟩⟩
  rintro ya yn yc m3 aV ⟨y,hv,hQ⟩ b4 eP
  simp only[Value.slice.injEq]at hv
  obtain⟨rfl,rfl,rfl⟩:=hv
  refine Zb0 Il.len Il.one eP y (hE.row.mono aV) 24 (by omega) (by omega) (.inl rfl) λa5 c5 m5 bW bG aN=>?_
  have bP:=hE.step Il.len (by omega) hx aV hQ eP bW bG aN
  exact⟨L.length - (k+1),by omega,k+1,a5,c5,L'++[y],_,by omega,rfl,by rw[hw,zA1];rfl,by rw[zA1];rfl,bP⟩
 ·have cS:k=L.length:=by have:=of_decide_eq_false bE;omega
  rw[cS,List.take_length]at hE
  exact⟨m2,hE.le,Mem.le_refl _,_,_,L',μ,rfl,hE⟩
def TgR(s:Sc):Value->Mem->List (List Value)->Prop:=λv m' _=>∃(a:Option Addr)(c:Nat)(L':List Il),v=.slice a L'.length c/\L'.map Il.l=(if s.light then s.states.map (ZuY s.states)else[])/\rowRd m' a (L'.map Il.cs).flatten/\∀y∈L',rowRd m' y.a (ZcI y.l)
theorem ZsQ{s}:∀(v:Value)(m':Mem) (css:List (List Value)),TgR s v m' css->Shape.fits .slice v=true:=λv _ _ ⟨_,_,_,h,_⟩=>by rw[h];rfl
theorem ZnS(s:Sc)(m:Mem)(hr:RepC m s):CX Tryz.prog 32 #[s.v] m [] (TgR s):=by
 have dq:s.states.length<=100000:=hr.len
 apply ZgX
 intro b m1 aF _ fc _ _
 refine Zan (ZbI s m1 (hr.mono aF)) λm2 aO=>Zab (λh=>Zai (mLt aF aO) ?_) (λh=>?_)
 ·have hl:s.light=false:=by simpa using h
  exact⟨none,0,[],rfl,by rw[hl];rfl,.inl rfl,λy hy=>by cases hy⟩
 have hl:s.light=true:=by simpa using h
 have cT:=mLt aF aO
 intro bm hf hk b1
 have fC:m.k bm=none:=Zes cT hk
 refine⟨λxs _ _ mm q=>∃i:Nat,i<=s.states.length/\xs=[.int .i64 i]/\m2.le mm/\Ztg mm bm s.states i/\q=s.states.length - i,⟨_,0,by omega,rfl,Mem.le_updK (Mem.le_refl _) hk _,Mem.updK_same _ _ _,rfl⟩,?_⟩
 rintro z mm q _ ⟨i,hi,hz,hM,hE,rfl⟩
 obtain rfl:z=i:=by simpa using hz
 have e8:IntKind.i64.wrap ((i:Int)+1)=((i+1:Nat):Int):=by rw[Zak (by omega) (by omega)];rfl
 have fL:=mLt cT hM
 refine Zaz (λaC=>?_) (λbE=>?_)
 ·have aC:(i:Int) < (s.states.length:Nat):=aC
  obtain⟨x,hx⟩:=ZcZ (show i < s.states.length by omega)
  obtain⟨b2,o2,gn,i9⟩:=Zal Sta.len (hr.mono fL).row hx (by omega)
  obtain⟨ro,rJ,eV,kx⟩:=ZmF hE x.s
  have bP:=Zqb hx
  refine⟨b2,o2,gn,⟨by omega,aC⟩,_,_,i9,λb3=>Zaa rfl ⟨bm,_,_,_,rfl,hE,ZhF Tryz.underlying9 _,rJ,?_⟩⟩
  cases ro with
  | some k=>
   have dH:ZvP (Zcx s.states i) x.s=true:=Ze1.2 (List.mem_map.2 ⟨_,eV k rfl,rfl⟩)
   rw[if_pos dH]at bP
   exact ZdJ rfl ⟨rfl,s.states.length - (i+1),by omega,i+1,by omega,by rw[e8],hM,by unfold Ztg;rw[bP];exact hE,rfl⟩
  | none=>
   have gp:=kx rfl
   have dH:ZvP (Zcx s.states i) x.s=false:=by
    cases e:ZvP (Zcx s.states i) x.s with
    | false=>rfl
    | true=>exact absurd (Ze1.1 e) gp
   rw[dH,if_neg (by decide)]at bP
   exact ZiK rfl ⟨bm,_,_,rfl,hE,ZhF Tryz.underlying9 _,Zl7 (g:=gN) ZsN x.s i _ gp,fC,rfl,s.states.length - (i+1),by omega,i+1,by omega,by rw[e8],Mem.le_updK hM hk _,by unfold Ztg;rw[bP];exact Mem.updK_same _ _ _,rfl⟩
 ·have bE:¬(i:Int) < (s.states.length:Nat):=bE
  have hi:i=s.states.length:=by omega
  subst hi
  intro m3 aV iZ
  have cK:=mLt fL aV
  have jz:=hr.mono cK
  refine Zam (ZsP 78 _ (QT s.states) s.states s.sa s.sc m3 jz.row hr.len λx hx m4 bU=>?_) Zet ?_
  ·exact ZmG s.states x m4 b1 bm ((jz.all x hx).mono bU) (iZ.mono bU) (bU.k _ _ (aV.k _ _ hE))
  ·rintro a n c m5 bW ⟨a',c',L',μ,hv,rN⟩
   simp only[Value.slice.injEq]at hv
   obtain⟨rfl,rfl,rfl⟩:=hv
   refine ZaA (mLt cK bW) ⟨_,_,L',rfl,?_,rN.row,λy hy=>?_⟩
   ·rw[hl,if_pos rfl]
    exact rN.same λx y μ hq=>hq.1
   ·obtain⟨i,x,_,_,hq,hs⟩:=rN.at hy
    exact hq.2.mono (mLt hs (Zh5 _ _))
end Go.Proofs.YtpjepnkiiojgfaaGreat
end
