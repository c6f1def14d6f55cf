/- Part of the proof: conditions and contracts of functions of this program. No condition of its own. -/
import Derived.Test.YtfgfahnakepegaaPC15T
import Derived.Test.YtfgfahnakepegaaPEnv
import Derived.Test.YtfgfahnakepegaaMr
set_option linter.unusedVariables false
set_option linter.unusedSimpArgs false
set_option linter.unusedSectionVars false
namespace Go.Proofs.Ytfgfahnakepegaa
open Go Go.Eng Go.Rx Go.Proofs Go.RowKit
set_option maxRecDepth 100000
def ZAs(Ls:List T):Value->Mem->List (List Value)->Prop:=λv m' _=>∃(L:List T)(a:Option Addr)(c:Nat),v=.slice a L.length c/\RepL m' a L/\L.map T.er=Ls.map T.er/\∀x∈L,x.caps
theorem Zr7{Ls:List T}:∀(v:Value)(m':Mem) (css:List (List Value)),ZAs Ls v m' css->Shape.fits .slice v=true:=λv _ _ ⟨L,a,c,e,_⟩=>by rw[e];rfl
set_option maxHeartbeats 1600000 in
theorem ZzR(subs:List T)(a:Option Addr)(cap:Nat)(c:C4)(m:Mem)(hL:RepL m a subs)(bM:subs.length<=cap)(hg:∀x∈subs,x.good=true)(cI:∀x∈subs,x.caps)(bA:szL subs<=300)(hf:Fit subs c):CX Try.prog 100 #[.slice a subs.length cap,c.v] m [] (ZAs (ZhH subs c)):=by
 apply Zl4
 unfold Zhd
 intro b m1 aO bC
 have h2:=hf.two
 have bE:=hf.le
 have hp:=hf.pos
 have gE:=ZbN subs
 have cA:=ZbC hL
 refine⟨⟨by omega,by omega⟩,⟨by omega,by omega⟩,?_⟩
 simp only[Int.toNat_natCast]
 generalize gN:(subs.take c.t).drop c.f=seg
 have dX:seg.length=c.t - c.f:=by rw[<-gN,List.length_drop,List.length_take,Nat.min_eq_left bE]
 have gU:∀x∈seg,x∈subs/\c.n<=(Zao x).length:=λx hx=>by
  rw[<-gN]at hx
  obtain⟨i,h3,h4,h5⟩:=Zs9 hx
  exact⟨List.mem_of_getElem? h5,hf.head i x h3 h4 h5⟩
 have rZ:RepL m (ZaM a c.f cap 8) seg:=by
  have:=Zl2 (Zgx hL c.t) (i:=c.f) (c:=cap) (by rw[List.length_take];omega) (by rw[List.length_take];omega)
  rw[gN]at this;exact this
 have aR:=ZaL rZ
 have qI:=λx hx=>Zp5 (hg x (gU x hx).1) (gU x hx).2 hp
 refine⟨λxs css tvs m' q=>∃(i:Nat)(L:List T)(a:Option Addr)(cc:Nat),i<=seg.length/\xs=[.slice a L.length cc,.bool ((seg.take i).any λx=>(Zbm c.n x).k == 1),.int .i64 i]/\tvs=[.slice a L.length cc]/\rowRd m' a (Rx.ZcA L)/\(∀x∈L,Rep m' x/\x.good=true)/\L.map T.er=(Zcs false ((seg.take i).map (Zbm c.n))).map T.er/\q=seg.length - i,⟨_,0,[],none,0,by omega,rfl,rfl,.inl rfl,by simp,rfl,rfl⟩,?_⟩
 rintro a3 n3 c3 b3 z3 a4 n4 c4 m2 q2 aP ⟨i,L,a',cc,hi,bB,cF,lD,jV,eV,hq⟩
 simp only[List.cons.injEq,Value.slice.injEq,Value.bool.injEq,Value.int.injEq,true_and,and_true]at bB cF
 obtain⟨⟨rfl,rfl,rfl⟩,rfl,rfl⟩:=bB
 obtain⟨rfl,rfl,rfl⟩:=cF
 have bY:=mLt aO aP
 have wU:L.length<=i:=by
  have h3:=congrArg List.length eV
  rw[List.length_map,List.length_map]at h3
  have h4:∀(e:Bool)(l:List T),(Zcs e l).length<=l.length:=λe l=>by
   induction l generalizing e with
   | nil=>exact Nat.le_refl _
   | cons x l ih=>unfold Zcs;split <;> simp <;> have:=ih (e||x.k == 1) <;> omega
  have h5:=h4 false ((seg.take i).map (Zbm c.n))
  rw[List.length_map,List.length_take]at h5
  omega
 refine Zab (λaS=>?_) (λbR=>?_)
 ·have aQ:i < seg.length:=by have:=of_decide_eq_true aS;omega
  obtain⟨x,hx⟩:=Zb2 aQ
  have cN:=List.mem_of_getElem? hx
  obtain⟨b0,o0,eL,eA⟩:=ZcH (aR.mono bY) hx
  have cW:=(cA x (gU x cN).1).mono bY
  have jL:=Zbz (gU x cN).1
  have hw:IntKind.i64.wrap ((i:Int)+1)=((i+1:Nat):Int):=by rw[ZaA (by omega) (by omega)];rfl
  simp only[hw]
  have eP:=Zjv (Zbm c.n x) false ((seg.take i).map (Zbm c.n))
  rw[Bool.false_or,List.any_map]at eP
  have dT:(seg.take (i+1)).map (Zbm c.n)=(seg.take i).map (Zbm c.n)++[Zbm c.n x]:=by rw[Zcd hx,List.map_append];rfl
  have eM:(seg.take (i+1)).any (λx=>(Zbm c.n x).k == 1)=((seg.take i).any (λx=>(Zbm c.n x).k == 1)||((Zbm c.n x).k == 1)):=by rw[Zcd hx,List.any_append];simp
  have oJ:((λy:T=>y.k == 1)∘Zbm c.n)=λx=>(Zbm c.n x).k == 1:=rfl
  rw[oJ]at eP
  rw[<-dT]at eP
  refine⟨b0,o0,eL,⟨by omega,by omega⟩,_,_,_,_,_,_,_,_,eA,λb5=>Zaa rfl (Zag (Zyw x c.n m2 cW (hg x (gU x cN).1) (by omega) (Zjr (cI x (gU x cN).1)) (gU x cN).2) ZaB (ZbH λt' m3 aX hr' ⟨ht',fZ⟩ b6=>?_))⟩
  have hk:t'.k=(Zbm c.n x).k:=by rw[<-Zvo,ht']
  have nQ:=(qI x cN).1
  generalize (seg.take i).any (λx=>(Zbm c.n x).k == 1)=sn at *
  rw[<-hk]at eP eM
  refine⟨!(t'.k == 1)||!sn,?_,Zab (λhy=>?_) (λhn=>?_)⟩
  ·refine Zab (λh=>⟨by trivial,by trivial,by rw[h];rfl⟩) (λh=>⟨by trivial,by trivial,by rw[h];rfl⟩)
  ·intro b7 fR
   have gP:=Mem.le_add fR t'.cs
   rw[if_pos (by
    simp only[Bool.or_eq_true,Bool.not_eq_true',beq_eq_false_iff_ne]at hy
    exact hy)]at eP
   refine⟨.inl (by trivial),Rx.ZcA L,t'.cs,by rw[ZaJ],rfl,(lD.mono aX).mono gP,.inr ⟨b7,0,rfl,λj v hj=>by rw[Nat.zero_add,Mem.add_same];exact hj⟩,by have:=Zyu [t'];simpa[Rx.ZcA]using this,by omega,by omega,λa8 c8 m8 iO iF=>⟨sn||(t'.k == 1),?_,?_⟩⟩
   ·refine Zab (λh=>⟨by trivial,by trivial,by rw[h];rfl⟩) (λh=>⟨by trivial,by trivial,by rw[h];rfl⟩)
   ·refine⟨by trivial,seg.length - (i+1),by omega,i+1,L++[t'],a8,c8,by omega,?_,?_,?_,?_,?_,rfl⟩
    ·rw[eM,List.length_append];rfl
    ·rw[List.length_append];rfl
    ·rw[ZdT];exact iF
    ·have lE:=mLt gP iO
     intro y hy
     rcases List.mem_append.1 hy with hy|hy
     ·exact⟨(jV y hy).1.mono (mLt aX lE),(jV y hy).2⟩
     ·rw[List.mem_singleton]at hy;subst hy
      exact⟨hr'.mono lE,Zjw ht' nQ⟩
    ·rw[eP,List.map_append,List.map_append,eV]
     simp only[List.map_cons,List.map_nil,ht',(qI x cN).2.2.2]
  ·rw[if_neg (by
    simp only[Bool.or_eq_false_iff,Bool.not_eq_false',beq_iff_eq]at hn
    rintro(h|h)
    ·exact h hn.1
    ·rw[hn.2]at h;cases h),List.append_nil]at eP
   refine⟨sn||(t'.k == 1),?_,?_⟩
   ·refine Zab (λh=>⟨by trivial,by trivial,by rw[h];rfl⟩) (λh=>⟨by trivial,by trivial,by rw[h];rfl⟩)
   ·exact⟨by trivial,seg.length - (i+1),by omega,i+1,L,_,_,by omega,by rw[eM],rfl,lD.mono aX,λy hy=>⟨(jV y hy).1.mono aX,(jV y hy).2⟩,by rw[eP];exact eV,rfl⟩
 ·have mO:i=seg.length:=by have:=of_decide_eq_false bR;omega
  subst mO
  rw[List.take_length]at eV
  obtain⟨x0,gC⟩:=Zb2 (l:=subs) (k:=c.f) (by omega)
  have mU:=List.mem_of_getElem? gC
  have mN:=hg x0 mU
  have lT:=hf.head c.f x0 (Nat.le_refl _) (by omega) gC
  obtain⟨b0,o0,eL,eA⟩:=ZcH ((ZaL hL).mono bY) gC
  have uZ:=(cA x0 mU).mono bY
  refine⟨λ_ _ _=>Zzu (Zao x0),b0,o0,eL,⟨by omega,by omega⟩,_,_,_,_,_,_,_,_,eA,_,rfl,Zts x0 m2 uZ (Zjr (cI x0 mU)),ZjE,?_⟩
  rintro a5 n5 c5 m3 aX ⟨a5',c5',r5,hH,AM⟩
  simp only[Value.slice.injEq]at r5
  obtain⟨rfl,rfl,rfl⟩:=r5
  refine⟨⟨by omega,by omega⟩,λM eC fQ=>?_⟩
  have fJ:((Zao x0).take c.n).length=c.n:=by rw[List.length_take,Nat.min_eq_left lT]
  have iP:c.n<=300:=by
   have h3:=ZlH x0
   have h4:=Zbz mU
   omega
  have eE:=Zgx (hH.mono fQ) c.n
  have lF:=ZiE (ZaM a5 0 c5 8) (c5 - 0) ((Zao x0).take c.n) M (ZaL eE) (by omega)
  rw[fJ]at lF
  refine⟨_,lF,(λv _ _ ⟨a,c,e,_⟩=>by rw[e];rfl),?_⟩
  rintro a6 n6 c6 m4 bK ⟨a6',c6',rS,lC,AN,_⟩
  simp only[Value.slice.injEq]at rS
  obtain⟨rfl,rfl,rfl⟩:=rS
  have r7:=mLt eC bK
  have dG:=λx hx=>ZdV mN x (List.mem_of_mem_take (i:=c.n) hx)
  have pK:szL seg<=szL subs:=by
   have h3:=Zcy subs c.t
   have h4:=Zcy (subs.take c.t) c.f
   rw[gN]at h4
   omega
  have lG:=Zgp hp (l:=seg) λx hx=>⟨hg x (gU x hx).1,(gU x hx).2⟩
  have gD:=ZlG (e:=false) λx hx=>(lG.1 x hx).1
  have yY:szL L<=300:=by rw[Zeg eV];omega
  have u0:∀x∈L,x.clean=true:=λx hx=>Za6 (jV x hx).2 (by have:=Zbz hx;omega)
  have u4:L≠[]:=by
   intro e
   rw[e]at eV
   have h3:=congrArg List.length eV
   rw[List.length_map]at h3
   match yZ:seg.map (Zbm c.n),eV with
   | [],_=>
    have:=congrArg List.length yZ
    rw[List.length_map,dX]at this
    simp at this
    omega
   | y::r,eV=>
    have:=Zs6 (e:=false) (x:=y) (l:=r) rfl
    rw[List.map_nil]at eV
    exact this (by simpa using eV.symm)
  have za:RepL m4 a4 L:=ZdU (lD.mono r7) (λx hx=>(jV x hx).1.mono r7) (by have:=ZbN L;omega)
  refine Zag (Zzt L a4 c4 m4 za (by have:=ZbN L;omega) u0) ZaB (ZbH λo m5 cU r9 ⟨ja,jc,hj⟩ b7 fR=>?_)
  have jM:o.er=Zee (Zcs false (seg.map (Zbm c.n))):=by
   rw[Zp4 (λx hx=>(jV x hx).2) u4 (by omega) hj]
   exact Zju eV
  have u5:=Ze5 (L:=Zcs false (seg.map (Zbm c.n))) λy hy=>(lG.1 y (Zgo hy)).1
  have sb:o.good=true:=Zjw jM u5.good
  have zb:o.nodes.length<=301:=by
   rw[ZlJ jM]
   have:=u5.sz
   omega
  have gP:=Mem.le_add fR o.cs
  refine⟨.inl (by trivial),Rx.ZcA ((Zao x0).take c.n),o.cs,by rw[ZaJ,fJ],rfl,(lC.mono cU).mono gP,.inr ⟨b7,0,rfl,λj v hj=>by rw[Nat.zero_add,Mem.add_same];exact hj⟩,by have:=Zyu [o];simpa[Rx.ZcA]using this,by omega,by omega,λa8 c8 m6 dU iF=>?_⟩
  have wV:m4.le m6:=mLt cU (mLt gP dU)
  have zc:RepL m6 a8 ((Zao x0).take c.n++[o]):=ZdU (by rw[ZdT];exact iF) (λx hx=>by
   rcases List.mem_append.1 hx with hx|hx
   ·exact(ZbC eE x hx).mono (mLt bK wV)
   ·rw[List.mem_singleton]at hx;subst hx;exact r9.mono (mLt gP dU)) (by rw[List.length_append,fJ];simp;omega)
  have wW:∀x∈(Zao x0).take c.n++[o],x.good=true:=λx hx=>by
   rcases List.mem_append.1 hx with hx|hx
   ·exact(dG x hx).1
   ·rw[List.mem_singleton]at hx;subst hx;exact sb
  have zd:szL ((Zao x0).take c.n++[o])<=700:=by
   rw[Zce,Zdy,(Zin dG).1,fJ];omega
  have sd:((Zao x0).take c.n++[o]).length=c.n+1:=by rw[List.length_append,fJ];rfl
  have lH:=ZuV ((Zao x0).take c.n++[o]) a8 c8 m6 zc (by omega) (λx hx=>Za6 (wW x hx) (by have:=Zbz hx;omega))
  rw[sd]at lH
  refine Zag lH ZaB (ZbH λone m7 dA dH ⟨ka,kc,hk⟩ b8=>?_)
  have se:one.er=ZvG subs c:=by
   rw[ZlF wW (by omega) hk]
   unfold ZvG
   rw[gC,gN]
   refine Zjt ?_
   simp only[Option.getD_some,List.map_append,List.map_cons,List.map_nil]
   rw[jM,u5.er]
  have tf:m2.le m7:=mLt r7 (mLt wV dA)
  have lI:=mLt bY tf
  refine⟨λ_ _ _=>λv m' _=>∃a' c',v=.slice a' (c.f+1+(subs.length - c.t)) c'/\rowRd m' a' (Rx.ZcA (subs.take c.f++one::subs.drop c.t)),⟨by omega,by omega⟩,λb9 ze=>⟨⟨by omega,by omega⟩,λb10 jW=>?_⟩⟩
  have sf:=Mem.le_add ze one.cs
  have lJ:=Mem.le_add jW [.slice (ZaM a 0 cap 8) (c.f - 0) (cap - 0),.slice (some ⟨b9,0,none⟩) 1 1,.slice (ZaM a c.t cap 8) (subs.length - c.t) (cap - c.t)]
  have hP:=Zoq [⟨ZaM a 0 cap 8,c.f - 0,cap - 0,Rx.ZcA (subs.take c.f)⟩,⟨some ⟨b9,0,none⟩,1,1,one.cs⟩,⟨ZaM a c.t cap 8,subs.length - c.t,cap - c.t,Rx.ZcA (subs.drop c.t)⟩] (some ⟨b10,0,none⟩) 3 (m:=((m7.add b9 one.cs).add b10 [.slice (ZaM a 0 cap 8) (c.f - 0) (cap - 0),.slice (some ⟨b9,0,none⟩) 1 1,.slice (ZaM a c.t cap 8) (subs.length - c.t) (cap - c.t)])) ⟨λi q hi=>⟨b10,0,rfl,?_⟩,λq hq=>?_⟩ (by simp[Zop];omega) (by simp)
  rotate_left
  ·rw[Nat.zero_add,Mem.add_same]
   match i,hi with
   | 0,hi=>cases hi;rfl
   | 1,hi=>cases hi;rfl
   | 2,hi=>cases hi;rfl
   | i+3,hi=>simp at hi
  ·simp only[List.mem_cons,List.not_mem_nil,or_false]at hq
   rcases hq with rfl|rfl|rfl
   ·exact⟨(ZaL (Zgx hL c.f)).mono (mLt lI (mLt sf lJ)),by rw[ZaJ,List.length_take,Nat.min_eq_left (by omega)];rfl,Zyu _⟩
   ·exact⟨.inr ⟨b9,0,rfl,λj v hj=>lJ _ _ _ (by rw[Nat.zero_add,Mem.add_same];exact hj)⟩,rfl,by have:=Zyu [one];simpa[Rx.ZcA]using this⟩
   ·exact⟨(ZaL (Zl2 hL bE bM)).mono (mLt lI (mLt sf lJ)),by rw[ZaJ,List.length_drop],Zyu _⟩
  have rW:Zop [⟨ZaM a 0 cap 8,c.f - 0,cap - 0,Rx.ZcA (subs.take c.f)⟩,⟨some ⟨b9,0,none⟩,1,1,one.cs⟩,⟨ZaM a c.t cap 8,subs.length - c.t,cap - c.t,Rx.ZcA (subs.drop c.t)⟩]=c.f+1+(subs.length - c.t):=by simp[Zop];omega
  have sg:Zxx [⟨ZaM a 0 cap 8,c.f - 0,cap - 0,Rx.ZcA (subs.take c.f)⟩,⟨some ⟨b9,0,none⟩,1,1,one.cs⟩,⟨ZaM a c.t cap 8,subs.length - c.t,cap - c.t,Rx.ZcA (subs.drop c.t)⟩]=Rx.ZcA (subs.take c.f++one::subs.drop c.t):=by simp[Zxx,Rx.ZcA]
  rw[rW,sg]at hP
  refine⟨_,rfl,hP,(λv _ _ ⟨a,c,e,_⟩=>by rw[e];rfl),?_⟩
  rintro a11 n11 c11 m8 iO ⟨a11',c11',si,pL⟩
  simp only[Value.slice.injEq]at si
  obtain⟨rfl,rfl,rfl⟩:=si
  intro M' sj wX zf tg
  have nV:=mLt lI sj
  refine⟨M',nV,Mem.le_refl _,subs.take c.f++one::subs.drop c.t,a11,c11,?_,ZdU (pL.mono tg) (λx hx=>?_) ?_,?_,λx hx=>?_⟩
  ·rw[List.length_append,List.length_cons,List.length_take,List.length_drop,Nat.min_eq_left (by omega)]
   congr 1;omega
  ·rcases List.mem_append.1 hx with hx|hx
   ·exact(cA x (List.mem_of_mem_take hx)).mono nV
   ·rcases List.mem_cons.1 hx with rfl|hx
    ·exact dH.mono sj
    ·exact(cA x (List.mem_of_mem_drop hx)).mono nV
  ·rw[List.length_append,List.length_cons,List.length_take,List.length_drop];omega
  ·unfold ZhH
   rw[List.map_append,List.map_append,List.map_cons,List.map_cons,se]
   have:=(Zta hg hf).er
   rw[this]
  ·rcases List.mem_append.1 hx with hx|hx
   ·exact cI x (List.mem_of_mem_take hx)
   ·rcases List.mem_cons.1 hx with rfl|hx
    ·exact ZcZ ZkP hk
    ·exact cI x (List.mem_of_mem_drop hx)
end Go.Proofs.Ytfgfahnakepegaa
set_option linter.unusedVariables false
set_option linter.unusedSimpArgs false
set_option linter.unusedSectionVars false
namespace Go.Proofs.Ytfgfahnakepegaa
open Go Go.Eng Go.Rx Go.Proofs Go.RowKit
set_option maxRecDepth 100000
theorem Ztv(t:T)(m:Mem)(hr:Rep m t)(hz:t.nodes.length<=10000):CX Try.prog 52 #[t.v] m [] (Zdx λt'=>t'.er=t.er/\(t'.caps/\NewT m t')):=by
 apply Zr6
 unfold ZnE
 intro b m1 aO _ b1
 have hl:t.light=true:=by unfold T.light;exact decide_eq_true hz
 have h:=ZjB t m1 (hr.mono aO)
 rw[hl]at h
 refine Zak h λm2 aP=>ZnB rfl (Zag (Zgv t m2 (hr.mono (mLt aO aP)) hz) ZaB (ZbH λt' m3 aX hr' ht'=>?_))
 exact⟨m3,mLt aO (mLt aP aX),Mem.le_refl _,t',rfl,hr',ht'.1,ht'.2.1,ht'.2.2.less (mLt aO aP)⟩
def Zu0(r:T×Nat):Value->Mem->List (List Value)->Prop:=λv m' css=>∃t':T,v=t'.v/\Rep m' t'/\t'.er=r.1/\t'.caps/\css=[[.int .i64 (r.2:Nat)]]
theorem Zr8{r:T×Nat}:∀(v:Value)(m':Mem) (css:List (List Value)),Zu0 r v m' css->Shape.fits (.agg [.int .u8,.int .u64,.int .u64,.int .u64,.int .u64,.int .i64,.int .i64,.slice]) v=true:=λv _ _ ⟨t,e,_⟩=>by rw[e];rfl
def ZAt(b:Nat)(n:Nat):Box:=⟨b,[.int .i64 (n:Nat)],3,1,false,true⟩
theorem Zyy{rs:Nat->T}{L:List T}{i:Nat}:(List.range (i+1)).map rs=(List.range i).map rs++[rs i]:=by rw[List.range_succ,List.map_append];rfl
def Zxr(m:Mem)(r:T×Nat):Value->Mem->List (List Value)->Prop:=λv m' css=>∃t':T,v=t'.v/\Rep m' t'/\t'.er=r.1/\(t'.caps/\NewT m t')/\css=[[.int .i64 (r.2:Nat)]]
theorem Zr9{m:Mem}{r:T×Nat}:∀(v:Value)(m':Mem) (css:List (List Value)),Zxr m r v m' css->Shape.fits (.agg [.int .u8,.int .u64,.int .u64,.int .u64,.int .u64,.int .i64,.int .i64,.slice]) v=true:=λv _ _ ⟨t,e,_⟩=>by rw[e];rfl
theorem Zyz{P:Program}{g:FuncId}{args:Array Value}{m m0:Mem}{X:List Box}{r:T×Nat}(h:CX P g args m X (Zxr m0 r)):CX P g args m X (Zu0 r):=h.mono λ_ _ _ _ ⟨t',e,hr',h1,h2,h3⟩=>⟨t',e,hr',h1,h2.1,h3⟩
theorem ZiH(c:C4)(m:Mem)(nb cb wb:Nat)(jN:m.reads cb 0 [.int .i64 (c.a:Nat),.int .i64 (c.f:Nat),.int .i64 (c.t:Nat),.int .i64 (c.n:Nat)])(lW:m wb 0=some (.func (.func 99) #[] #[Zed nb,Zed cb,Zed wb]))
  (t:T) (n:Nat) (hn:n<=100000) (hr:Rep m t) (hg:t.good=true) (dJ:t.caps) (hz:t.nodes.length<=300) (bZ:t.k=4->n=c.a->Fit t.subs c)
  (cR:∀L:List T,L.length<=300->(∀x∈L,x.caps)->(if t.k=4/\n=c.a then L.map T.er=(ZhH t.subs c).map T.er else L=t.subs)->∃(rs:Nat->T)(cn:Nat->Nat),cn 0=(if t.k=4 then n+1 else n)/\
   (∀i x,L[i]?=some x->∀m2,m.le m2->Rep m2 x->CX Try.prog 99 #[x.v,Zed nb,Zed cb,Zed wb] m2 [ZAt nb (cn i)] (Zu0 (rs i,cn (i+1))))/\
   (∀i,i < L.length->(rs i).good=true/\(rs i).er=rs i)/\szL ((List.range L.length).map rs)<=900/\t.built ((List.range L.length).map rs)=(t.cutAt c n).1/\cn L.length=(t.cutAt c n).2/\(t.k=4->L≠[])/\(t.k=5->L.length=1/\(rs 0).k≠1)/\(t.k=6->L.length=1)):
  CX Try.prog 99 #[t.v,Zed nb,Zed cb,Zed wb] m [ZAt nb n] (Zxr m (t.cutAt c n)):=by
 apply ZhN t.k t.s0 t.s1 t.s2 t.s3 t.mn t.mx t.a t.subs.length t.c nb n cb 0 wb 0
 unfold Zeu
 intro b m1 aO _ b1
 have mC:IntKind.i64.wrap ((n:Int)+1)=((n+1:Nat):Int):=by rw[ZaA (by omega) (by omega)];rfl
 have u6:szL t.subs<=300:=by rw[Zcr]at hz;omega
 have lK:=(hr.mono aO).subs
 have fY:=(Zal hg).2
 have q8:m1 cb (0+0)=some (.int .i64 (c.a:Nat)):=aO _ _ _ (jN 0 _ rfl)
 have lL:∀x∈t.subs,x.caps:=λx hx=>Zg2 dJ hx
 simp only[mC]
 refine⟨λxs css tvs m'=>∃(L:List T)(a:Option Addr)(cc:Nat)(n1:Nat),xs=[.slice a L.length cc]/\css=[[.int .i64 (n1:Nat)]]/\n1=(if t.k=4 then n+1 else n)/\RepL m' a L/\L.length<=300/\(∀x∈L,x.caps)/\(if t.k=4/\n=c.a then L.map T.er=(ZhH t.subs c).map T.er else L=t.subs),?_,?_⟩
 ·refine Zab (λhk=>⟨_,q8,Zaa rfl (Zab (λu9=>?_) (λu9=>?_))⟩) (λhk=>?_)
  ·have hk':t.k=4:=by simpa using hk
   have mV:n=c.a:=by simp[RowKit.intOf]at u9;omega
   have hf:=bZ hk' mV
   refine⟨_,_,_,_,λj v hj=>aO _ _ _ (jN j v hj),Zag (ZzR t.subs t.a t.c c m1 lK (Zjr dJ) fY lL u6 hf) Zr7 ?_⟩
   rintro a2 n2 c2 m2 aP ⟨L,a',c',hv,hL,eV,qJ⟩
   simp only[Value.slice.injEq]at hv
   obtain⟨rfl,rfl,rfl⟩:=hv
   refine⟨by trivial,L,_,_,n+1,rfl,rfl,by rw[if_pos hk'],hL,?_,qJ,by rw[if_pos ⟨hk',mV⟩];exact eV⟩
   have h1:=congrArg List.length eV
   rw[List.length_map,List.length_map]at h1
   unfold ZhH at h1
   rw[List.length_append,List.length_cons,List.length_take,List.length_drop]at h1
   have:=ZbN t.subs
   have:=hf.two
   have:=hf.le
   omega
  ·have hk':t.k=4:=by simpa using hk
   have mV:¬n=c.a:=λe=>by subst e;simp[RowKit.intOf]at u9
   exact⟨by trivial,t.subs,t.a,t.c,n+1,rfl,rfl,by rw[if_pos hk'],lK,by have:=ZbN t.subs;omega,lL,by rw[if_neg (λh=>mV h.2)]⟩
  ·have hk':¬t.k=4:=by simpa using hk
   exact⟨by trivial,t.subs,t.a,t.c,n,rfl,rfl,by rw[if_neg hk'],lK,by have:=ZbN t.subs;omega,lL,by rw[if_neg (λh=>hk' h.1)]⟩
 rintro a2 n2 c2 cs m2 aP ⟨L,a',c',n1,bB,cK,lZ,hL,vb,qJ,pM⟩
 simp only[List.cons.injEq,Value.slice.injEq,and_true]at bB cK
 obtain⟨rfl,rfl,rfl⟩:=bB
 subst cK
 obtain⟨rs,cn,ve,cQ,sk,vf,pN,vg,vh,h5,h6⟩:=cR L vb qJ pM
 rw[lZ,<-ve]
 have bY:=mLt aO aP
 have aR:=ZaL hL
 have cA:=ZbC hL
 refine⟨⟨by trivial,by omega,by omega,by omega⟩,λb3=>?_⟩
 refine⟨λxs css tvs m' q=>∃(i:Nat)(O:List T)(a:Option Addr)(cc:Nat),i<=L.length/\O.length=i/\xs=[.slice a O.length cc,.int .i64 i]/\css=[[.int .i64 (cn i:Nat)]]/\tvs=[.slice a O.length cc]/\rowRd m' a (Rx.ZcA O)/\(∀x∈O,Rep m' x/\x.caps)/\O.map T.er=(List.range i).map rs/\q=L.length - i,⟨_,0,[],some ⟨b3,0,none⟩,_,by omega,rfl,rfl,rfl,rfl,.inl rfl,by simp,rfl,rfl⟩,?_⟩
 rintro a4 n4 c4 z cs4 a5 n5 c5 m3 q aX ⟨i,O,a',cc,hi,iG,bB,cK,cF,dP,mW,iX,hq⟩
 simp only[List.cons.injEq,Value.slice.injEq,Value.int.injEq,true_and,and_true]at bB cF cK
 obtain⟨⟨rfl,rfl,rfl⟩,rfl⟩:=bB
 obtain⟨rfl,rfl,rfl⟩:=cF
 subst cK
 have bT:=mLt bY aX
 refine Zab (λaS=>?_) (λbR=>?_)
 ·have aQ:i < L.length:=by have:=of_decide_eq_true aS;omega
  obtain⟨x,hx⟩:=Zb2 aQ
  obtain⟨b0,o0,eL,eA⟩:=ZcH (aR.mono aX) hx
  have cW:=(cA x (List.mem_of_getElem? hx)).mono aX
  have hw:IntKind.i64.wrap ((i:Int)+1)=((i+1:Nat):Int):=by rw[ZaA (by omega) (by omega)];rfl
  simp only[hw]
  refine⟨b0,o0,eL,⟨by omega,by omega⟩,_,_,_,_,_,_,_,_,eA,λb6=>Zaa rfl ⟨_,bT _ _ _ lW,_,[],[Zed nb,Zed cb,Zed wb],rfl,_,trivial,cQ i x hx m3 bT cW,Zr8,?_⟩⟩
  rintro k' s0' s1' s2' s3' mn' mx' a6 n6 c6 m4 bK cs6 ⟨t',hv,hr',ht',fZ,sm⟩ b7 fR
  simp only[T.v,Value.agg.injEq,Array.mk.injEq,List.cons.injEq,Value.int.injEq,Value.slice.injEq,true_and,and_true]at hv
  obtain⟨rfl,rfl,rfl,rfl,rfl,rfl,rfl,rfl,rfl,rfl⟩:=hv
  obtain rfl:cs6=[.int .i64 (cn (i+1):Nat)]:=by simpa using sm
  have gP:=Mem.le_add fR t'.cs
  refine⟨.inl (by trivial),Rx.ZcA O,t'.cs,by rw[ZaJ],rfl,(dP.mono bK).mono gP,.inr ⟨b7,0,rfl,λj v hj=>by rw[Nat.zero_add,Mem.add_same];exact hj⟩,by have:=Zyu [t'];simpa[Rx.ZcA]using this,by omega,by omega,λa8 c8 m8 iO iF=>?_⟩
  refine⟨by trivial,by trivial,L.length - (i+1),by omega,i+1,O++[t'],a8,c8,by omega,by rw[List.length_append,iG];rfl,?_,rfl,?_,by rw[ZdT];exact iF,?_,?_,rfl⟩
  ·rw[List.length_append];rfl
  ·rw[List.length_append];rfl
  ·have lE:=mLt gP iO
   intro y hy
   rcases List.mem_append.1 hy with hy|hy
   ·exact⟨(mW y hy).1.mono (mLt bK lE),(mW y hy).2⟩
   ·rw[List.mem_singleton]at hy;subst hy
    exact⟨hr'.mono lE,fZ⟩
  ·rw[Zyy (L:=L),List.map_append,iX]
   simp only[List.map_cons,List.map_nil,ht']
 ·have mO:i=L.length:=by have:=of_decide_eq_false bR;omega
  subst mO
  have hs:=ZcU hg
  have dQ:=ZkO (Zal hg).1
  have zg:O.length<=300:=by omega
  have wY:=λ(M:Mem)(h:m3.le M)=>(ZdU (dP.mono h) (λx hx=>(mW x hx).1.mono h) (by omega):RepL M _ O)
  have vj:∀x∈O,x.good=true:=by
   intro x hx
   obtain⟨j,hj⟩:=List.getElem?_of_mem hx
   have h1:=congrArg (λl=>l[j]?) iX
   simp only[List.getElem?_map,hj,Option.map_some]at h1
   have wN:=(List.getElem?_eq_some_iff.1 hj).1
   rw[List.getElem?_range (by omega)]at h1
   simp only[Option.map_some,Option.some.injEq]at h1
   exact Zjw h1 (sk j (by omega)).1
  have pO:O.map T.er=((List.range L.length).map rs).map T.er:=by
   rw[iX,Zx7 λx hx=>?_]
   obtain⟨j,hj,rfl⟩:=List.mem_map.1 hx
   exact(sk j (List.mem_range.1 hj)).2
  have zh:szL O<=900:=by rw[Zeg pO];exact vf
  have mX:∀x∈O,x.clean=true:=λx hx=>Za6 (vj x hx) (by have:=Zbz hx;omega)
  have fin:∀(t':T)(M:Mem),m3.le M->Rep M t'->t'.er=t.built ((List.range L.length).map rs)->(t'.caps/\NewT m t')->∃m'':Mem,m.le m''/\m''.le M/\Zxr m (t.cutAt c n) t'.v m'' [[.int .i64 (cn L.length:Nat)]]:=λt' M hM hr' he hc=>⟨M,mLt bT hM,Mem.le_refl _,t',rfl,hr',by rw[he,pN],hc,by rw[vg]⟩
  refine Zab (λh3=>?_) (λh3=>Zab (λh4=>?_) (λh4=>Zab (λh5'=>?_) (λh5'=>Zab (λh6'=>?_) (λh6'=>?_))))
  ·have eO:t.k=3:=by simpa using h3
   refine Zag (ZvQ O _ _ m3 (wY m3 (Mem.le_refl _)) (by omega) mX) ZaB (ZbH λt' m4 bK hr' ⟨⟨ja,jc,hj⟩,hn⟩=>⟨by trivial,fin t' m4 bK hr' ?_ ⟨ZcZ ZkP hj,hn.less bT⟩⟩)
   rw[ZlF vj (by omega) hj]
   unfold T.built
   rw[if_pos eO]
   exact Zjt pO
  ·have qv:t.k=4:=by simpa using h4
   have bS:O≠[]:=λe=>by
    have:=vh qv
    rw[e]at iG
    exact this (List.eq_nil_of_length_eq_zero iG.symm)
   refine Zag (Zyv O _ _ m3 (wY m3 (Mem.le_refl _)) (by omega) mX) ZaB (ZbH λt' m4 bK hr' ⟨⟨ja,jc,hj⟩,hn⟩=>⟨by trivial,fin t' m4 bK hr' ?_ ⟨ZcZ Zik hj,hn.less bT⟩⟩)
   rw[Zp4 vj bS (by omega) hj]
   unfold T.built
   rw[if_neg (by omega),if_pos qv]
   exact Zju pO
  ·have vk:t.k=5:=by simpa using h5'
   obtain⟨kT,hG⟩:=h5 vk
   rw[kT]at iX
   match O,iG,iX,dP,mW,mX with
   | [],iG,_,_,_,_=>simp at iG;omega
   | _::_::_,iG,_,_,_,_=>simp at iG;omega
   | [o],_,iX,dP,mW,mX=>
   have jM:o.er=rs 0:=by simpa using iX
   have hb:=(hs.2.2.1 vk).2
   obtain⟨b0,o0,eL,eA⟩:=ZcH dP (i:=0) (t:=o) rfl
   refine⟨λ_ _ _=>Zdx λt'=>Zzs o t.mn t.mx t'/\NewT m3 t',b0,o0,eL,⟨by omega,by simp⟩,_,_,_,_,_,_,_,_,eA,_,rfl,ZuW o t.mn t.mx m3 (mW o (by simp)).1 (mX o (by simp)),ZaB,ZbH λt' m4 bK hr' ⟨hj,hn⟩ M dS eC=>⟨by trivial,?_⟩⟩
   have aZ:o.k≠1:=by rw[<-Zvo,jM];exact hG
   obtain⟨ja,jc,hj⟩:=ZrC hj hb aZ
   refine fin t' M dS (hr'.mono eC) ?_ ⟨hj.2,hn.less bT⟩
   have sb:(ZbV 5 t.mn t.mx ja jc [o]).good=true:=Zp8 hb aZ (Zgn (mX o (by simp))).1
   rw[ZeS hj (Za6 sb (by
    rw[Zcr]
    show 1+szL [o]<=_
    omega))]
   unfold T.built
   rw[if_neg (by omega),if_neg (by omega)]
   have mY:=hs.2.2.2.2.2.1 (by omega)
   rw[vk,mY.1,mY.2.1,mY.2.2.1,mY.2.2.2,kT]
   show T.node 5 0 0 0 0 t.mn t.mx none 0 [o.er]=_
   rw[jM];rfl
  ·have wZ:t.k=6:=by simpa using h6'
   have kT:=h6 wZ
   rw[kT]at iX
   match O,iG,iX,dP,mW,mX with
   | [],iG,_,_,_,_=>simp at iG;omega
   | _::_::_,iG,_,_,_,_=>simp at iG;omega
   | [o],_,iX,dP,mW,mX=>
   have jM:o.er=rs 0:=by simpa using iX
   obtain⟨b0,o0,eL,eA⟩:=ZcH dP (i:=0) (t:=o) rfl
   refine⟨b0,o0,eL,⟨by omega,by simp⟩,_,_,_,_,_,_,_,_,eA,Zag (Zk1 o m3 (mW o (by simp)).1) ZaB (ZbH λt' m4 bK hr' ⟨⟨ja,jc,hj⟩,hn⟩=>⟨by trivial,?_⟩)⟩
   refine fin t' m4 bK hr' ?_ ⟨hj.2,hn.less bT⟩
   have sb:(ZbV 6 0 0 ja jc [o]).good=true:=Zo4 (Zgn (mX o (by simp))).1
   rw[ZeS hj (Za6 sb (by
    rw[Zcr]
    show 1+szL [o]<=_
    omega))]
   unfold T.built
   rw[if_neg (by omega),if_neg (by omega)]
   have mY:=hs.2.2.2.2.2.1 (by omega)
   have dU:=hs.2.2.2.2.2.2 (by omega)
   rw[wZ,mY.1,mY.2.1,mY.2.2.1,mY.2.2.2,dU.1,dU.2,kT]
   show T.node 6 0 0 0 0 0 0 none 0 [o.er]=_
   rw[jM];rfl
  ·have mZ:t.k=1\/t.k=2:=by
    have e3:¬t.k=3:=by simpa using h3
    have e4:¬t.k=4:=by simpa using h4
    have e5:¬t.k=5:=by simpa using h5'
    have e6:¬t.k=6:=by simpa using h6'
    rcases dQ with h|h|h|h|⟨h,_⟩|⟨h,_⟩
    ·exact .inl h
    ·exact .inr h
    all_goals omega
   have bJ:=hs.2.2.2.2.1 mZ
   refine Zag (Ztv t m3 (hr.mono bT) (by omega)) ZaB (ZbH λt' m4 bK hr' ht'=>⟨by trivial,fin t' m4 bK hr' ?_ ⟨ht'.2.1,ht'.2.2.less bT⟩⟩)
   have vm:L.length=0:=by
    rw[if_neg (by omega)]at pM
    rw[pM,bJ];rfl
   rw[ht'.1,vm,<-ZeT hg,bJ];rfl
theorem ZqE(c:C4)(m:Mem)(nb cb wb:Nat)(jN:m.reads cb 0 [.int .i64 (c.a:Nat),.int .i64 (c.f:Nat),.int .i64 (c.t:Nat),.int .i64 (c.n:Nat)])(lW:m wb 0=some (.func (.func 99) #[] #[Zed nb,Zed cb,Zed wb]))
  (t:T) (n:Nat) (hn:n<=100000) (hr:Rep m t) (hg:t.good=true) (dJ:t.caps) (hz:t.nodes.length<=300) (bZ:t.k=4->n=c.a->Fit t.subs c)
  (cR:∀L:List T,L.length<=300->(∀x∈L,x.caps)->(if t.k=4/\n=c.a then L.map T.er=(ZhH t.subs c).map T.er else L=t.subs)->∃(rs:Nat->T)(cn:Nat->Nat),cn 0=(if t.k=4 then n+1 else n)/\
   (∀i x,L[i]?=some x->∀m2,m.le m2->Rep m2 x->CX Try.prog 99 #[x.v,Zed nb,Zed cb,Zed wb] m2 [ZAt nb (cn i)] (Zu0 (rs i,cn (i+1))))/\
   (∀i,i < L.length->(rs i).good=true/\(rs i).er=rs i)/\szL ((List.range L.length).map rs)<=900/\t.built ((List.range L.length).map rs)=(t.cutAt c n).1/\cn L.length=(t.cutAt c n).2/\(t.k=4->L≠[])/\(t.k=5->L.length=1/\(rs 0).k≠1)/\(t.k=6->L.length=1)):
  CX Try.prog 99 #[t.v,Zed nb,Zed cb,Zed wb] m [ZAt nb n] (Zu0 (t.cutAt c n)):=
 Zyz (ZiH c m nb cb wb jN lW t n hn hr hg dJ hz bZ cR)
theorem ZiI(c:C4)(m:Mem)(nb cb wb:Nat)(jN:m.reads cb 0 [.int .i64 (c.a:Nat),.int .i64 (c.f:Nat),.int .i64 (c.t:Nat),.int .i64 (c.n:Nat)])(lW:m wb 0=some (.func (.func 99) #[] #[Zed nb,Zed cb,Zed wb]))
  (t:T) (n:Nat) (hn:n+t.nodes.length<=100000) (hr:Rep m t) (hg:t.good=true) (dJ:t.caps) (hz:t.nodes.length<=300) (so:c.a < n):
  CX Try.prog 99 #[t.v,Zed nb,Zed cb,Zed wb] m [ZAt nb n] (Zu0 (t.cutAt c n)):=by
 refine ZqE c m nb cb wb jN lW t n (by omega) hr hg dJ hz (λ_ h=>by omega) λL vb qJ hL=>?_
 rw[if_neg (by omega)]at hL
 subst hL
 have fY:=(Zal hg).2
 have hs:=ZcU hg
 have wK:=Zcr t
 have dT:(List.range t.subs.length).map (λi=>((t.subs[i]?).getD T0).er)=t.subs.map T.er:=by
  have:=ZlO (l:=t.subs.map T.er) (f:=λi=>((t.subs[i]?).getD T0).er) (λi x hx=>by
   rw[List.getElem?_map]at hx
   obtain⟨y,hy,rfl⟩:=Option.map_eq_some_iff.1 hx
   rw[hy];rfl)
  rwa [List.length_map]at this
 have sq:=ZeU t n hg so
 refine⟨λi=>((t.subs[i]?).getD T0).er,λi=>(if t.k=4 then n+1 else n)+(Zax (t.subs.take i)).length,rfl,λi x hx m2 aP cW=>?_,λi hi=>?_,?_,?_,?_,λh4 e=>?_,λh5=>?_,λh6=>?_⟩
 ·have cN:=List.mem_of_getElem? hx
  have jL:=Zbz cN
  have eI:(Zax (t.subs.take (i+1))).length=(Zax (t.subs.take i)).length+x.alts.length:=by rw[Zcd hx,Zdl,List.length_append];simp[Zax]
  have iC:(Zax (t.subs.take i)).length+x.nodes.length<=szL t.subs:=by
   have h1:=ZdB (t.subs.take i)
   have h2:=Zcy t.subs i
   have h3:x.nodes.length<=szL (t.subs.drop i):=by
    refine Zbz (List.mem_of_getElem? (i:=0) ?_)
    rw[List.getElem?_drop];exact hx
   omega
  have qW:(if t.k=4 then n+1 else n)<=n+1/\c.a < (if t.k=4 then n+1 else n):=by split <;> omega
  have ih:=ZiI c m2 nb cb wb (λj v hj=>aP _ _ _ (jN j v hj)) (aP _ _ _ lW) x ((if t.k=4 then n+1 else n)+(Zax (t.subs.take i)).length) (by omega) cW (fY x cN) (Zg2 dJ cN) (by omega) (by omega)
  rw[ZeU x _ (fY x cN) (by omega)]at ih
  dsimp only
  rw[hx,eI,<-Nat.add_assoc]
  exact ih
 ·obtain⟨x,hx⟩:=Zb2 hi
  dsimp only
  rw[hx]
  exact⟨by rw[Zcv];exact fY x (List.mem_of_getElem? hx),Zef x⟩
 ·rw[dT,Zeg (l':=t.subs) (by rw[List.map_map];exact List.map_congr_left λz _=>Zef z)];omega
 ·rw[dT,sq,ZeT hg]
 ·show(if t.k=4 then n+1 else n)+(Zax (t.subs.take t.subs.length)).length=_
  rw[List.take_length,sq,Zeo,List.length_append]
  split <;> simp <;> omega
 ·have:=hs.2.1 h4
  rw[e]at this;simp at this
 ·obtain⟨⟨x,hx,fM⟩,_⟩:=hs.2.2.1 h5
  rw[hx]
  exact⟨rfl,by show x.er.k≠1;rw[Zvo];exact fM⟩
 ·obtain⟨x,hx⟩:=hs.2.2.2.1 h6
  rw[hx];rfl
termination_by SizeOf.sizeOf t
decreasing_by exact Zdk cN
theorem Zk2(c:C4)(m:Mem)(nb cb wb:Nat)(jN:m.reads cb 0 [.int .i64 (c.a:Nat),.int .i64 (c.f:Nat),.int .i64 (c.t:Nat),.int .i64 (c.n:Nat)])(lW:m wb 0=some (.func (.func 99) #[] #[Zed nb,Zed cb,Zed wb]))
  (t:T) (n:Nat) (hn:n+3*t.nodes.length<=90000) (hr:Rep m t) (hg:t.good=true) (dJ:t.caps) (hz:t.nodes.length<=120) (hf:Zep c t.alts n):
  CX Try.prog 99 #[t.v,Zed nb,Zed cb,Zed wb] m [ZAt nb n] (Zxr m (t.cutAt c n)):=by
 refine ZiH c m nb cb wb jN lW t n (by omega) hr hg dJ (by omega) (λh4 h=>ZdW hf h4 h) λL vb qJ hL=>?_
 have fY:=(Zal hg).2
 have hs:=ZcU hg
 have wK:=Zcr t
 by_cases hh:t.k=4/\n=c.a
 ·rw[if_pos hh]at hL
  have bZ:=ZdW hf hh.1 hh.2
  have ho:=Znl fY bZ
  have vn:∀x∈L,x.good=true:=λx hx=>by
   have:x.er∈(ZhH t.subs c).map T.er:=by rw[<-hL];exact List.mem_map.2 ⟨x,hx,rfl⟩
   obtain⟨y,hy,e⟩:=List.mem_map.1 this
   rw[<-Zcv,<-e,Zcv];exact ho.good y hy
  have oQ:szL L<=300:=by
   have:=ho.sz
   rw[Zeg hL];omega
  have dT:(List.range L.length).map (λi=>((L[i]?).getD T0).er)=L.map T.er:=by
   have:=ZlO (l:=L.map T.er) (f:=λi=>((L[i]?).getD T0).er) (λi x hx=>by
    rw[List.getElem?_map]at hx
    obtain⟨y,hy,rfl⟩:=Option.map_eq_some_iff.1 hx
    rw[hy];rfl)
   rwa [List.length_map]at this
  refine⟨λi=>((L[i]?).getD T0).er,λi=>n+1+(Zax (L.take i)).length,by rw[if_pos hh.1];rfl,λi x hx m2 aP cW=>?_,λi hi=>?_,?_,?_,?_,λh4 e=>?_,λh5=>by omega,λh6=>by omega⟩
  ·have cN:=List.mem_of_getElem? hx
   have jL:=Zbz cN
   have eI:(Zax (L.take (i+1))).length=(Zax (L.take i)).length+x.alts.length:=by rw[Zcd hx,Zdl,List.length_append];simp[Zax]
   have iC:(Zax (L.take i)).length<=szL L:=by
    have h1:=ZdB (L.take i)
    have h2:=Zcy L i
    omega
   have ih:=ZiI c m2 nb cb wb (λj v hj=>aP _ _ _ (jN j v hj)) (aP _ _ _ lW) x (n+1+(Zax (L.take i)).length) (by omega) cW (vn x cN) (qJ x cN) (by omega) (by omega)
   rw[ZeU x _ (vn x cN) (by omega)]at ih
   dsimp only
   rw[hx,eI,<-Nat.add_assoc]
   exact ih
  ·obtain⟨x,hx⟩:=Zb2 hi
   dsimp only
   rw[hx]
   exact⟨by rw[Zcv];exact vn x (List.mem_of_getElem? hx),Zef x⟩
  ·rw[dT,Zeg (l':=L) (by rw[List.map_map];exact List.map_congr_left λz _=>Zef z)];omega
  ·rw[dT,hL,ZcT hh.1 hh.2]
   unfold T.built
   rw[if_neg (by omega),if_pos hh.1,<-ZkQ]
  ·show n+1+(Zax (L.take L.length)).length=_
   rw[List.take_length,ZcT hh.1 hh.2,ZkR hL]
  ·rw[e]at hL
   exact ho.ne (by simpa using hL.symm)
 ·rw[if_neg hh]at hL
  subst hL
  have nW:=Zgq hf
  have lZ:(if t.k=4 then n+1 else n)<=n+1:=by split <;> omega
  generalize bS:(if t.k=4 then n+1 else n)=n1 at *
  have hl:=Zip (c:=c) t.subs n1 fY nW
  have dT:(List.range t.subs.length).map (λi=>((ZaD c t.subs n1).1[i]?).getD T0)=(ZaD c t.subs n1).1:=by
   have:=ZlO (l:=(ZaD c t.subs n1).1) (f:=λi=>((ZaD c t.subs n1).1[i]?).getD T0) (λi x hx=>by rw[hx];rfl)
   rwa [hl.1]at this
  refine⟨λi=>((ZaD c t.subs n1).1[i]?).getD T0,λi=>(ZaD c (t.subs.take i) n1).2,rfl,λi x hx m2 aP cW=>?_,λi hi=>?_,?_,?_,?_,λh4 e=>?_,λh5=>?_,λh6=>?_⟩
  ·have cN:=List.mem_of_getElem? hx
   have jL:=Zbz cN
   obtain⟨g1,g2⟩:=Znn (c:=c) (n:=n1) hx
   have bE:=ZlN (c:=c) (t.subs.take i) n1 (λx hx=>fY x (List.mem_of_mem_take hx)) (ZrH i nW)
   have h2:=Zcy t.subs i
   have h3:x.nodes.length<=szL (t.subs.drop i):=by
    refine Zbz (List.mem_of_getElem? (i:=0) ?_)
    rw[List.getElem?_drop];exact hx
   have ih:=Zyz (Zk2 c m2 nb cb wb (λj v hj=>aP _ _ _ (jN j v hj)) (aP _ _ _ lW) x (ZaD c (t.subs.take i) n1).2 (by omega) cW (fY x cN) (Zg2 dJ cN) (by omega) (Zp9 hx nW))
   show CX _ _ _ _ _ (Zu0 (((ZaD c t.subs n1).1[i]?).getD T0,(ZaD c (t.subs.take (i+1)) n1).2))
   rw[g1,g2]
   exact ih
  ·have hi':i < (ZaD c t.subs n1).1.length:=by rw[hl.1];exact hi
   obtain⟨x,hx⟩:=Zb2 hi'
   dsimp only
   rw[hx]
   exact hl.2.1 x (List.mem_of_getElem? hx)
  ·rw[dT];have:=hl.2.2.1;omega
  ·rw[dT,ZbO hh,bS]
  ·show(ZaD c (t.subs.take t.subs.length) n1).2=_
   rw[List.take_length,ZbO hh,bS]
  ·have:=hs.2.1 h4
   rw[e]at this;simp at this
  ·obtain⟨⟨x,hx,fM⟩,_⟩:=hs.2.2.1 h5
   refine⟨by rw[hx];rfl,?_⟩
   have h1:=hl.2.2.2.2 (λy hy=>by rw[hx]at hy;simp at hy;subst hy;exact fM)
   have h2:0 < (ZaD c t.subs n1).1.length:=by rw[hl.1,hx];simp
   obtain⟨y,hy⟩:=Zb2 h2
   show(((ZaD c t.subs n1).1[0]?).getD T0).k≠1
   rw[hy]
   exact h1 y (List.mem_of_getElem? hy)
  ·obtain⟨x,hx⟩:=hs.2.2.2.1 h6
   rw[hx];rfl
termination_by SizeOf.sizeOf t
decreasing_by exact Zdk cN
end Go.Proofs.Ytfgfahnakepegaa
set_option linter.unusedVariables false
namespace Go.Proofs.Ytfgfahnakepegaa
open Go Go.Eng Go.Proofs Go.RowKit
open Go.Value (int slice agg bool string tuple func)
open Go.IntKind (u8 u64 i64)
set_option maxRecDepth 100000
noncomputable def ZiJ:Env:={ EB with
 joins:=(λi=>bif Nat.beq i 1 then some [(6,.bool)]else none)
 frzNew:=[4]
 gb:=true }
def Zev(aD aE aF aG p1:Int)(c0b:Nat)(c0_0:Int)(c1b:Nat)(c1_0 c1_1 c1_2 c1_3:Int)(m:Mem)(R:RT):Prop:=
 ∀(b:Nat)(m':Mem),Mem.le m m'->Mem.reads m' b 0 [int i64 aD,int i64 aE,int i64 aF,int i64 aG]->∃(aa:Bool),br (decide (p1 > c0_0)) ([some (Box.mk b [int i64 aD,int i64 aE,int i64 aF,int
 i64 aG] 29 4 true true),some (Box.mk c0b [int i64 c0_0] 3 1 false true),some (Box.mk c1b [int i64 c1_0,int i64 c1_1,int i64 c1_2,int i64 c1_3] 29 4 false true)]=[some (Box.mk b [int i64 aD,int i64 aE,int
 i64 aF,int i64 aG] 29 4 true true),some (Box.mk c0b [int i64 c0_0] 3 1 false true),some (Box.mk c1b [int i64 c1_0,int i64 c1_1,int i64 c1_2,int i64 c1_3] 29 4 false true)]/\[bool true]=[bool aa]) (br (p1 ==
 c0_0) (br (decide (p1 > (0:Int))) (br (aD == c1_0) (br (aE == c1_1) ([some (Box.mk b [int i64 aD,int i64 aE,int i64 aF,int i64 aG] 29 4 true true),some (Box.mk c0b [int i64 c0_0] 3 1 false true),some
 (Box.mk c1b [int i64 c1_0,int i64 c1_1,int i64 c1_2,int i64 c1_3] 29 4 false true)]=[some (Box.mk b [int i64 aD,int i64 aE,int i64 aF,int i64 aG] 29 4 true true),some (Box.mk c0b [int i64 c0_0] 3 1
 false true),some (Box.mk c1b [int i64 c1_0,int i64 c1_1,int i64 c1_2,int i64 c1_3] 29 4 false true)]/\[bool (decide (aF > c1_2))]=[bool aa]) ([some (Box.mk b [int i64 aD,int i64 aE,int i64 aF,int i64
 aG] 29 4 true true),some (Box.mk c0b [int i64 c0_0] 3 1 false true),some (Box.mk c1b [int i64 c1_0,int i64 c1_1,int i64 c1_2,int i64 c1_3] 29 4 false true)]=[some (Box.mk b [int i64 aD,int i64 aE,int i64
 aF,int i64 aG] 29 4 true true),some (Box.mk c0b [int i64 c0_0] 3 1 false true),some (Box.mk c1b [int i64 c1_0,int i64 c1_1,int i64 c1_2,int i64 c1_3] 29 4 false true)]/\[bool false]=[bool aa])) ([some
 (Box.mk b [int i64 aD,int i64 aE,int i64 aF,int i64 aG] 29 4 true true),some (Box.mk c0b [int i64 c0_0] 3 1 false true),some (Box.mk c1b [int i64 c1_0,int i64 c1_1,int i64 c1_2,int i64 c1_3] 29 4 false
 true)]=[some (Box.mk b [int i64 aD,int i64 aE,int i64 aF,int i64 aG] 29 4 true true),some (Box.mk c0b [int i64 c0_0] 3 1 false true),some (Box.mk c1b [int i64 c1_0,int i64 c1_1,int i64 c1_2,int i64
 c1_3] 29 4 false true)]/\[bool false]=[bool aa])) ([some (Box.mk b [int i64 aD,int i64 aE,int i64 aF,int i64 aG] 29 4 true true),some (Box.mk c0b [int i64 c0_0] 3 1 false true),some (Box.mk c1b [int i64
 c1_0,int i64 c1_1,int i64 c1_2,int i64 c1_3] 29 4 false true)]=[some (Box.mk b [int i64 aD,int i64 aE,int i64 aF,int i64 aG] 29 4 true true),some (Box.mk c0b [int i64 c0_0] 3 1 false true),some (Box.mk
 c1b [int i64 c1_0,int i64 c1_1,int i64 c1_2,int i64 c1_3] 29 4 false true)]/\[bool false]=[bool aa])) ([some (Box.mk b [int i64 aD,int i64 aE,int i64 aF,int i64 aG] 29 4 true true),some (Box.mk c0b
 [int i64 c0_0] 3 1 false true),some (Box.mk c1b [int i64 c1_0,int i64 c1_1,int i64 c1_2,int i64 c1_3] 29 4 false true)]=[some (Box.mk b [int i64 aD,int i64 aE,int i64 aF,int i64 aG] 29 4 true true),
 some (Box.mk c0b [int i64 c0_0] 3 1 false true),some (Box.mk c1b [int i64 c1_0,int i64 c1_1,int i64 c1_2,int i64 c1_3] 29 4 false true)]/\[bool false]=[bool aa]))/\Box.mk c0b [int i64 c0_0] 3 1 false true =
 Box.mk c0b [int i64 c0_0] 3 1 false true/\Box.mk c1b [int i64 c1_0,int i64 c1_1,int i64 c1_2,int i64 c1_3] 29 4 false true=Box.mk c1b [int i64 c1_0,int i64 c1_1,int i64 c1_2,int i64 c1_3] 29 4 false true/\∃
 (m'':Mem),Mem.le m m''/\Mem.le m'' m'/\R (bool aa) m'' [[int i64 c0_0],[int i64 c1_0,int i64 c1_1,int i64 c1_2,int i64 c1_3]]
theorem ZhO(aD aE aF aG p1:Int)(c0b:Nat)(c0_0:Int)(c1b:Nat)(c1_0 c1_1 c1_2 c1_3:Int)(m:Mem)(R:RT)(h:Zev aD aE aF aG p1 c0b c0_0 c1b c1_0 c1_1 c1_2 c1_3 m R):CX Try.prog 85 #[.agg #[.int .i64 aD,.int .i64 aE,.int .i64 aF,.int .i64 aG],.int .i64 p1,.pointer (some ⟨c0b,0,none⟩),.pointer (some ⟨c1b,0,none⟩)] m [⟨c0b,[.int .i64 c0_0],3,1,false,true⟩,⟨c1b,[.int .i64 c1_0,.int .i64 c1_1,.int .i64 c1_2,.int .i64 c1_3],29,4,false,true⟩] R:=
 Zaf (E:=ZiJ) ZaH mix Try.func85 [.v (.agg #[.int .i64 aD,.int .i64 aE,.int .i64 aF,.int .i64 aG]),.v (.int .i64 p1),.loc 100000 0,.loc 100001 0] [⟨c0b,[.int .i64 c0_0],3,1,false,true⟩,⟨c1b,[.int .i64 c1_0,.int .i64 c1_1,.int .i64 c1_2,.int .i64 c1_3],29,4,false,true⟩] (by kernel_rfl) (Eq.mp (by kernel_rfl) h)
noncomputable def Zl7:Env:={ EB with
 loops:=(λi=>bif Nat.beq i 6 then⟨[(19,.agg [.int .i64,.int .i64,.int .i64,.int .i64])],[5,6,7],[],false⟩ else⟨[],[],[],false⟩)
 dr:=(λi=>bif Nat.beq i 2 then[⟨0,[1],[],none,[],[]⟩,⟨1,[1],[],none,[],[]⟩,⟨2,[],[],none,[1],[]⟩,⟨3,[6],[6],none,[],[]⟩,⟨4,[7],[7],none,[],[]⟩,⟨5,[8],[8],none,[],[]⟩,⟨6,[6],[6],none,[1,2,3,4,5],[]⟩,⟨7,[7],[7],none,[0,1,2,3,4,5,6],[]⟩,⟨8,[8],[8],none,[0,1,2,3,4,5,6,7],[]⟩]else bif Nat.beq i 7 then[⟨0,[8],[],none,[],[]⟩,⟨1,[11],[],none,[],[]⟩,⟨2,[],[],none,[1],[]⟩,⟨3,[],[],none,[0,1,2],[]⟩,⟨4,[],[],none,[0,1,2,3],[]⟩]else bif Nat.beq i 9 then[⟨0,[10],[],none,[],[]⟩,⟨1,[],[],none,[],[]⟩,⟨2,[11],[],none,[],[]⟩,⟨3,[5],[5],none,[0],[]⟩,⟨4,[6],[6],none,[0,1,3],[]⟩,⟨5,[7],[7],none,[0,1,2,3,4],[]⟩]else bif Nat.beq i 10 then[⟨0,[5],[],none,[],[]⟩,⟨1,[6],[],none,[],[]⟩,⟨2,[7],[],none,[],[]⟩,⟨3,[2],[2],none,[0],[]⟩,⟨4,[],[],none,[0,1,3],[]⟩,⟨5,[4],[4],none,[0,1,2,3,4],[]⟩]else[])
 borrow:=(λi=>bif Nat.beq i 30 then[6,5]else[])
 frzNew:=[1] }
def ZfL(aD aE aF aG aJ aH aI:Int)(aB:Option Addr)(aA aC:Nat)(m:Mem)(R:RT):Prop:=
 ∀(b:Nat)(m':Mem),Mem.le m m'->Mem.reads m' b 0 [int u8 aD,int u64 aE,int u64 aF,int u64 aG,int u64 aJ,int i64 aH,int i64 aI,slice aB aA aC]->∀(ah ai ab:Nat),∃(f:Fx),∃(R_1
 : RT),R_1=f 2 [agg (Array.mk [int u8 aD,int u64 aE,int u64 aF,int u64 aG,int u64 aJ,int i64 aH,int i64 aI,slice aB aA aC])] m'/\CX Try.prog 27 (Array.mk [agg (Array.mk [int u8 aD,int
 u64 aE,int u64 aF,int u64 aG,int u64 aJ,int i64 aH,int i64 aI,slice aB aA aC])]) m' [] R_1/\Zau (Shape.int i64) R_1/\∀(n:Int)(az:Mem),Mem.le m' az->R_1 (int i64 n) az []->∀(aa ac
 ad:Nat) (M:Mem),Mem.le m' M->Mem.le az M->∀(aj:Nat),∃(R_2:RT),True/\CX Try.prog 72 (Array.mk [agg (Array.mk [int u8 aD,int u64 aE,int u64 aF,int u64 aG,int u64 aJ,int i64 aH,int i64
 aI,slice aB aA aC])]) M [] R_2/\Zau Shape.fn R_2/\∀(g:Nat)(fi ca:List Value)(m':Mem),Mem.le M m'->R_2 (func (Fn.func g) (Array.mk fi) (Array.mk ca)) m' []->∃(xs:List (List Value)),IX
 Try.prog g fi ca m' xs/\(∀(x:List Value),x∈xs->Shape.fitsL [Shape.agg [Shape.int i64,Shape.int i64,Shape.int i64,Shape.int i64]] x=true)/\∃(I:IT),I [] [[int i64 0,int i64 0,int i64 0,int i64 0],
 [int i64 0],[int u8 aD,int u64 aE,int u64 aF,int u64 aG,int u64 aJ,int i64 aH,int i64 aI,slice aB aA aC]] [] m' 0/\(∀(ak al am an:Int)(cs ag af:List Value)(ae:Mem)(ao:Nat),
 Mem.le m' ae->List.get?Internal xs ao=some [agg (Array.mk [int i64 ak,int i64 al,int i64 am,int i64 an])]->I [] [cs,ag,af] [] ae ao->∀(a4:Nat),∃(R:RT),True/\CX Try.prog 73 (Array.mk [agg (Array.mk
 [int u8 aD,int u64 aE,int u64 aF,int u64 aG,int u64 aJ,int i64 aH,int i64 aI,slice aB aA aC]),agg (Array.mk [int i64 ak,int i64 al,int i64 am,int i64 an])]) ae [] R/\Zau (shT) R/\∀
 (ap aq ar au av aw ax:Int) (a:Option Addr) (ay c:Nat) (m':Mem),Mem.le ae m'->R (agg (Array.mk [int u8 ap,int u64 aq,int u64 ar,int u64 au,int u64 av,int i64 aw,int i64 ax,slice a ay c])) m' []->∀(a5:
 Nat),∃(f:Fx),∃(R:RT),R=f 2 [agg (Array.mk [int u8 ap,int u64 aq,int u64 ar,int u64 au,int u64 av,int i64 aw,int i64 ax,slice a ay c])] m'/\CX Try.prog 27 (Array.mk [agg (Array.mk [int u8 ap,int u64
 aq,int u64 ar,int u64 au,int u64 av,int i64 aw,int i64 ax,slice a ay c])]) m' [] R/\Zau (Shape.int i64) R/\∀(a0:Int)(a1:Mem),Mem.le m' a1->R (int i64 a0) a1 []->∀(M:Mem),Mem.le m' M->Mem.le a1 M->
 ∃(R:RT),True/\CX Try.prog 85 (Array.mk [agg (Array.mk [int i64 ak,int i64 al,int i64 am,int i64 an]),int i64 (IntKind.wrap i64 (n - a0)),Value.pointer (some (Addr.mk aa 0 none)),Value.pointer (some (Addr.mk
 ab 0 none))]) M [Box.mk aa ag 3 1 false true,Box.mk ab cs 29 4 false true] R/\Zau Shape.bool R/\∀(a2:Bool)(m':Mem),Mem.le M m'->∀(cs a3:List Value),R (bool a2) m' [cs,a3]->br a2 ([some (Box.mk aj [func
 (Fn.func 85) (Array.mk []) (Array.mk [Value.pointer (some (Addr.mk aa 0 none)),Value.pointer (some (Addr.mk ab 0 none))])] 125 1 false true),some (Box.mk aa [] 3 1 false true),some (Box.mk ac [] 27 8 false true),
 some (Box.mk ad [int i64 n] 3 1 false true),some (Box.mk aa [] 3 1 false true),some (Box.mk ac [] 27 8 false true),some (Box.mk ad [int i64 n] 3 1 false true),some (Box.mk ab [] 29 4 false true),some (Box.mk ai
 [int u8 0,int u64 0,int u64 0,int u64 0,int u64 0,int i64 0,int i64 0,slice none 0 0] 27 8 false true),some (Box.mk ah [int i64 0,int i64 0,int i64 0,int i64 0] 29 4 false true),some (Box.mk b [int u8 aD,
 int u64 aE,int u64 aF,int u64 aG,int u64 aJ,int i64 aH,int i64 aI,slice aB aA aC] 27 8 true true)]=[some (Box.mk aj [func (Fn.func 85) (Array.mk []) (Array.mk [Value.pointer (some (Addr.mk
 aa 0 none)),Value.pointer (some (Addr.mk ab 0 none))])] 125 1 false true),some (Box.mk aa [] 3 1 false true),some (Box.mk ac [] 27 8 false true),some (Box.mk ad [int i64 n] 3 1 false true),some (Box.mk aa [] 3 1
 false true),some (Box.mk ac [] 27 8 false true),some (Box.mk ad [int i64 n] 3 1 false true),some (Box.mk ab [] 29 4 false true),some (Box.mk ai [int u8 0,int u64 0,int u64 0,int u64 0,int u64 0,int i64 0,int
 i64 0,slice none 0 0] 27 8 false true),some (Box.mk ah [int i64 0,int i64 0,int i64 0,int i64 0] 29 4 false true),some (Box.mk b [int u8 aD,int u64 aE,int u64 aF,int u64 aG,int u64 aJ,int i64 aH,
 int i64 aI,slice aB aA aC] 27 8 true true)]/\I [] [[int i64 ak,int i64 al,int i64 am,int i64 an],[int i64 (IntKind.wrap i64 (n - a0))],[int u8 ap,int u64 aq,int u64 ar,int u64 au,int u64 av,int
 i64 aw,int i64 ax,slice a ay c]] [] m' (ao+1)) ([some (Box.mk aj [func (Fn.func 85) (Array.mk []) (Array.mk [Value.pointer (some (Addr.mk aa 0 none)),Value.pointer (some (Addr.mk ab 0 none))])] 125 1 false true),
 some (Box.mk aa [] 3 1 false true),some (Box.mk ac [] 27 8 false true),some (Box.mk ad [int i64 n] 3 1 false true),some (Box.mk aa [] 3 1 false true),some (Box.mk ac [] 27 8 false true),some (Box.mk ad [int i64 n]
 3 1 false true),some (Box.mk ab [] 29 4 false true),some (Box.mk ai [int u8 0,int u64 0,int u64 0,int u64 0,int u64 0,int i64 0,int i64 0,slice none 0 0] 27 8 false true),some (Box.mk ah [int i64 0,int i64 0,
 int i64 0,int i64 0] 29 4 false true),some (Box.mk b [int u8 aD,int u64 aE,int u64 aF,int u64 aG,int u64 aJ,int i64 aH,int i64 aI,slice aB aA aC] 27 8 true true)]=[some (Box.mk aj [func
 (Fn.func 85) (Array.mk []) (Array.mk [Value.pointer (some (Addr.mk aa 0 none)),Value.pointer (some (Addr.mk ab 0 none))])] 125 1 false true),some (Box.mk aa [] 3 1 false true),some (Box.mk ac [] 27 8 false true),
 some (Box.mk ad [int i64 n] 3 1 false true),some (Box.mk aa [] 3 1 false true),some (Box.mk ac [] 27 8 false true),some (Box.mk ad [int i64 n] 3 1 false true),some (Box.mk ab [] 29 4 false true),some (Box.mk ai
 [int u8 0,int u64 0,int u64 0,int u64 0,int u64 0,int i64 0,int i64 0,slice none 0 0] 27 8 false true),some (Box.mk ah [int i64 0,int i64 0,int i64 0,int i64 0] 29 4 false true),some (Box.mk b [int u8 aD,
 int u64 aE,int u64 aF,int u64 aG,int u64 aJ,int i64 aH,int i64 aI,slice aB aA aC] 27 8 true true)]/\I [] [a3,cs,af] [] m' (ao+1)))/\∀(cs ag af:List Value)(ae:Mem),Mem.le m' ae->I
 [] [cs,ag,af] [] ae (List.length xs)->Eng.Zvl ag 0 λ(v:Value)=>chk (Nat.beq (List.length cs) 4&&ZbA cs) (chk (Nat.beq (List.length af) 8&&ZbA af) (∃(m'':Mem),Mem.le m m''/\Mem.le m'' ae/\R
 (tuple (Array.mk [agg (Array.mk cs),v,agg (Array.mk af)])) m'' []))
theorem ZjY(aD aE aF aG aJ aH aI:Int)(aB:Option Addr)(aA aC:Nat)(m:Mem)(R:RT)(h:ZfL aD aE aF aG aJ aH aI aB aA aC m R):CX Try.prog 51 #[.agg #[.int .u8 aD,.int .u64 aE,.int .u64 aF,.int .u64 aG,.int .u64 aJ,.int .i64 aH,.int .i64 aI,.slice aB aA aC]] m [] R:=
 Zaf (E:=Zl7) ZaH mix Try.func51 [.v (.agg #[.int .u8 aD,.int .u64 aE,.int .u64 aF,.int .u64 aG,.int .u64 aJ,.int .i64 aH,.int .i64 aI,.slice aB aA aC])] [] (by kernel_rfl) (Eq.mp (by kernel_rfl) h)
noncomputable def ZiK:Env:={ EB with
 loops:=(λi=>bif Nat.beq i 3 then⟨[],[1,2],[],false⟩ else⟨[],[],[],false⟩) }
def Zew(aD aE aF aG aJ aH aI:Int)(aB:Option Addr)(aA aC:Nat)(m:Mem)(R:RT):Prop:=
 ∀(b ac:Nat),∃(R_1:RT),True/\CX Try.prog 50 (Array.mk [agg (Array.mk [int u8 aD,int u64 aE,int u64 aF,int u64 aG,int u64 aJ,int i64 aH,int i64 aI,slice aB aA aC])]) m [] R_1/\Zau
 Shape.bool R_1/\∀(ad:Bool)(m':Mem),Mem.le m m'->R_1 (bool ad) m' []->br (!ad) (∃(m'':Mem),Mem.le m m''/\Mem.le m'' m'/\R (tuple (Array.mk [agg (Array.mk [int u8 0,int u64 0,int u64 0,int u64 0,int
 u64 0,int i64 0,int i64 0,slice none 0 0]),int i64 2])) m'' []) (∃(I:IT),(∃(n:Nat),I [] [[int u8 aD,int u64 aE,int u64 aF,int u64 aG,int u64 aJ,int i64 aH,int i64 aI,slice aB aA
 aC],[int u8 0,int u64 0,int u64 0,int u64 0,int u64 0,int i64 0,int i64 0,slice none 0 0]] [] m' n)/\∀(cs ae:List Value)(aa:Mem)(n:Nat),Mem.le m' aa->I [] [cs,ae] [] aa n->∃(R_2:RT),True/\
 CX Try.prog 51 (Array.mk [agg (Array.mk cs)]) aa [] R_2/\Zau (Shape.tup [Shape.agg [Shape.int i64,Shape.int i64,Shape.int i64,Shape.int i64],Shape.int i64,shT]) R_2/\∀(ax ay az a0 af ag ah ai aj ak al am:Int)
 (a:Option Addr) (an c:Nat) (m':Mem),Mem.le aa m'->R_2 (tuple (Array.mk [agg (Array.mk [int i64 ax,int i64 ay,int i64 az,int i64 a0]),int i64 af,agg (Array.mk [int u8 ag,int u64 ah,int u64 ai,int u64 aj,
 int u64 ak,int i64 al,int i64 am,slice a an c])])) m' []->∀(a1 a2:Nat),br (decide (af<=(0:Int))) (∃(R_3:RT),True/\CX Try.prog 52 (Array.mk [agg (Array.mk cs)]) m' [] R_3/\Zau (shT) R_3/\∀(n ao ap aq
 ar au av:Int) (a:Option Addr) (aw c:Nat) (ab:Mem),Mem.le m' ab->R_3 (agg (Array.mk [int u8 n,int u64 ao,int u64 ap,int u64 aq,int u64 ar,int i64 au,int i64 av,slice a aw c])) ab []->∃(m'':Mem),
 Mem.le m m''/\Mem.le m'' ab/\R (tuple (Array.mk [agg (Array.mk [int u8 n,int u64 ao,int u64 ap,int u64 aq,int u64 ar,int i64 au,int i64 av,slice a aw c]),int i64 0])) m'' []) ([some (Box.mk ac [] 27 8 false
 true),some (Box.mk b [] 27 8 false true)]=[some (Box.mk ac [] 27 8 false true),some (Box.mk b [] 27 8 false true)]/\∃(n':Nat),n' < n/\I [] [[int u8 ag,int u64 ah,int u64 ai,int u64 aj,int u64 ak,int i64
 al,int i64 am,slice a an c],ae] [] m' n'))
theorem ZhP(aD aE aF aG aJ aH aI:Int)(aB:Option Addr)(aA aC:Nat)(m:Mem)(R:RT)(h:Zew aD aE aF aG aJ aH aI aB aA aC m R):CX Try.prog 17 #[.agg #[.int .u8 aD,.int .u64 aE,.int .u64 aF,.int .u64 aG,.int .u64 aJ,.int .i64 aH,.int .i64 aI,.slice aB aA aC]] m [] R:=
 Zaf (E:=ZiK) ZaH mix Try.func17 [.v (.agg #[.int .u8 aD,.int .u64 aE,.int .u64 aF,.int .u64 aG,.int .u64 aJ,.int .i64 aH,.int .i64 aI,.slice aB aA aC])] [] (by kernel_rfl) (Eq.mp (by kernel_rfl) h)
noncomputable def Zl8:Env:={ EB with
 frzNew:=[1] }
def ZfM(aD aE aF aG aJ aH aI:Int)(aB:Option Addr)(aA aC:Nat)(m:Mem)(R:RT):Prop:=
 ∀(b:Nat)(m':Mem),Mem.le m m'->Mem.reads m' b 0 [int u8 aD,int u64 aE,int u64 aF,int u64 aG,int u64 aJ,int i64 aH,int i64 aI,slice aB aA aC]->∀(b:Nat),∃(R_1:RT),True/\CX
 Try.prog 50 (Array.mk [agg (Array.mk [int u8 aD,int u64 aE,int u64 aF,int u64 aG,int u64 aJ,int i64 aH,int i64 aI,slice aB aA aC])]) m' [] R_1/\Zau Shape.bool R_1/\∀(b:Bool) (m'_1:
 Mem),Mem.le m' m'_1->R_1 (bool b) m'_1 []->br (!b) (∃(m'':Mem),Mem.le m m''/\Mem.le m'' m'_1/\R (tuple (Array.mk [agg (Array.mk [int i64 0,int i64 0,int i64 0,int i64 0]),int i64 0,bool false,int i64 2]))
 m'' []) (∃(R_2:RT),True/\CX Try.prog 51 (Array.mk [agg (Array.mk [int u8 aD,int u64 aE,int u64 aF,int u64 aG,int u64 aJ,int i64 aH,int i64 aI,slice aB aA aC])]) m'_1 [] R_2/\Zau
 (Shape.tup [Shape.agg [Shape.int i64,Shape.int i64,Shape.int i64,Shape.int i64],Shape.int i64,shT]) R_2/\∀(n n_1 n_2 n_3 n_4 n_5 n_6 n_7 n_8 n_9 n_10 n_11:Int)(a:Option Addr)(n_12 c:Nat)(m':Mem),
 Mem.le m'_1 m'->R_2 (tuple (Array.mk [agg (Array.mk [int i64 n,int i64 n_1,int i64 n_2,int i64 n_3]),int i64 n_4,agg (Array.mk [int u8 n_5,int u64 n_6,int u64 n_7,int u64 n_8,int u64 n_9,int i64 n_10,int i64
 n_11,slice a n_12 c])])) m' []->∀(b b:Nat),br (decide (n_4<=(0:Int))) (∃(m'':Mem),Mem.le m m''/\Mem.le m'' m'/\R (tuple (Array.mk [agg (Array.mk [int i64 0,int i64 0,int i64 0,int i64 0]),int i64 0,
 bool false,int i64 0])) m'' []) (∃(m'':Mem),Mem.le m m''/\Mem.le m'' m'/\R (tuple (Array.mk [agg (Array.mk [int i64 n,int i64 n_1,int i64 n_2,int i64 n_3]),int i64 n_4,bool true,int i64 0])) m'' []))
theorem ZjZ(aD aE aF aG aJ aH aI:Int)(aB:Option Addr)(aA aC:Nat)(m:Mem)(R:RT)(h:ZfM aD aE aF aG aJ aH aI aB aA aC m R):CX Try.prog 29 #[.agg #[.int .u8 aD,.int .u64 aE,.int .u64 aF,.int .u64 aG,.int .u64 aJ,.int .i64 aH,.int .i64 aI,.slice aB aA aC]] m [] R:=
 Zaf (E:=Zl8) ZaH mix Try.func29 [.v (.agg #[.int .u8 aD,.int .u64 aE,.int .u64 aF,.int .u64 aG,.int .u64 aJ,.int .i64 aH,.int .i64 aI,.slice aB aA aC])] [] (by kernel_rfl) (Eq.mp (by kernel_rfl) h)
noncomputable def Zl9:Env:={ EB with
 dr:=(λi=>bif Nat.beq i 4 then[⟨0,[2],[],none,[],[]⟩,⟨1,[],[],none,[0],[]⟩,⟨2,[6],[],none,[],[]⟩,⟨3,[],[],none,[0,1,2],[1]⟩,⟨4,[],[],none,[0,1,2,3],[]⟩,⟨5,[],[],none,[0,1,2,3,4],[]⟩,⟨6,[],[],none,[0,1,2,3,4,5],[]⟩]else[])
 frzNew:=[2,3] }
def ZfN(aD aE aF aG aJ aH aI:Int)(aB:Option Addr)(aA aC:Nat)(aN aK aL aM:Int)(m:Mem)(R:RT):Prop:=
 ∀(b:Nat)(m':Mem),Mem.le m m'->Mem.reads m' b 0 [int u8 aD,int u64 aE,int u64 aF,int u64 aG,int u64 aJ,int i64 aH,int i64 aI,slice aB aA aC]->∀(b:Nat)(m'_1:Mem),Mem.le m'
 m'_1->Mem.reads m'_1 b 0 [int i64 aN,int i64 aK,int i64 aL,int i64 aM]->∃(R_1:RT),True/\CX Try.prog 31 (Array.mk [agg (Array.mk [int u8 aD,int u64 aE,int u64 aF,int u64 aG,int u64 aJ,int
 i64 aH,int i64 aI,slice aB aA aC]),agg (Array.mk [int i64 aN,int i64 aK,int i64 aL,int i64 aM])]) m'_1 [] R_1/\Zau (Shape.tup [shT,Shape.int i64]) R_1/\∀(n n_1 n_2 n_3 n_4 n_5 n_6:Int)
 (a:Option Addr) (n_7 c:Nat) (n_8:Int) (m':Mem),Mem.le m'_1 m'->R_1 (tuple (Array.mk [agg (Array.mk [int u8 n,int u64 n_1,int u64 n_2,int u64 n_3,int u64 n_4,int i64 n_5,int i64 n_6,slice a n_7 c]),int
 i64 n_8])) m' []->∀(b:Nat),br (!n_8 == (0:Int)) (∃(m'':Mem),Mem.le m m''/\Mem.le m'' m'/\R (tuple (Array.mk [int i64 0,int i64 n_8])) m'' []) (∃(f:Fx),∃(R_2:RT),R_2=f 1 [agg (Array.mk [int u8
 aD,int u64 aE,int u64 aF,int u64 aG,int u64 aJ,int i64 aH,int i64 aI,slice aB aA aC])] m'/\CX Try.prog 27 (Array.mk [agg (Array.mk [int u8 aD,int u64 aE,int u64 aF,int u64 aG,
 int u64 aJ,int i64 aH,int i64 aI,slice aB aA aC])]) m' [] R_2/\Zau (Shape.int i64) R_2/\∀(n_9:Int)(m'_2:Mem),Mem.le m' m'_2->R_2 (int i64 n_9) m'_2 []->∃(R_3:RT),R_3=f 3 [agg
 (Array.mk [int u8 n,int u64 n_1,int u64 n_2,int u64 n_3,int u64 n_4,int i64 n_5,int i64 n_6,slice a n_7 c])] m'_2/\CX Try.prog 27 (Array.mk [agg (Array.mk [int u8 n,int u64 n_1,int u64 n_2,int u64 n_3,int
 u64 n_4,int i64 n_5,int i64 n_6,slice a n_7 c])]) m'_2 [] R_3/\Zau (Shape.int i64) R_3/\∀(n:Int)(m'_3:Mem),Mem.le m'_2 m'_3->R_3 (int i64 n) m'_3 []->∀(M:Mem),Mem.le m' M->Mem.le m'_2 M->Mem.le m'_3
 M->∃(m'':Mem),Mem.le m m''/\Mem.le m'' M/\R (tuple (Array.mk [int i64 (IntKind.wrap i64 (n_9 - n)),int i64 0])) m'' [])
theorem Zj0(aD aE aF aG aJ aH aI:Int)(aB:Option Addr)(aA aC:Nat)(aN aK aL aM:Int)(m:Mem)(R:RT)(h:ZfN aD aE aF aG aJ aH aI aB aA aC aN aK aL aM m R):CX Try.prog 30 #[.agg #[.int .u8 aD,.int .u64 aE,.int .u64 aF,.int .u64 aG,.int .u64 aJ,.int .i64 aH,.int .i64 aI,.slice aB aA aC],.agg #[.int .i64 aN,.int .i64 aK,.int .i64 aL,.int .i64 aM]] m [] R:=
 Zaf (E:=Zl9) ZaH mix Try.func30 [.v (.agg #[.int .u8 aD,.int .u64 aE,.int .u64 aF,.int .u64 aG,.int .u64 aJ,.int .i64 aH,.int .i64 aI,.slice aB aA aC]),.v (.agg #[.int .i64 aN,.int .i64 aK,.int .i64 aL,.int .i64 aM])] [] (by kernel_rfl) (Eq.mp (by kernel_rfl) h)
noncomputable def Zma:Env:={ EB with
 loops:=(λi=>bif Nat.beq i 5 then⟨[(13,.agg [.int .i64,.int .i64,.int .i64,.int .i64])],[4,5],[],false⟩ else⟨[],[],[],false⟩)
 frzNew:=[2,3] }
def ZfO(aD aE aF aG aJ aH aI:Int)(aB:Option Addr)(aA aC:Nat)(aN aK aL aM:Int)(m:Mem)(R:RT):Prop:=
 ∀(b:Nat)(m':Mem),Mem.le m m'->Mem.reads m' b 0 [int u8 aD,int u64 aE,int u64 aF,int u64 aG,int u64 aJ,int i64 aH,int i64 aI,slice aB aA aC]->∀(ab:Nat)(ac:Mem),Mem.le m' ac->
 Mem.reads ac ab 0 [int i64 aN,int i64 aK,int i64 aL,int i64 aM]->∀(ad ae:Nat),∃(R_1:RT),True/\CX Try.prog 50 (Array.mk [agg (Array.mk [int u8 aD,int u64 aE,int u64 aF,int u64 aG,int u64
 aJ,int i64 aH,int i64 aI,slice aB aA aC])]) ac [] R_1/\Zau Shape.bool R_1/\∀(ai:Bool)(m':Mem),Mem.le ac m'->R_1 (bool ai) m' []->br (!ai) (∃(m'':Mem),Mem.le m m''/\Mem.le m'' m'/\R
 (tuple (Array.mk [agg (Array.mk [int u8 0,int u64 0,int u64 0,int u64 0,int u64 0,int i64 0,int i64 0,slice none 0 0]),int i64 2])) m'' []) (∃(R_2:RT),True/\CX Try.prog 72 (Array.mk [agg (Array.mk [int u8
 aD,int u64 aE,int u64 aF,int u64 aG,int u64 aJ,int i64 aH,int i64 aI,slice aB aA aC])]) m' [] R_2/\Zau Shape.fn R_2/\∀(g:Nat)(fi ca:List Value)(aa:Mem),Mem.le m' aa->R_2 (func
 (Fn.func g) (Array.mk fi) (Array.mk ca)) aa []->∃(xs:List (List Value)),IX Try.prog g fi ca aa xs/\(∀(x:List Value),x∈xs->Shape.fitsL [Shape.agg [Shape.int i64,Shape.int i64,Shape.int i64,Shape.int i64]]
 x=true)/\∃(I:IT),I [] [[int u8 0,int u64 0,int u64 0,int u64 0,int u64 0,int i64 0,int i64 0,slice none 0 0],[int i64 0]] [] aa 0/\(∀(n aj ak al:Int)(cs af:List Value)(m':Mem)(ag:Nat),Mem.le
 aa m'->List.get?Internal xs ag=some [agg (Array.mk [int i64 n,int i64 aj,int i64 ak,int i64 al])]->I [] [cs,af] [] m' ag->∀(aw:Nat),∃(am:Bool),EqIs Try.prog 29 (agg (Array.mk [int i64 n,int i64 aj,int
 i64 ak,int i64 al])) (agg (Array.mk [int i64 aN,int i64 aK,int i64 aL,int i64 aM])) am/\br am (∃(R_3:RT),True/\CX Try.prog 73 (Array.mk [agg (Array.mk [int u8 aD,int u64 aE,int u64 aF,int u64
 aG,int u64 aJ,int i64 aH,int i64 aI,slice aB aA aC]),agg (Array.mk [int i64 aN,int i64 aK,int i64 aL,int i64 aM])]) m' [] R_3/\Zau (shT) R_3/\∀(n an ao ap aq ar au:Int) (a:Option
 Addr) (av c:Nat) (ah:Mem),Mem.le m' ah->R_3 (agg (Array.mk [int u8 n,int u64 an,int u64 ao,int u64 ap,int u64 aq,int i64 ar,int i64 au,slice a av c])) ah []->[some (Box.mk ae [] 37 1 false true),some
 (Box.mk ad [] 27 8 false true),some (Box.mk ab [int i64 aN,int i64 aK,int i64 aL,int i64 aM] 29 4 true true),some (Box.mk b [int u8 aD,int u64 aE,int u64 aF,int u64 aG,int u64 aJ,int i64
 aH,int i64 aI,slice aB aA aC] 27 8 true true)]=[some (Box.mk ae [] 37 1 false true),some (Box.mk ad [] 27 8 false true),some (Box.mk ab [int i64 aN,int i64 aK,int i64 aL,int i64 aM] 29 4
 true true),some (Box.mk b [int u8 aD,int u64 aE,int u64 aF,int u64 aG,int u64 aJ,int i64 aH,int i64 aI,slice aB aA aC] 27 8 true true)]/\∃(m'':Mem),Mem.le m m''/\Mem.le m'' ah/\R
 (tuple (Array.mk [agg (Array.mk [int u8 n,int u64 an,int u64 ao,int u64 ap,int u64 aq,int i64 ar,int i64 au,slice a av c]),int i64 0])) m'' []) ([some (Box.mk ae [] 37 1 false true),some (Box.mk ad [] 27 8
 false true),some (Box.mk ab [int i64 aN,int i64 aK,int i64 aL,int i64 aM] 29 4 true true),some (Box.mk b [int u8 aD,int u64 aE,int u64 aF,int u64 aG,int u64 aJ,int i64 aH,int i64 aI,
 slice aB aA aC] 27 8 true true)]=[some (Box.mk ae [] 37 1 false true),some (Box.mk ad [] 27 8 false true),some (Box.mk ab [int i64 aN,int i64 aK,int i64 aL,int i64 aM] 29 4 true true),some
 (Box.mk b [int u8 aD,int u64 aE,int u64 aF,int u64 aG,int u64 aJ,int i64 aH,int i64 aI,slice aB aA aC] 27 8 true true)]/\I [] [cs,af] [] m' (ag+1)))/\∀(cs af:List Value)(m':Mem),
 Mem.le aa m'->I [] [cs,af] [] m' (List.length xs)->∃(m'':Mem),Mem.le m m''/\Mem.le m'' m'/\R (tuple (Array.mk [agg (Array.mk [int u8 0,int u64 0,int u64 0,int u64 0,int u64 0,int i64 0,int i64 0,slice
 none 0 0]),int i64 150])) m'' [])
theorem Zj1(aD aE aF aG aJ aH aI:Int)(aB:Option Addr)(aA aC:Nat)(aN aK aL aM:Int)(m:Mem)(R:RT)(h:ZfO aD aE aF aG aJ aH aI aB aA aC aN aK aL aM m R):CX Try.prog 31 #[.agg #[.int .u8 aD,.int .u64 aE,.int .u64 aF,.int .u64 aG,.int .u64 aJ,.int .i64 aH,.int .i64 aI,.slice aB aA aC],.agg #[.int .i64 aN,.int .i64 aK,.int .i64 aL,.int .i64 aM]] m [] R:=
 Zaf (E:=Zma) ZaH mix Try.func31 [.v (.agg #[.int .u8 aD,.int .u64 aE,.int .u64 aF,.int .u64 aG,.int .u64 aJ,.int .i64 aH,.int .i64 aI,.slice aB aA aC]),.v (.agg #[.int .i64 aN,.int .i64 aK,.int .i64 aL,.int .i64 aM])] [] (by kernel_rfl) (Eq.mp (by kernel_rfl) h)
noncomputable def Zmb:Env:={ EB with
 frzNew:=[1] }
def ZfP(aD aE aF aG aJ aH aI:Int)(aB:Option Addr)(aA aC:Nat)(m:Mem)(R:RT):Prop:=
 ∀(b:Nat)(m':Mem),Mem.le m m'->Mem.reads m' b 0 [int u8 aD,int u64 aE,int u64 aF,int u64 aG,int u64 aJ,int i64 aH,int i64 aI,slice aB aA aC]->∃(R_1:RT),True/\CX Try.prog 50
 (Array.mk [agg (Array.mk [int u8 aD,int u64 aE,int u64 aF,int u64 aG,int u64 aJ,int i64 aH,int i64 aI,slice aB aA aC])]) m' [] R_1/\Zau Shape.bool R_1/\∀(b:Bool)(m'_1:Mem),Mem.le
 m' m'_1->R_1 (bool b) m'_1 []->br (!b) (∃(m'':Mem),Mem.le m m''/\Mem.le m'' m'_1/\R (tuple (Array.mk [slice none 0 0,int i64 2])) m'' []) (∃(R_2:RT),True/\CX Try.prog 72 (Array.mk [agg (Array.mk [int u8
 aD,int u64 aE,int u64 aF,int u64 aG,int u64 aJ,int i64 aH,int i64 aI,slice aB aA aC])]) m'_1 [] R_2/\Zau Shape.fn R_2/\∀(g:Nat)(fi ca:List Value)(m':Mem),Mem.le m'_1 m'->R_2
 (func (Fn.func g) (Array.mk fi) (Array.mk ca)) m' []->∃(R_3:RT),True/\CX Try.prog 74 (Array.mk [func (Fn.func g) (Array.mk fi) (Array.mk ca)]) m' [] R_3/\Zau Shape.slice R_3/\∀(a:Option Addr)(n c:Nat)
 (m'_2:Mem),Mem.le m' m'_2->R_3 (slice a n c) m'_2 []->∃(m'':Mem),Mem.le m m''/\Mem.le m'' m'_2/\R (tuple (Array.mk [slice a n c,int i64 0])) m'' [])
theorem Zj2(aD aE aF aG aJ aH aI:Int)(aB:Option Addr)(aA aC:Nat)(m:Mem)(R:RT)(h:ZfP aD aE aF aG aJ aH aI aB aA aC m R):CX Try.prog 32 #[.agg #[.int .u8 aD,.int .u64 aE,.int .u64 aF,.int .u64 aG,.int .u64 aJ,.int .i64 aH,.int .i64 aI,.slice aB aA aC]] m [] R:=
 Zaf (E:=Zmb) ZaH mix Try.func32 [.v (.agg #[.int .u8 aD,.int .u64 aE,.int .u64 aF,.int .u64 aG,.int .u64 aJ,.int .i64 aH,.int .i64 aI,.slice aB aA aC])] [] (by kernel_rfl) (Eq.mp (by kernel_rfl) h)
noncomputable def ZcI:Env:=EB
def ZbG(p0g:Nat)(p0fi p0ca:List Value)(m:Mem)(R:RT):Prop:=
 ∃(R_1:RT),True/\CX Try.prog 101 (Array.mk [slice none 0 0,func (Fn.func p0g) (Array.mk p0fi) (Array.mk p0ca)]) m [] R_1/\Zau Shape.slice R_1/\∀(a:Option Addr)(n c:Nat)(m':Mem),Mem.le m m'->R_1 (slice
 a n c) m' []->∃(m'':Mem),Mem.le m m''/\Mem.le m'' m'/\R (slice a n c) m'' []
theorem Zcz(p0g:Nat)(p0fi p0ca:List Value)(m:Mem)(R:RT)(h:ZbG p0g p0fi p0ca m R):CX Try.prog 74 #[.func (.func p0g) p0fi.toArray p0ca.toArray] m [] R:=
 Zaf (E:=ZcI) ZaH mix Try.func74 [.v (.func (.func p0g) p0fi.toArray p0ca.toArray)] [] (by kernel_rfl) (Eq.mp (by kernel_rfl) h)
noncomputable def Zbp:Env:={ EB with
 loops:=(λi=>bif Nat.beq i 3 then⟨[(7,.agg [.int .i64,.int .i64,.int .i64,.int .i64])],[2],[(11,4)],false⟩ else⟨[],[],[],false⟩)
 tokOf:=(λi=>bif Nat.beq i 11 then 11 else 0)
 capF:=true }
def ZaV(p0a:Option Addr)(p0n p0c p1g:Nat)(p1fi p1ca:List Value)(m:Mem)(R:RT):Prop:=
 ∀(b:Nat),∃(xs:List (List Value)),IX Try.prog p1g p1fi p1ca m xs/\(∀(x:List Value),x∈xs->Shape.fitsL [Shape.agg [Shape.int i64,Shape.int i64,Shape.int i64,Shape.int i64]] x=true)/\∃(I:IT),I []
 [[slice p0a p0n p0c]] [slice none 0 0] m 0/\(∀(n n_1 n_2 n_3:Int)(cs:List Value)(a:Option Addr)(n_4 c:Nat)(m':Mem)(n_5:Nat),Mem.le m m'->List.get?Internal xs n_5=some [agg (Array.mk [int i64 n,
 int i64 n_1,int i64 n_2,int i64 n_3])]->I [] [cs] [slice a n_4 c] m' n_5->∀(b_1:Nat),Eng.Zvl cs 0 λ(v:Value)=>∀(b_2:Nat),Mem.free m' b_2->chk (Zcn v&&true) ((Tok.mk (slice a n_4 c) 4=Tok.mk v 4
 \/ v=slice none 0 0\/slC v < slN v+1)/\∃(xs:List Value),∃(ys:List Value),List.length xs=slN v*4/\List.length ys=1*4/\rowRd (Mem.add m' b_2 [int i64 n,int i64 n_1,int i64 n_2,int i64 n_3]) (slA
 v) xs/\rowRd (Mem.add m' b_2 [int i64 n,int i64 n_1,int i64 n_2,int i64 n_3]) (some (Addr.mk b_2 0 none)) ys/\(∀(u:Value),u∈ys->Value.oneCell' u=true)/\(slN v+1)*32<=140737488355328/\slN v+1 <=
 9223372036854775807/\∀(a':Option Addr)(c':Nat)(m'_1:Mem),Mem.le (Mem.add m' b_2 [int i64 n,int i64 n_1,int i64 n_2,int i64 n_3]) m'_1->rowRd m'_1 a' (List.append xs ys)->slN v+1<=c'->[some (Box.mk b
 [] 50 1 false true)]=[some (Box.mk b [] 50 1 false true)]/\I [] [[slice a' (slN v+1) c']] [slice a' (slN v+1) c'] m'_1 (n_5+1)))/\∀(cs:List Value)(a:Option Addr)(n c:Nat)(m':Mem),Mem.le m m'->I
 [] [cs] [slice a n c] m' (List.length xs)->Eng.Zvl cs 0 λ(v:Value)=>∃(m'':Mem),Mem.le m m''/\Mem.le m'' m'/\R v m'' []
theorem Zbk(p0a:Option Addr)(p0n p0c p1g:Nat)(p1fi p1ca:List Value)(m:Mem)(R:RT)(h:ZaV p0a p0n p0c p1g p1fi p1ca m R):CX Try.prog 101 #[.slice p0a p0n p0c,.func (.func p1g) p1fi.toArray p1ca.toArray] m [] R:=
 Zaf (E:=Zbp) ZaH mix Try.func101 [.v (.slice p0a p0n p0c),.v (.func (.func p1g) p1fi.toArray p1ca.toArray)] [] (by kernel_rfl) (Eq.mp (by kernel_rfl) h)
end Go.Proofs.Ytfgfahnakepegaa
set_option linter.unusedVariables false
set_option linter.unusedSimpArgs false
set_option linter.unusedSectionVars false
namespace Go.Proofs.Ytfgfahnakepegaa
open Go Go.Eng Go.Rx Go.Proofs Go.RowKit
set_option maxRecDepth 100000
def ZcJ(c:C4):List Value:=[.int .i64 (c.a:Nat),.int .i64 (c.f:Nat),.int .i64 (c.t:Nat),.int .i64 (c.n:Nat)]
theorem Ztw(t:T)(c:C4)(m:Mem)(hr:Rep m t)(hg:t.good=true)(dJ:t.caps)(hz:t.nodes.length<=120)(hf:Zep c t.alts 0):CX Try.prog 73 #[t.v,c.v] m [] (Zdx λt'=>t'.er=(t.cutAt c 0).1/\(t'.caps/\NewT m t')):=by
 apply ZjX
 unfold ZfK
 intro b m1 aO _ b' m2 aP _ b1 b2 b3 m3 aX hw hc
 have bT:=mLt aO (mLt aP aX)
 have vo:=Zk2 c m3 b2 b' b3 hc (by have:=hw 0 _ rfl;rw[Nat.zero_add]at this;exact this) t 0 (by omega) (hr.mono bT) hg dJ hz hf
 refine⟨_,trivial,vo,Zr9,?_⟩
 rintro k' s0' s1' s2' s3' mn' mx' a6 n6 c6 m4 bK cs6 ⟨t',hv,hr',ht',fZ,sm⟩
 simp only[T.v,Value.agg.injEq,Array.mk.injEq,List.cons.injEq,Value.int.injEq,Value.slice.injEq,true_and,and_true]at hv
 obtain⟨rfl,rfl,rfl,rfl,rfl,rfl,rfl,rfl,rfl,rfl⟩:=hv
 exact⟨m4,mLt bT bK,Mem.le_refl _,t',rfl,hr',ht',fZ.1,fZ.2.less bT⟩
theorem ZyA(t:T)(c:C4)(m:Mem)(hr:Rep m t)(hg:t.good=true)(dJ:t.caps)(hz:t.nodes.length<=120)(hf:Zep c t.alts 0):CX Try.prog 73 #[t.v,c.v] m [] (Zdx λt'=>t'.er=(t.cutAt c 0).1/\t'.caps):=
 (Ztw t c m hr hg dJ hz hf).mono λ_ _ _ _ ⟨t',e,hr',h1,h2⟩=>⟨t',e,hr',h1,h2.1⟩
theorem Zu1(c top:C4)(gain most:Int)(b0 b1:Nat)(m:Mem):CX Try.prog 85 #[c.v,.int .i64 gain,Zed b0,Zed b1] m [⟨b0,[.int .i64 most],3,1,false,true⟩,⟨b1,ZcJ top,29,4,false,true⟩] (λv _ css=>v=.bool (ZkS top c most gain)/\css=[[.int .i64 most],ZcJ top]):=by
 apply ZhO (c.a:Nat) (c.f:Nat) (c.t:Nat) (c.n:Nat) gain b0 most b1 (top.a:Nat) (top.f:Nat) (top.t:Nat) (top.n:Nat)
 unfold Zev
 intro b m1 aO _
 have e1:(((c.a:Nat):Int) == ((top.a:Nat):Int))=(c.a == top.a):=by rw[Bool.eq_iff_iff];simp only[beq_iff_eq];omega
 have e2:(((c.f:Nat):Int) == ((top.f:Nat):Int))=(c.f == top.f):=by rw[Bool.eq_iff_iff];simp only[beq_iff_eq];omega
 have e3:decide (((c.t:Nat):Int) > ((top.t:Nat):Int))=decide (c.t > top.t):=decide_eq_decide.2 (by omega)
 rw[e1,e2,e3]
 refine⟨ZkS top c most gain,?_,rfl,rfl,m1,aO,Mem.le_refl _,rfl,rfl⟩
 unfold ZkS
 generalize decide (gain > most)=x1
 generalize (gain == most)=x2
 generalize decide (gain > 0)=x3
 generalize (c.a == top.a)=x4
 generalize (c.f == top.f)=x5
 generalize decide (c.t > top.t)=x6
 cases x1
 ·cases x2
  ·exact⟨rfl,rfl⟩
  ·cases x3
   ·exact⟨rfl,rfl⟩
   ·cases x4
    ·exact⟨rfl,rfl⟩
    ·cases x5
     ·exact⟨rfl,rfl⟩
     ·exact⟨rfl,rfl⟩
 ·exact⟨rfl,rfl⟩
def ZAu(t:T):Value->Mem->List (List Value)->Prop:=λv m' _=>∃t':T,v=.tuple #[(Zcw t).c.v,.int .i64 (Zcw t).g,t'.v]/\Rep m' t'/\t'.er=(Zcw t).t/\t'.caps
theorem ZbZ{t:T}(h:t.nodes.length<=10000):t.size=(t.nodes.length:Nat):=by
 unfold T.size T.light
 rw[decide_eq_true h,if_pos rfl]
theorem ZvR(t:T)(m:Mem)(hr:Rep m t)(hg:t.good=true)(dJ:t.caps)(hz:t.nodes.length<=120):CX Try.prog 51 #[t.v] m [] (ZAu t):=by
 apply ZjY
 unfold ZfL
 intro b m1 aO bC b1 b2 b3
 have dK:=hr.mono aO
 have bA:=ZbZ (t:=t) (by omega)
 refine⟨λ_ _ _=>Ret (.int .i64 t.size),_,rfl,ZnA t m1 dK,(λv _ _ e=>by rw[e];rfl),?_⟩
 intro n m2 aP hn b4 b5 b6 M dS eC b7
 obtain rfl:n=t.size:=by unfold Ret at hn;simpa using hn
 refine Zag (Ztt t M) Zl3 ?_
 rintro g fi ca m3 aX ⟨nb,hv,iP⟩
 obtain⟨rfl,rfl,rfl⟩:=ZeE hv
 have bT:=mLt aO (mLt dS aX)
 have rk:=hr.mono bT
 refine⟨_,Ztu t m3 nb iP rk dJ (by omega),λx hx=>?_,λxs css tvs m' q=>∃tt:T,css=[ZcJ ((t.cuts.take q).foldl (Zcm t) ⟨C4.zero,0,t.er⟩).c,[.int .i64 ((t.cuts.take q).foldl (Zcm t) ⟨C4.zero,0,t.er⟩).g],tt.cs]/\Rep m' tt/\tt.er=((t.cuts.take q).foldl (Zcm t) ⟨C4.zero,0,t.er⟩).t/\tt.caps,⟨t,rfl,rk,rfl,dJ⟩,?_,?_⟩
 ·obtain⟨c,_,rfl⟩:=List.mem_map.1 hx
  rfl
 ·rintro n1 n2 n3 n4 cs cs1 cs2 m4 q bK dF ⟨tt,cK,sr,ti,fO⟩ b8
  have dF:(t.cuts.map Zvp)[q]?=some [.agg #[.int .i64 n1,.int .i64 n2,.int .i64 n3,.int .i64 n4]]:=dF
  rw[List.getElem?_map]at dF
  obtain⟨c,hc,he⟩:=Option.map_eq_some_iff.1 dF
  simp only[Zvp,C4.v,List.cons.injEq,Value.agg.injEq,Array.mk.injEq,Value.int.injEq,true_and,and_true]at he
  obtain⟨rfl,rfl,rfl,rfl⟩:=he
  have s4:=List.mem_of_getElem? hc
  have cH:(t.cuts.take (q+1)).foldl (Zcm t) ⟨C4.zero,0,t.er⟩=Zcm t ((t.cuts.take q).foldl (Zcm t) ⟨C4.zero,0,t.er⟩) c:=by
   rw[Zcd hc,List.foldl_append];rfl
  have w5:=Zjx (c:=c) t 0 hg (Zd4 s4)
  refine Zag (ZyA t c m4 (rk.mono bK) hg dJ hz (Zd4 s4)) ZaB (ZbH λt' m5 cU hr' ⟨ht',fZ⟩ b9=>?_)
  have hz':t'.nodes.length=(t.cutAt c 0).1.nodes.length:=ZlJ ht'
  have vp:=ZbZ (t:=t') (by have:=w5.sz;omega)
  refine⟨λ_ _ _=>Ret (.int .i64 t'.size),_,rfl,ZnA t' m5 hr',(λv _ _ e=>by rw[e];rfl),?_⟩
  intro n14 m6 dU ss M2 vq zi
  obtain rfl:n14=t'.size:=by unfold Ret at ss;simpa using ss
  have su:IntKind.i64.wrap (t.size - t'.size)=Zfi t c:=by
   rw[bA,vp]
   unfold Zfi
   have:=w5.sz
   rw[hz',ZaA (by omega) (by omega)]
  rw[su]
  generalize hB:(t.cuts.take q).foldl (Zcm t) ⟨C4.zero,0,t.er⟩=B at *
  simp only[List.cons.injEq,and_true]at cK
  obtain⟨rfl,rfl,rfl⟩:=cK
  refine⟨_,trivial,Zu1 c B.c (Zfi t c) B.g b4 b3 M2,(λv _ _ e=>by rw[e.1];rfl),?_⟩
  rintro bb m7 dA cs' cs3 ⟨dM,cI⟩
  obtain rfl:bb=ZkS B.c c B.g (Zfi t c):=by simpa using dM
  simp only[List.cons.injEq,and_true]at cI
  obtain⟨rfl,rfl⟩:=cI
  have tf:=mLt vq dA
  refine Zab (λhy=>?_) (λhn=>?_)
  ·refine⟨by trivial,t',?_,hr'.mono tf,?_,fZ⟩
   ·rw[cH];unfold Zcm;rw[hy,if_pos rfl];rfl
   ·rw[cH];unfold Zcm;rw[hy,if_pos rfl];exact ht'
  ·refine⟨by trivial,tt,?_,sr.mono (mLt cU tf),?_,fO⟩
   ·rw[cH];unfold Zcm;rw[hn];rfl
   ·rw[cH];unfold Zcm;rw[hn];exact ti
 ·rintro cs cs1 cs2 m4 bK ⟨tt,cK,sr,ti,fO⟩
  rw[List.length_map,List.take_length]at cK ti
  simp only[List.cons.injEq,and_true]at cK
  obtain⟨rfl,rfl,rfl⟩:=cK
  refine Zas (v:=.int .i64 (Zcw t).g) rfl (Zaa rfl (Zaa rfl ⟨m4,mLt bT bK,Mem.le_refl _,tt,rfl,sr,ti,fO⟩))
end Go.Proofs.Ytfgfahnakepegaa
