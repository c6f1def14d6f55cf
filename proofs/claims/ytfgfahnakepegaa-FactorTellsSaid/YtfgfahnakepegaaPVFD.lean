/- Part of the proof: conditions and contracts of functions of this program. No condition of its own. -/
import Derived.Test.YtfgfahnakepegaaPC15T
import Derived.Test.YtfgfahnakepegaaPEnv
set_option linter.unusedVariables false
set_option linter.unusedSimpArgs false
set_option linter.unusedSectionVars false
namespace Go.Proofs.Ytfgfahnakepegaa
open Go Go.Eng Go.Rx Go.Proofs Go.RowKit
set_option maxRecDepth 100000
def ZAZ(Ls:List T):Value->Mem->List (List Value)->Prop:=λv m' _=>∃(L:List T)(a:Option Addr)(c:Nat),v=.slice a L.length c/\RepL m' a L/\L.map T.er=Ls.map T.er/\∀x∈L,x.caps
theorem ZsN{Ls:List T}:∀(v:Value)(m':Mem) (css:List (List Value)),ZAZ Ls v m' css->Shape.fits .slice v=true:=λv _ _ ⟨L,a,c,e,_⟩=>by rw[e];rfl
set_option maxHeartbeats 1600000 in
theorem ZAn(subs:List T)(a:Option Addr)(cap:Nat)(c:C4)(m:Mem)(hL:RepL m a subs)(bN:subs.length<=cap)(hg:∀x∈subs,x.good=true)(cJ:∀x∈subs,x.caps)(bB:szL subs<=300)(hf:Fit subs c):CX Try.prog 100 #[.slice a subs.length cap,c.v] m [] (ZAZ (Zh8 subs c)):=by
 apply ZmD
 unfold Zhz
 intro b m1 aM bA
 have h2:=hf.two
 have bE:=hf.le
 have hp:=hf.pos
 have gF:=ZbY subs
 have cD:=ZbN hL
 refine⟨⟨by omega,by omega⟩,⟨by omega,by omega⟩,?_⟩
 simp only[Int.toNat_natCast]
 generalize gP:(subs.take c.t).drop c.f=seg
 have dS:seg.length=c.t - c.f:=by rw[<-gP,List.length_drop,List.length_take,Nat.min_eq_left bE]
 have gR:∀x∈seg,x∈subs/\c.n<=(Zan x).length:=λx hx=>by
  rw[<-gP]at hx
  obtain⟨i,h3,h4,h5⟩:=ZtM hx
  exact⟨List.mem_of_getElem? h5,hf.head i x h3 h4 h5⟩
 have sb:RepL m (ZaQ a c.f cap 8) seg:=by
  have:=ZmB (ZgS hL c.t) (i:=c.f) (c:=cap) (by rw[List.length_take];omega) (by rw[List.length_take];omega)
  rw[gP]at this;exact this
 have aR:=ZaL sb
 have qN:=λx hx=>ZqJ (hg x (gR x hx).1) (gR x hx).2 hp
 refine⟨λxs css tvs m' q=>∃(i:Nat)(L:List T)(a:Option Addr)(cc:Nat),i<=seg.length/\xs=[.slice a L.length cc,.bool ((seg.take i).any λx=>(Zbw c.n x).k == 1),.int .i64 i]/\tvs=[.slice a L.length cc]/\rowRd m' a (Rx.ZcM L)/\(∀x∈L,Rep m' x/\x.good=true)/\L.map T.er=(ZcC false ((seg.take i).map (Zbw c.n))).map T.er/\q=seg.length - i,⟨_,0,[],none,0,by omega,rfl,rfl,.inl rfl,by simp,rfl,rfl⟩,?_⟩
 rintro a3 n3 c3 b3 z3 a4 n4 c4 m2 q2 aP ⟨i,L,a',cc,hi,aZ,cA,lJ,kB,eV,hq⟩
 simp only[List.cons.injEq,Value.slice.injEq,Value.bool.injEq,Value.int.injEq,true_and,and_true]at aZ cA
 obtain⟨⟨rfl,rfl,rfl⟩,rfl,rfl⟩:=aZ
 obtain⟨rfl,rfl,rfl⟩:=cA
 have bY:=mLt aM aP
 have w9:L.length<=i:=by
  have h3:=congrArg List.length eV
  rw[List.length_map,List.length_map]at h3
  have h4:∀(e:Bool)(l:List T),(ZcC e l).length<=l.length:=λe l=>by
   induction l generalizing e with
   | nil=>exact Nat.le_refl _
   | cons x l ih=>unfold ZcC;split <;> simp <;> have:=ih (e||x.k == 1) <;> omega
  have h5:=h4 false ((seg.take i).map (Zbw c.n))
  rw[List.length_map,List.length_take]at h5
  omega
 refine Zab (λaS=>?_) (λbM=>?_)
 ·have aQ:i < seg.length:=by have:=of_decide_eq_true aS;omega
  obtain⟨x,hx⟩:=Zca aQ
  have cN:=List.mem_of_getElem? hx
  obtain⟨b0,o0,eH,dN⟩:=ZcH (aR.mono bY) hx
  have cS:=(cD x (gR x cN).1).mono bY
  have iH:=ZbL (gR x cN).1
  have hw:IntKind.i64.wrap ((i:Int)+1)=((i+1:Nat):Int):=by rw[ZaB (by omega) (by omega)];rfl
  simp only[hw]
  have eP:=ZjV (Zbw c.n x) false ((seg.take i).map (Zbw c.n))
  rw[Bool.false_or,List.any_map]at eP
  have dR:(seg.take (i+1)).map (Zbw c.n)=(seg.take i).map (Zbw c.n)++[Zbw c.n x]:=by rw[Zb8 hx,List.map_append];rfl
  have eL:(seg.take (i+1)).any (λx=>(Zbw c.n x).k == 1)=((seg.take i).any (λx=>(Zbw c.n x).k == 1)||((Zbw c.n x).k == 1)):=by rw[Zb8 hx,List.any_append];simp
  have oQ:((λy:T=>y.k == 1)∘Zbw c.n)=λx=>(Zbw c.n x).k == 1:=rfl
  rw[oQ]at eP
  rw[<-dR]at eP
  refine⟨b0,o0,eH,⟨by omega,by omega⟩,_,_,_,_,_,_,_,_,dN,λb5=>Zaa rfl (Zag (Zzc x c.n m2 cS (hg x (gR x cN).1) (by omega) (Zhp (cJ x (gR x cN).1)) (gR x cN).2) ZaF (ZbR λt' m3 aX hr' ⟨ht',gA⟩ b6=>?_))⟩
  have hk:t'.k=(Zbw c.n x).k:=by rw[<-Zv3,ht']
  have nX:=(qN x cN).1
  generalize (seg.take i).any (λx=>(Zbw c.n x).k == 1)=sn at *
  rw[<-hk]at eP eL
  refine⟨!(t'.k == 1)||!sn,?_,Zab (λhy=>?_) (λhn=>?_)⟩
  ·refine Zab (λh=>⟨by trivial,by trivial,by rw[h];rfl⟩) (λh=>⟨by trivial,by trivial,by rw[h];rfl⟩)
  ·intro b7 gS
   have gT:=Mem.le_add gS t'.cs
   rw[if_pos (by
    simp only[Bool.or_eq_true,Bool.not_eq_true',beq_eq_false_iff_ne]at hy
    exact hy)]at eP
   refine⟨.inl (by trivial),Rx.ZcM L,t'.cs,by rw[ZaN],rfl,(lJ.mono aX).mono gT,.inr ⟨b7,0,rfl,λj v hj=>by rw[Nat.zero_add,Mem.add_same];exact hj⟩,by have:=Zza [t'];simpa[Rx.ZcM]using this,by omega,by omega,λa8 c8 m8 fA fM=>⟨sn||(t'.k == 1),?_,?_⟩⟩
   ·refine Zab (λh=>⟨by trivial,by trivial,by rw[h];rfl⟩) (λh=>⟨by trivial,by trivial,by rw[h];rfl⟩)
   ·refine⟨by trivial,seg.length - (i+1),by omega,i+1,L++[t'],a8,c8,by omega,?_,?_,?_,?_,?_,rfl⟩
    ·rw[eL,List.length_append];rfl
    ·rw[List.length_append];rfl
    ·rw[Zd6];exact fM
    ·have lK:=mLt gT fA
     intro y hy
     rcases List.mem_append.1 hy with hy|hy
     ·exact⟨(kB y hy).1.mono (mLt aX lK),(kB y hy).2⟩
     ·rw[List.mem_singleton]at hy;subst hy
      exact⟨hr'.mono lK,ZjW ht' nX⟩
    ·rw[eP,List.map_append,List.map_append,eV]
     simp only[List.map_cons,List.map_nil,ht',(qN x cN).2.2.2]
  ·rw[if_neg (by
    simp only[Bool.or_eq_false_iff,Bool.not_eq_false',beq_iff_eq]at hn
    rintro(h|h)
    ·exact h hn.1
    ·rw[hn.2]at h;cases h),List.append_nil]at eP
   refine⟨sn||(t'.k == 1),?_,?_⟩
   ·refine Zab (λh=>⟨by trivial,by trivial,by rw[h];rfl⟩) (λh=>⟨by trivial,by trivial,by rw[h];rfl⟩)
   ·exact⟨by trivial,seg.length - (i+1),by omega,i+1,L,_,_,by omega,by rw[eL],rfl,lJ.mono aX,λy hy=>⟨(kB y hy).1.mono aX,(kB y hy).2⟩,by rw[eP];exact eV,rfl⟩
 ·have mV:i=seg.length:=by have:=of_decide_eq_false bM;omega
  subst mV
  rw[List.take_length]at eV
  obtain⟨x0,gC⟩:=Zca (l:=subs) (k:=c.f) (by omega)
  have nA:=List.mem_of_getElem? gC
  have mA:=hg x0 nA
  have lY:=hf.head c.f x0 (Nat.le_refl _) (by omega) gC
  obtain⟨b0,o0,eH,dN⟩:=ZcH ((ZaL hL).mono bY) gC
  have uZ:=(cD x0 nA).mono bY
  refine⟨λ_ _ _=>Zz1 (Zan x0),b0,o0,eH,⟨by omega,by omega⟩,_,_,_,_,_,_,_,_,dN,_,rfl,Zrg x0 m2 uZ (Zhp (cJ x0 nA)),ZgR,?_⟩
  rintro a5 n5 c5 m3 aX ⟨a5',c5',sd,hH,AG⟩
  simp only[Value.slice.injEq]at sd
  obtain⟨rfl,rfl,rfl⟩:=sd
  refine⟨⟨by omega,by omega⟩,λM dY eZ=>?_⟩
  have fK:((Zan x0).take c.n).length=c.n:=by rw[List.length_take,Nat.min_eq_left lY]
  have iW:c.n<=300:=by
   have h3:=ZgI x0
   have h4:=ZbL nA
   omega
  have eC:=ZgS (hH.mono eZ) c.n
  have lL:=Zi6 (ZaQ a5 0 c5 8) (c5 - 0) ((Zan x0).take c.n) M (ZaL eC) (by omega)
  rw[fK]at lL
  refine⟨_,lL,(λv _ _ ⟨a,c,e,_⟩=>by rw[e];rfl),?_⟩
  rintro a6 n6 c6 m4 bG ⟨a6',c6',rW,lI,AH,_⟩
  simp only[Value.slice.injEq]at rW
  obtain⟨rfl,rfl,rfl⟩:=rW
  have se:=mLt dY bG
  have dF:=λx hx=>Zd9 mA x (List.mem_of_mem_take (i:=c.n) hx)
  have pO:szL seg<=szL subs:=by
   have h3:=ZcK subs c.t
   have h4:=ZcK (subs.take c.t) c.f
   rw[gP]at h4
   omega
  have lM:=ZgH hp (l:=seg) λx hx=>⟨hg x (gR x hx).1,(gR x hx).2⟩
  have gE:=Zme (e:=false) λx hx=>(lM.1 x hx).1
  have yX:szL L<=300:=by rw[Zer eV];omega
  have u0:∀x∈L,x.clean=true:=λx hx=>Zbg (kB x hx).2 (by have:=ZbL hx;omega)
  have u4:L≠[]:=by
   intro e
   rw[e]at eV
   have h3:=congrArg List.length eV
   rw[List.length_map]at h3
   match yY:seg.map (Zbw c.n),eV with
   | [],_=>
    have:=congrArg List.length yY
    rw[List.length_map,dS]at this
    simp at this
    omega
   | y::r,eV=>
    have:=ZtJ (e:=false) (x:=y) (l:=r) rfl
    rw[List.map_nil]at eV
    exact this (by simpa using eV.symm)
  have yZ:RepL m4 a4 L:=Zd7 (lJ.mono se) (λx hx=>(kB x hx).1.mono se) (by have:=ZbY L;omega)
  refine Zag (Zz0 L a4 c4 m4 yZ (by have:=ZbY L;omega) u0) ZaF (ZbR λo m5 dA sf ⟨ja,jc,hj⟩ b7 gS=>?_)
  have jS:o.er=Zeq (ZcC false (seg.map (Zbw c.n))):=by
   rw[ZqI (λx hx=>(kB x hx).2) u4 (by omega) hj]
   exact ZjU eV
  have u5:=Zfi (L:=ZcC false (seg.map (Zbw c.n))) λy hy=>(lM.1 y (ZgG hy)).1
  have sg:o.good=true:=ZjW jS u5.good
  have za:o.nodes.length<=301:=by
   rw[Zmg jS]
   have:=u5.sz
   omega
  have gT:=Mem.le_add gS o.cs
  refine⟨.inl (by trivial),Rx.ZcM ((Zan x0).take c.n),o.cs,by rw[ZaN,fK],rfl,(lI.mono dA).mono gT,.inr ⟨b7,0,rfl,λj v hj=>by rw[Nat.zero_add,Mem.add_same];exact hj⟩,by have:=Zza [o];simpa[Rx.ZcM]using this,by omega,by omega,λa8 c8 m6 eA fM=>?_⟩
  have oC:m4.le m6:=mLt dA (mLt gT eA)
  have zb:RepL m6 a8 ((Zan x0).take c.n++[o]):=Zd7 (by rw[Zd6];exact fM) (λx hx=>by
   rcases List.mem_append.1 hx with hx|hx
   ·exact(ZbN eC x hx).mono (mLt bG oC)
   ·rw[List.mem_singleton]at hx;subst hx;exact sf.mono (mLt gT eA)) (by rw[List.length_append,fK];simp;omega)
  have xb:∀x∈(Zan x0).take c.n++[o],x.good=true:=λx hx=>by
   rcases List.mem_append.1 hx with hx|hx
   ·exact(dF x hx).1
   ·rw[List.mem_singleton]at hx;subst hx;exact sg
  have zc:szL ((Zan x0).take c.n++[o])<=700:=by
   rw[Zcn,ZdN,(ZiP dF).1,fK];omega
  have si:((Zan x0).take c.n++[o]).length=c.n+1:=by rw[List.length_append,fK];rfl
  have lN:=Zvz ((Zan x0).take c.n++[o]) a8 c8 m6 zb (by omega) (λx hx=>Zbg (xb x hx) (by have:=ZbL hx;omega))
  rw[si]at lN
  refine Zag lN ZaF (ZbR λone m7 cT dG ⟨ka,kc,hk⟩ b8=>?_)
  have sj:one.er=Zwl subs c:=by
   rw[Zmd xb (by omega) hk]
   unfold Zwl
   rw[gC,gP]
   refine ZjT ?_
   simp only[Option.getD_some,List.map_append,List.map_cons,List.map_nil]
   rw[jS,u5.er]
  have tf:m2.le m7:=mLt se (mLt oC cT)
  have lO:=mLt bY tf
  refine⟨λ_ _ _=>λv m' _=>∃a' c',v=.slice a' (c.f+1+(subs.length - c.t)) c'/\rowRd m' a' (Rx.ZcM (subs.take c.f++one::subs.drop c.t)),⟨by omega,by omega⟩,λb9 zd=>⟨⟨by omega,by omega⟩,λb10 u6=>?_⟩⟩
  have sk:=Mem.le_add zd one.cs
  have lP:=Mem.le_add u6 [.slice (ZaQ a 0 cap 8) (c.f - 0) (cap - 0),.slice (some ⟨b9,0,none⟩) 1 1,.slice (ZaQ a c.t cap 8) (subs.length - c.t) (cap - c.t)]
  have hP:=Zo6 [⟨ZaQ a 0 cap 8,c.f - 0,cap - 0,Rx.ZcM (subs.take c.f)⟩,⟨some ⟨b9,0,none⟩,1,1,one.cs⟩,⟨ZaQ a c.t cap 8,subs.length - c.t,cap - c.t,Rx.ZcM (subs.drop c.t)⟩] (some ⟨b10,0,none⟩) 3 (m:=((m7.add b9 one.cs).add b10 [.slice (ZaQ a 0 cap 8) (c.f - 0) (cap - 0),.slice (some ⟨b9,0,none⟩) 1 1,.slice (ZaQ a c.t cap 8) (subs.length - c.t) (cap - c.t)])) ⟨λi q hi=>⟨b10,0,rfl,?_⟩,λq hq=>?_⟩ (by simp[Zo5];omega) (by simp)
  rotate_left
  ·rw[Nat.zero_add,Mem.add_same]
   match i,hi with
   | 0,hi=>cases hi;rfl
   | 1,hi=>cases hi;rfl
   | 2,hi=>cases hi;rfl
   | i+3,hi=>simp at hi
  ·simp only[List.mem_cons,List.not_mem_nil,or_false]at hq
   rcases hq with rfl|rfl|rfl
   ·exact⟨(ZaL (ZgS hL c.f)).mono (mLt lO (mLt sk lP)),by rw[ZaN,List.length_take,Nat.min_eq_left (by omega)];rfl,Zza _⟩
   ·exact⟨.inr ⟨b9,0,rfl,λj v hj=>lP _ _ _ (by rw[Nat.zero_add,Mem.add_same];exact hj)⟩,rfl,by have:=Zza [one];simpa[Rx.ZcM]using this⟩
   ·exact⟨(ZaL (ZmB hL bE bN)).mono (mLt lO (mLt sk lP)),by rw[ZaN,List.length_drop],Zza _⟩
  have r5:Zo5 [⟨ZaQ a 0 cap 8,c.f - 0,cap - 0,Rx.ZcM (subs.take c.f)⟩,⟨some ⟨b9,0,none⟩,1,1,one.cs⟩,⟨ZaQ a c.t cap 8,subs.length - c.t,cap - c.t,Rx.ZcM (subs.drop c.t)⟩]=c.f+1+(subs.length - c.t):=by simp[Zo5];omega
  have sm:Zyc [⟨ZaQ a 0 cap 8,c.f - 0,cap - 0,Rx.ZcM (subs.take c.f)⟩,⟨some ⟨b9,0,none⟩,1,1,one.cs⟩,⟨ZaQ a c.t cap 8,subs.length - c.t,cap - c.t,Rx.ZcM (subs.drop c.t)⟩]=Rx.ZcM (subs.take c.f++one::subs.drop c.t):=by simp[Zyc,Rx.ZcM]
  rw[r5,sm]at hP
  refine⟨_,rfl,hP,(λv _ _ ⟨a,c,e,_⟩=>by rw[e];rfl),?_⟩
  rintro a11 n11 c11 m8 fA ⟨a11',c11',so,pP⟩
  simp only[Value.slice.injEq]at so
  obtain⟨rfl,rfl,rfl⟩:=so
  intro M' xd oD pQ ze
  have nB:=mLt lO xd
  refine⟨M',nB,Mem.le_refl _,subs.take c.f++one::subs.drop c.t,a11,c11,?_,Zd7 (pP.mono ze) (λx hx=>?_) ?_,?_,λx hx=>?_⟩
  ·rw[List.length_append,List.length_cons,List.length_take,List.length_drop,Nat.min_eq_left (by omega)]
   congr 1;omega
  ·rcases List.mem_append.1 hx with hx|hx
   ·exact(cD x (List.mem_of_mem_take hx)).mono nB
   ·rcases List.mem_cons.1 hx with rfl|hx
    ·exact dG.mono xd
    ·exact(cD x (List.mem_of_mem_drop hx)).mono nB
  ·rw[List.length_append,List.length_cons,List.length_take,List.length_drop];omega
  ·unfold Zh8
   rw[List.map_append,List.map_append,List.map_cons,List.map_cons,sj]
   have:=(ZtN hg hf).er
   rw[this]
  ·rcases List.mem_append.1 hx with hx|hx
   ·exact cJ x (List.mem_of_mem_take hx)
   ·rcases List.mem_cons.1 hx with rfl|hx
    ·exact Zdc Zlm hk
    ·exact cJ x (List.mem_of_mem_drop hx)
end Go.Proofs.Ytfgfahnakepegaa
set_option linter.unusedVariables false
set_option linter.unusedSimpArgs false
set_option linter.unusedSectionVars false
namespace Go.Proofs.Ytfgfahnakepegaa
open Go Go.Eng Go.Rx Go.Proofs Go.RowKit
set_option maxRecDepth 100000
theorem Zt7(t:T)(m:Mem)(hr:Rep m t)(hz:t.nodes.length<=10000):CX Try.prog 52 #[t.v] m [] (ZdM λt'=>t'.er=t.er/\(t'.caps/\NewT m t')):=by
 apply ZsM
 unfold Zoh
 intro b m1 aM _ b1
 have hl:t.light=true:=by unfold T.light;exact decide_eq_true hz
 have h:=Zj2 t m1 (hr.mono aM)
 rw[hl]at h
 refine Zai h λm2 aP=>ZrP rfl (Zag (ZgP t m2 (hr.mono (mLt aM aP)) hz) ZaF (ZbR λt' m3 aX hr' ht'=>?_))
 exact⟨m3,mLt aM (mLt aP aX),Mem.le_refl _,t',rfl,hr',ht'.1,ht'.2.1,ht'.2.2.less (mLt aM aP)⟩
def ZvE(r:T×Nat):Value->Mem->List (List Value)->Prop:=λv m' css=>∃t':T,v=t'.v/\Rep m' t'/\t'.er=r.1/\t'.caps/\css=[[.int .i64 (r.2:Nat)]]
theorem ZsO{r:T×Nat}:∀(v:Value)(m':Mem) (css:List (List Value)),ZvE r v m' css->Shape.fits (.agg [.int .u8,.int .u64,.int .u64,.int .u64,.int .u64,.int .i64,.int .i64,.slice]) v=true:=λv _ _ ⟨t,e,_⟩=>by rw[e];rfl
def ZA0(b:Nat)(n:Nat):Box:=⟨b,[.int .i64 (n:Nat)],3,1,false,true⟩
theorem Zze{rs:Nat->T}{L:List T}{i:Nat}:(List.range (i+1)).map rs=(List.range i).map rs++[rs i]:=by rw[List.range_succ,List.map_append];rfl
def Zx5(m:Mem)(r:T×Nat):Value->Mem->List (List Value)->Prop:=λv m' css=>∃t':T,v=t'.v/\Rep m' t'/\t'.er=r.1/\(t'.caps/\NewT m t')/\css=[[.int .i64 (r.2:Nat)]]
theorem ZsP{m:Mem}{r:T×Nat}:∀(v:Value)(m':Mem) (css:List (List Value)),Zx5 m r v m' css->Shape.fits (.agg [.int .u8,.int .u64,.int .u64,.int .u64,.int .u64,.int .i64,.int .i64,.slice]) v=true:=λv _ _ ⟨t,e,_⟩=>by rw[e];rfl
theorem Zzf{P:Program}{g:FuncId}{args:Array Value}{m m0:Mem}{X:List Box}{r:T×Nat}(h:CX P g args m X (Zx5 m0 r)):CX P g args m X (ZvE r):=h.mono λ_ _ _ _ ⟨t',e,hr',h1,h2,h3⟩=>⟨t',e,hr',h1,h2.1,h3⟩
theorem Zi8(c:C4)(m:Mem)(nb cb wb:Nat)(jT:m.reads cb 0 [.int .i64 (c.a:Nat),.int .i64 (c.f:Nat),.int .i64 (c.t:Nat),.int .i64 (c.n:Nat)])(mB:m wb 0=some (.func (.func 99) #[] #[Zep nb,Zep cb,Zep wb]))
  (t:T) (n:Nat) (hn:n<=100000) (hr:Rep m t) (hg:t.good=true) (cY:t.caps) (hz:t.nodes.length<=300) (cB:t.k=4->n=c.a->Fit t.subs c)
  (cR:∀L:List T,L.length<=300->(∀x∈L,x.caps)->(if t.k=4/\n=c.a then L.map T.er=(Zh8 t.subs c).map T.er else L=t.subs)->∃(rs:Nat->T)(cn:Nat->Nat),cn 0=(if t.k=4 then n+1 else n)/\
   (∀i x,L[i]?=some x->∀m2,m.le m2->Rep m2 x->CX Try.prog 99 #[x.v,Zep nb,Zep cb,Zep wb] m2 [ZA0 nb (cn i)] (ZvE (rs i,cn (i+1))))/\
   (∀i,i < L.length->(rs i).good=true/\(rs i).er=rs i)/\szL ((List.range L.length).map rs)<=900/\t.built ((List.range L.length).map rs)=(t.cutAt c n).1/\cn L.length=(t.cutAt c n).2/\(t.k=4->L≠[])/\(t.k=5->L.length=1/\(rs 0).k≠1)/\(t.k=6->L.length=1)):
  CX Try.prog 99 #[t.v,Zep nb,Zep cb,Zep wb] m [ZA0 nb n] (Zx5 m (t.cutAt c n)):=by
 apply Zie t.k t.s0 t.s1 t.s2 t.s3 t.mn t.mx t.a t.subs.length t.c nb n cb 0 wb 0
 unfold ZeG
 intro b m1 aM _ b1
 have mK:IntKind.i64.wrap ((n:Int)+1)=((n+1:Nat):Int):=by rw[ZaB (by omega) (by omega)];rfl
 have u9:szL t.subs<=300:=by rw[Zcr]at hz;omega
 have lQ:=(hr.mono aM).subs
 have fZ:=(Zam hg).2
 have rk:m1 cb (0+0)=some (.int .i64 (c.a:Nat)):=aM _ _ _ (jT 0 _ rfl)
 have lR:∀x∈t.subs,x.caps:=λx hx=>Zho cY hx
 simp only[mK]
 refine⟨λxs css tvs m'=>∃(L:List T)(a:Option Addr)(cc:Nat)(n1:Nat),xs=[.slice a L.length cc]/\css=[[.int .i64 (n1:Nat)]]/\n1=(if t.k=4 then n+1 else n)/\RepL m' a L/\L.length<=300/\(∀x∈L,x.caps)/\(if t.k=4/\n=c.a then L.map T.er=(Zh8 t.subs c).map T.er else L=t.subs),?_,?_⟩
 ·refine Zab (λhk=>⟨_,rk,Zaa rfl (Zab (λvb=>?_) (λvb=>?_))⟩) (λhk=>?_)
  ·have hk':t.k=4:=by simpa using hk
   have nC:n=c.a:=by simp[RowKit.intOf]at vb;omega
   have hf:=cB hk' nC
   refine⟨_,_,_,_,λj v hj=>aM _ _ _ (jT j v hj),Zag (ZAn t.subs t.a t.c c m1 lQ (Zhp cY) fZ lR u9 hf) ZsN ?_⟩
   rintro a2 n2 c2 m2 aP ⟨L,a',c',hv,hL,eV,qO⟩
   simp only[Value.slice.injEq]at hv
   obtain⟨rfl,rfl,rfl⟩:=hv
   refine⟨by trivial,L,_,_,n+1,rfl,rfl,by rw[if_pos hk'],hL,?_,qO,by rw[if_pos ⟨hk',nC⟩];exact eV⟩
   have h1:=congrArg List.length eV
   rw[List.length_map,List.length_map]at h1
   unfold Zh8 at h1
   rw[List.length_append,List.length_cons,List.length_take,List.length_drop]at h1
   have:=ZbY t.subs
   have:=hf.two
   have:=hf.le
   omega
  ·have hk':t.k=4:=by simpa using hk
   have nC:¬n=c.a:=λe=>by subst e;simp[RowKit.intOf]at vb
   exact⟨by trivial,t.subs,t.a,t.c,n+1,rfl,rfl,by rw[if_pos hk'],lQ,by have:=ZbY t.subs;omega,lR,by rw[if_neg (λh=>nC h.2)]⟩
  ·have hk':¬t.k=4:=by simpa using hk
   exact⟨by trivial,t.subs,t.a,t.c,n,rfl,rfl,by rw[if_neg hk'],lQ,by have:=ZbY t.subs;omega,lR,by rw[if_neg (λh=>hk' h.1)]⟩
 rintro a2 n2 c2 cs m2 aP ⟨L,a',c',n1,aZ,cC,mF,hL,ve,qO,pR⟩
 simp only[List.cons.injEq,Value.slice.injEq,and_true]at aZ cC
 obtain⟨rfl,rfl,rfl⟩:=aZ
 subst cC
 obtain⟨rs,cn,vf,cQ,sq,vg,pS,vh,vj,h5,h6⟩:=cR L ve qO pR
 rw[mF,<-vf]
 have bY:=mLt aM aP
 have aR:=ZaL hL
 have cD:=ZbN hL
 refine⟨⟨by trivial,by omega,by omega,by omega⟩,λb3=>?_⟩
 refine⟨λxs css tvs m' q=>∃(i:Nat)(O:List T)(a:Option Addr)(cc:Nat),i<=L.length/\O.length=i/\xs=[.slice a O.length cc,.int .i64 i]/\css=[[.int .i64 (cn i:Nat)]]/\tvs=[.slice a O.length cc]/\rowRd m' a (Rx.ZcM O)/\(∀x∈O,Rep m' x/\x.caps)/\O.map T.er=(List.range i).map rs/\q=L.length - i,⟨_,0,[],some ⟨b3,0,none⟩,_,by omega,rfl,rfl,rfl,rfl,.inl rfl,by simp,rfl,rfl⟩,?_⟩
 rintro a4 n4 c4 z cs4 a5 n5 c5 m3 q aX ⟨i,O,a',cc,hi,iN,aZ,cC,cA,dO,nD,jF,hq⟩
 simp only[List.cons.injEq,Value.slice.injEq,Value.int.injEq,true_and,and_true]at aZ cA cC
 obtain⟨⟨rfl,rfl,rfl⟩,rfl⟩:=aZ
 obtain⟨rfl,rfl,rfl⟩:=cA
 subst cC
 have bT:=mLt bY aX
 refine Zab (λaS=>?_) (λbM=>?_)
 ·have aQ:i < L.length:=by have:=of_decide_eq_true aS;omega
  obtain⟨x,hx⟩:=Zca aQ
  obtain⟨b0,o0,eH,dN⟩:=ZcH (aR.mono aX) hx
  have cS:=(cD x (List.mem_of_getElem? hx)).mono aX
  have hw:IntKind.i64.wrap ((i:Int)+1)=((i+1:Nat):Int):=by rw[ZaB (by omega) (by omega)];rfl
  simp only[hw]
  refine⟨b0,o0,eH,⟨by omega,by omega⟩,_,_,_,_,_,_,_,_,dN,λb6=>Zaa rfl ⟨_,bT _ _ _ mB,_,[],[Zep nb,Zep cb,Zep wb],rfl,_,trivial,cQ i x hx m3 bT cS,ZsO,?_⟩⟩
  rintro k' s0' s1' s2' s3' mn' mx' a6 n6 c6 m4 bG cs6 ⟨t',hv,hr',ht',gA,sr⟩ b7 gS
  simp only[T.v,Value.agg.injEq,Array.mk.injEq,List.cons.injEq,Value.int.injEq,Value.slice.injEq,true_and,and_true]at hv
  obtain⟨rfl,rfl,rfl,rfl,rfl,rfl,rfl,rfl,rfl,rfl⟩:=hv
  obtain rfl:cs6=[.int .i64 (cn (i+1):Nat)]:=by simpa using sr
  have gT:=Mem.le_add gS t'.cs
  refine⟨.inl (by trivial),Rx.ZcM O,t'.cs,by rw[ZaN],rfl,(dO.mono bG).mono gT,.inr ⟨b7,0,rfl,λj v hj=>by rw[Nat.zero_add,Mem.add_same];exact hj⟩,by have:=Zza [t'];simpa[Rx.ZcM]using this,by omega,by omega,λa8 c8 m8 fA fM=>?_⟩
  refine⟨by trivial,by trivial,L.length - (i+1),by omega,i+1,O++[t'],a8,c8,by omega,by rw[List.length_append,iN];rfl,?_,rfl,?_,by rw[Zd6];exact fM,?_,?_,rfl⟩
  ·rw[List.length_append];rfl
  ·rw[List.length_append];rfl
  ·have lK:=mLt gT fA
   intro y hy
   rcases List.mem_append.1 hy with hy|hy
   ·exact⟨(nD y hy).1.mono (mLt bG lK),(nD y hy).2⟩
   ·rw[List.mem_singleton]at hy;subst hy
    exact⟨hr'.mono lK,gA⟩
  ·rw[Zze (L:=L),List.map_append,jF]
   simp only[List.map_cons,List.map_nil,ht']
 ·have mV:i=L.length:=by have:=of_decide_eq_false bM;omega
  subst mV
  have hs:=Zc5 hg
  have dQ:=Zll (Zam hg).1
  have zf:O.length<=300:=by omega
  have xe:=λ(M:Mem)(h:m3.le M)=>(Zd7 (dO.mono h) (λx hx=>(nD x hx).1.mono h) (by omega):RepL M _ O)
  have vk:∀x∈O,x.good=true:=by
   intro x hx
   obtain⟨j,hj⟩:=List.getElem?_of_mem hx
   have h1:=congrArg (λl=>l[j]?) jF
   simp only[List.getElem?_map,hj,Option.map_some]at h1
   have wX:=(List.getElem?_eq_some_iff.1 hj).1
   rw[List.getElem?_range (by omega)]at h1
   simp only[Option.map_some,Option.some.injEq]at h1
   exact ZjW h1 (sq j (by omega)).1
  have pT:O.map T.er=((List.range L.length).map rs).map T.er:=by
   rw[jF,ZyM λx hx=>?_]
   obtain⟨j,hj,rfl⟩:=List.mem_map.1 hx
   exact(sq j (List.mem_range.1 hj)).2
  have zg:szL O<=900:=by rw[Zer pT];exact vg
  have nE:∀x∈O,x.clean=true:=λx hx=>Zbg (vk x hx) (by have:=ZbL hx;omega)
  have fin:∀(t':T)(M:Mem),m3.le M->Rep M t'->t'.er=t.built ((List.range L.length).map rs)->(t'.caps/\NewT m t')->∃m'':Mem,m.le m''/\m''.le M/\Zx5 m (t.cutAt c n) t'.v m'' [[.int .i64 (cn L.length:Nat)]]:=λt' M hM hr' he hc=>⟨M,mLt bT hM,Mem.le_refl _,t',rfl,hr',by rw[he,pS],hc,by rw[vh]⟩
  refine Zab (λh3=>?_) (λh3=>Zab (λh4=>?_) (λh4=>Zab (λh5'=>?_) (λh5'=>Zab (λh6'=>?_) (λh6'=>?_))))
  ·have eO:t.k=3:=by simpa using h3
   refine Zag (Zwu O _ _ m3 (xe m3 (Mem.le_refl _)) (by omega) nE) ZaF (ZbR λt' m4 bG hr' ⟨⟨ja,jc,hj⟩,hn⟩=>⟨by trivial,fin t' m4 bG hr' ?_ ⟨Zdc Zlm hj,hn.less bT⟩⟩)
   rw[Zmd vk (by omega) hj]
   unfold T.built
   rw[if_pos eO]
   exact ZjT pT
  ·have qz:t.k=4:=by simpa using h4
   have bS:O≠[]:=λe=>by
    have:=vj qz
    rw[e]at iN
    exact this (List.eq_nil_of_length_eq_zero iN.symm)
   refine Zag (Zzb O _ _ m3 (xe m3 (Mem.le_refl _)) (by omega) nE) ZaF (ZbR λt' m4 bG hr' ⟨⟨ja,jc,hj⟩,hn⟩=>⟨by trivial,fin t' m4 bG hr' ?_ ⟨Zdc ZiM hj,hn.less bT⟩⟩)
   rw[ZqI vk bS (by omega) hj]
   unfold T.built
   rw[if_neg (by omega),if_pos qz]
   exact ZjU pT
  ·have vm:t.k=5:=by simpa using h5'
   obtain⟨kY,iC⟩:=h5 vm
   rw[kY]at jF
   match O,iN,jF,dO,nD,nE with
   | [],iN,_,_,_,_=>simp at iN;omega
   | _::_::_,iN,_,_,_,_=>simp at iN;omega
   | [o],_,jF,dO,nD,nE=>
   have jS:o.er=rs 0:=by simpa using jF
   have hb:=(hs.2.2.1 vm).2
   obtain⟨b0,o0,eH,dN⟩:=ZcH dO (i:=0) (t:=o) rfl
   refine⟨λ_ _ _=>ZdM λt'=>ZzZ o t.mn t.mx t'/\NewT m3 t',b0,o0,eH,⟨by omega,by simp⟩,_,_,_,_,_,_,_,_,dN,_,rfl,ZvA o t.mn t.mx m3 (nD o (by simp)).1 (nE o (by simp)),ZaF,ZbR λt' m4 bG hr' ⟨hj,hn⟩ M dP dY=>⟨by trivial,?_⟩⟩
   have bC:o.k≠1:=by rw[<-Zv3,jS];exact iC
   obtain⟨ja,jc,hj⟩:=Zsj hj hb bC
   refine fin t' M dP (hr'.mono dY) ?_ ⟨hj.2,hn.less bT⟩
   have sg:(Zb5 5 t.mn t.mx ja jc [o]).good=true:=ZqM hb bC (ZgF (nE o (by simp))).1
   rw[Ze4 hj (Zbg sg (by
    rw[Zcr]
    show 1+szL [o]<=_
    omega))]
   unfold T.built
   rw[if_neg (by omega),if_neg (by omega)]
   have nF:=hs.2.2.2.2.2.1 (by omega)
   rw[vm,nF.1,nF.2.1,nF.2.2.1,nF.2.2.2,kY]
   show T.node 5 0 0 0 0 t.mn t.mx none 0 [o.er]=_
   rw[jS];rfl
  ·have xf:t.k=6:=by simpa using h6'
   have kY:=h6 xf
   rw[kY]at jF
   match O,iN,jF,dO,nD,nE with
   | [],iN,_,_,_,_=>simp at iN;omega
   | _::_::_,iN,_,_,_,_=>simp at iN;omega
   | [o],_,jF,dO,nD,nE=>
   have jS:o.er=rs 0:=by simpa using jF
   obtain⟨b0,o0,eH,dN⟩:=ZcH dO (i:=0) (t:=o) rfl
   refine⟨b0,o0,eH,⟨by omega,by simp⟩,_,_,_,_,_,_,_,_,dN,Zag (Zlx o m3 (nD o (by simp)).1) ZaF (ZbR λt' m4 bG hr' ⟨⟨ja,jc,hj⟩,hn⟩=>⟨by trivial,?_⟩)⟩
   refine fin t' m4 bG hr' ?_ ⟨hj.2,hn.less bT⟩
   have sg:(Zb5 6 0 0 ja jc [o]).good=true:=ZpH (ZgF (nE o (by simp))).1
   rw[Ze4 hj (Zbg sg (by
    rw[Zcr]
    show 1+szL [o]<=_
    omega))]
   unfold T.built
   rw[if_neg (by omega),if_neg (by omega)]
   have nF:=hs.2.2.2.2.2.1 (by omega)
   have eA:=hs.2.2.2.2.2.2 (by omega)
   rw[xf,nF.1,nF.2.1,nF.2.2.1,nF.2.2.2,eA.1,eA.2,kY]
   show T.node 6 0 0 0 0 0 0 none 0 [o.er]=_
   rw[jS];rfl
  ·have nG:t.k=1\/t.k=2:=by
    have e3:¬t.k=3:=by simpa using h3
    have e4:¬t.k=4:=by simpa using h4
    have e5:¬t.k=5:=by simpa using h5'
    have e6:¬t.k=6:=by simpa using h6'
    rcases dQ with h|h|h|h|⟨h,_⟩|⟨h,_⟩
    ·exact .inl h
    ·exact .inr h
    all_goals omega
   have bK:=hs.2.2.2.2.1 nG
   refine Zag (Zt7 t m3 (hr.mono bT) (by omega)) ZaF (ZbR λt' m4 bG hr' ht'=>⟨by trivial,fin t' m4 bG hr' ?_ ⟨ht'.2.1,ht'.2.2.less bT⟩⟩)
   have vn:L.length=0:=by
    rw[if_neg (by omega)]at pR
    rw[pR,bK];rfl
   rw[ht'.1,vn,<-Ze5 hg,bK];rfl
theorem Zrj(c:C4)(m:Mem)(nb cb wb:Nat)(jT:m.reads cb 0 [.int .i64 (c.a:Nat),.int .i64 (c.f:Nat),.int .i64 (c.t:Nat),.int .i64 (c.n:Nat)])(mB:m wb 0=some (.func (.func 99) #[] #[Zep nb,Zep cb,Zep wb]))
  (t:T) (n:Nat) (hn:n<=100000) (hr:Rep m t) (hg:t.good=true) (cY:t.caps) (hz:t.nodes.length<=300) (cB:t.k=4->n=c.a->Fit t.subs c)
  (cR:∀L:List T,L.length<=300->(∀x∈L,x.caps)->(if t.k=4/\n=c.a then L.map T.er=(Zh8 t.subs c).map T.er else L=t.subs)->∃(rs:Nat->T)(cn:Nat->Nat),cn 0=(if t.k=4 then n+1 else n)/\
   (∀i x,L[i]?=some x->∀m2,m.le m2->Rep m2 x->CX Try.prog 99 #[x.v,Zep nb,Zep cb,Zep wb] m2 [ZA0 nb (cn i)] (ZvE (rs i,cn (i+1))))/\
   (∀i,i < L.length->(rs i).good=true/\(rs i).er=rs i)/\szL ((List.range L.length).map rs)<=900/\t.built ((List.range L.length).map rs)=(t.cutAt c n).1/\cn L.length=(t.cutAt c n).2/\(t.k=4->L≠[])/\(t.k=5->L.length=1/\(rs 0).k≠1)/\(t.k=6->L.length=1)):
  CX Try.prog 99 #[t.v,Zep nb,Zep cb,Zep wb] m [ZA0 nb n] (ZvE (t.cutAt c n)):=
 Zzf (Zi8 c m nb cb wb jT mB t n hn hr hg cY hz cB cR)
theorem Zi9(c:C4)(m:Mem)(nb cb wb:Nat)(jT:m.reads cb 0 [.int .i64 (c.a:Nat),.int .i64 (c.f:Nat),.int .i64 (c.t:Nat),.int .i64 (c.n:Nat)])(mB:m wb 0=some (.func (.func 99) #[] #[Zep nb,Zep cb,Zep wb]))
  (t:T) (n:Nat) (hn:n+t.nodes.length<=100000) (hr:Rep m t) (hg:t.good=true) (cY:t.caps) (hz:t.nodes.length<=300) (ss:c.a < n):
  CX Try.prog 99 #[t.v,Zep nb,Zep cb,Zep wb] m [ZA0 nb n] (ZvE (t.cutAt c n)):=by
 refine Zrj c m nb cb wb jT mB t n (by omega) hr hg cY hz (λ_ h=>by omega) λL ve qO hL=>?_
 rw[if_neg (by omega)]at hL
 subst hL
 have fZ:=(Zam hg).2
 have hs:=Zc5 hg
 have wU:=Zcr t
 have dR:(List.range t.subs.length).map (λi=>((t.subs[i]?).getD T0).er)=t.subs.map T.er:=by
  have:=Zml (l:=t.subs.map T.er) (f:=λi=>((t.subs[i]?).getD T0).er) (λi x hx=>by
   rw[List.getElem?_map]at hx
   obtain⟨y,hy,rfl⟩:=Option.map_eq_some_iff.1 hx
   rw[hy];rfl)
  rwa [List.length_map]at this
 have su:=Ze6 t n hg ss
 refine⟨λi=>((t.subs[i]?).getD T0).er,λi=>(if t.k=4 then n+1 else n)+(ZaA (t.subs.take i)).length,rfl,λi x hx m2 aP cS=>?_,λi hi=>?_,?_,?_,?_,λh4 e=>?_,λh5=>?_,λh6=>?_⟩
 ·have cN:=List.mem_of_getElem? hx
  have iH:=ZbL cN
  have eI:(ZaA (t.subs.take (i+1))).length=(ZaA (t.subs.take i)).length+x.alts.length:=by rw[Zb8 hx,Zdz,List.length_append];simp[ZaA]
  have iI:(ZaA (t.subs.take i)).length+x.nodes.length<=szL t.subs:=by
   have h1:=ZdQ (t.subs.take i)
   have h2:=ZcK t.subs i
   have h3:x.nodes.length<=szL (t.subs.drop i):=by
    refine ZbL (List.mem_of_getElem? (i:=0) ?_)
    rw[List.getElem?_drop];exact hx
   omega
  have q9:(if t.k=4 then n+1 else n)<=n+1/\c.a < (if t.k=4 then n+1 else n):=by split <;> omega
  have ih:=Zi9 c m2 nb cb wb (λj v hj=>aP _ _ _ (jT j v hj)) (aP _ _ _ mB) x ((if t.k=4 then n+1 else n)+(ZaA (t.subs.take i)).length) (by omega) cS (fZ x cN) (Zho cY cN) (by omega) (by omega)
  rw[Ze6 x _ (fZ x cN) (by omega)]at ih
  dsimp only
  rw[hx,eI,<-Nat.add_assoc]
  exact ih
 ·obtain⟨x,hx⟩:=Zca hi
  dsimp only
  rw[hx]
  exact⟨by rw[Zcw];exact fZ x (List.mem_of_getElem? hx),Zd8 x⟩
 ·rw[dR,Zer (l':=t.subs) (by rw[List.map_map];exact List.map_congr_left λz _=>Zd8 z)];omega
 ·rw[dR,su,Ze5 hg]
 ·show(if t.k=4 then n+1 else n)+(ZaA (t.subs.take t.subs.length)).length=_
  rw[List.take_length,su,ZeA,List.length_append]
  split <;> simp <;> omega
 ·have:=hs.2.1 h4
  rw[e]at this;simp at this
 ·obtain⟨⟨x,hx,fP⟩,_⟩:=hs.2.2.1 h5
  rw[hx]
  exact⟨rfl,by show x.er.k≠1;rw[Zv3];exact fP⟩
 ·obtain⟨x,hx⟩:=hs.2.2.2.1 h6
  rw[hx];rfl
termination_by SizeOf.sizeOf t
decreasing_by exact Zdy cN
theorem Zly(c:C4)(m:Mem)(nb cb wb:Nat)(jT:m.reads cb 0 [.int .i64 (c.a:Nat),.int .i64 (c.f:Nat),.int .i64 (c.t:Nat),.int .i64 (c.n:Nat)])(mB:m wb 0=some (.func (.func 99) #[] #[Zep nb,Zep cb,Zep wb]))
  (t:T) (n:Nat) (hn:n+3*t.nodes.length<=90000) (hr:Rep m t) (hg:t.good=true) (cY:t.caps) (hz:t.nodes.length<=120) (hf:ZeB c t.alts n):
  CX Try.prog 99 #[t.v,Zep nb,Zep cb,Zep wb] m [ZA0 nb n] (Zx5 m (t.cutAt c n)):=by
 refine Zi8 c m nb cb wb jT mB t n (by omega) hr hg cY (by omega) (λh4 h=>Zea hf h4 h) λL ve qO hL=>?_
 have fZ:=(Zam hg).2
 have hs:=Zc5 hg
 have wU:=Zcr t
 by_cases hh:t.k=4/\n=c.a
 ·rw[if_pos hh]at hL
  have cB:=Zea hf hh.1 hh.2
  have ho:=ZnZ fZ cB
  have vo:∀x∈L,x.good=true:=λx hx=>by
   have:x.er∈(Zh8 t.subs c).map T.er:=by rw[<-hL];exact List.mem_map.2 ⟨x,hx,rfl⟩
   obtain⟨y,hy,e⟩:=List.mem_map.1 this
   rw[<-Zcw,<-e,Zcw];exact ho.good y hy
  have oW:szL L<=300:=by
   have:=ho.sz
   rw[Zer hL];omega
  have dR:(List.range L.length).map (λi=>((L[i]?).getD T0).er)=L.map T.er:=by
   have:=Zml (l:=L.map T.er) (f:=λi=>((L[i]?).getD T0).er) (λi x hx=>by
    rw[List.getElem?_map]at hx
    obtain⟨y,hy,rfl⟩:=Option.map_eq_some_iff.1 hx
    rw[hy];rfl)
   rwa [List.length_map]at this
  refine⟨λi=>((L[i]?).getD T0).er,λi=>n+1+(ZaA (L.take i)).length,by rw[if_pos hh.1];rfl,λi x hx m2 aP cS=>?_,λi hi=>?_,?_,?_,?_,λh4 e=>?_,λh5=>by omega,λh6=>by omega⟩
  ·have cN:=List.mem_of_getElem? hx
   have iH:=ZbL cN
   have eI:(ZaA (L.take (i+1))).length=(ZaA (L.take i)).length+x.alts.length:=by rw[Zb8 hx,Zdz,List.length_append];simp[ZaA]
   have iI:(ZaA (L.take i)).length<=szL L:=by
    have h1:=ZdQ (L.take i)
    have h2:=ZcK L i
    omega
   have ih:=Zi9 c m2 nb cb wb (λj v hj=>aP _ _ _ (jT j v hj)) (aP _ _ _ mB) x (n+1+(ZaA (L.take i)).length) (by omega) cS (vo x cN) (qO x cN) (by omega) (by omega)
   rw[Ze6 x _ (vo x cN) (by omega)]at ih
   dsimp only
   rw[hx,eI,<-Nat.add_assoc]
   exact ih
  ·obtain⟨x,hx⟩:=Zca hi
   dsimp only
   rw[hx]
   exact⟨by rw[Zcw];exact vo x (List.mem_of_getElem? hx),Zd8 x⟩
  ·rw[dR,Zer (l':=L) (by rw[List.map_map];exact List.map_congr_left λz _=>Zd8 z)];omega
  ·rw[dR,hL,Zc4 hh.1 hh.2]
   unfold T.built
   rw[if_neg (by omega),if_pos hh.1,<-Zln]
  ·show n+1+(ZaA (L.take L.length)).length=_
   rw[List.take_length,Zc4 hh.1 hh.2,Zlo hL]
  ·rw[e]at hL
   exact ho.ne (by simpa using hL.symm)
 ·rw[if_neg hh]at hL
  subst hL
  have oE:=ZgJ hf
  have mF:(if t.k=4 then n+1 else n)<=n+1:=by split <;> omega
  generalize bS:(if t.k=4 then n+1 else n)=n1 at *
  have hl:=ZiR (c:=c) t.subs n1 fZ oE
  have dR:(List.range t.subs.length).map (λi=>((ZaI c t.subs n1).1[i]?).getD T0)=(ZaI c t.subs n1).1:=by
   have:=Zml (l:=(ZaI c t.subs n1).1) (f:=λi=>((ZaI c t.subs n1).1[i]?).getD T0) (λi x hx=>by rw[hx];rfl)
   rwa [hl.1]at this
  refine⟨λi=>((ZaI c t.subs n1).1[i]?).getD T0,λi=>(ZaI c (t.subs.take i) n1).2,rfl,λi x hx m2 aP cS=>?_,λi hi=>?_,?_,?_,?_,λh4 e=>?_,λh5=>?_,λh6=>?_⟩
  ·have cN:=List.mem_of_getElem? hx
   have iH:=ZbL cN
   obtain⟨g1,g2⟩:=Zn1 (c:=c) (n:=n1) hx
   have bE:=Zmk (c:=c) (t.subs.take i) n1 (λx hx=>fZ x (List.mem_of_mem_take hx)) (Zso i oE)
   have h2:=ZcK t.subs i
   have h3:x.nodes.length<=szL (t.subs.drop i):=by
    refine ZbL (List.mem_of_getElem? (i:=0) ?_)
    rw[List.getElem?_drop];exact hx
   have ih:=Zzf (Zly c m2 nb cb wb (λj v hj=>aP _ _ _ (jT j v hj)) (aP _ _ _ mB) x (ZaI c (t.subs.take i) n1).2 (by omega) cS (fZ x cN) (Zho cY cN) (by omega) (ZqN hx oE))
   show CX _ _ _ _ _ (ZvE (((ZaI c t.subs n1).1[i]?).getD T0,(ZaI c (t.subs.take (i+1)) n1).2))
   rw[g1,g2]
   exact ih
  ·have hi':i < (ZaI c t.subs n1).1.length:=by rw[hl.1];exact hi
   obtain⟨x,hx⟩:=Zca hi'
   dsimp only
   rw[hx]
   exact hl.2.1 x (List.mem_of_getElem? hx)
  ·rw[dR];have:=hl.2.2.1;omega
  ·rw[dR,ZbZ hh,bS]
  ·show(ZaI c (t.subs.take t.subs.length) n1).2=_
   rw[List.take_length,ZbZ hh,bS]
  ·have:=hs.2.1 h4
   rw[e]at this;simp at this
  ·obtain⟨⟨x,hx,fP⟩,_⟩:=hs.2.2.1 h5
   refine⟨by rw[hx];rfl,?_⟩
   have h1:=hl.2.2.2.2 (λy hy=>by rw[hx]at hy;simp at hy;subst hy;exact fP)
   have h2:0 < (ZaI c t.subs n1).1.length:=by rw[hl.1,hx];simp
   obtain⟨y,hy⟩:=Zca h2
   show(((ZaI c t.subs n1).1[0]?).getD T0).k≠1
   rw[hy]
   exact h1 y (List.mem_of_getElem? hy)
  ·obtain⟨x,hx⟩:=hs.2.2.2.1 h6
   rw[hx];rfl
termination_by SizeOf.sizeOf t
decreasing_by exact Zdy cN
end Go.Proofs.Ytfgfahnakepegaa
set_option linter.unusedVariables false
namespace Go.Proofs.Ytfgfahnakepegaa
open Go Go.Eng Go.Proofs Go.RowKit
open Go.Value (int slice agg bool string tuple func)
open Go.IntKind (u8 u64 i64)
set_option maxRecDepth 100000
noncomputable def Zja:Env:={ EB with
 joins:=(λi=>bif Nat.beq i 1 then some [(6,.bool)]else none)
 frzNew:=[4]
 gb:=true }
def ZeH(aD aE aF aG p1:Int)(c0b:Nat)(c0_0:Int)(c1b:Nat)(c1_0 c1_1 c1_2 c1_3:Int)(m:Mem)(R:RT):Prop:=
 ∀(b:Nat)(m':Mem),Mem.le m m'->Mem.reads m' b 0 [int i64 aD,int i64 aE,int i64 aF,int i64 aG]->∃(aa:Bool),br (decide (p1 > c0_0)) ([some (Box.mk b [int i64 aD,int i64 aE,int i64 aF,int
 i64 aG] 29 4 true true),some (Box.mk c0b [int i64 c0_0] 3 1 false true),some (Box.mk c1b [int i64 c1_0,int i64 c1_1,int i64 c1_2,int i64 c1_3] 29 4 false true)]=[some (Box.mk b [int i64 aD,int i64 aE,int
 i64 aF,int i64 aG] 29 4 true true),some (Box.mk c0b [int i64 c0_0] 3 1 false true),some (Box.mk c1b [int i64 c1_0,int i64 c1_1,int i64 c1_2,int i64 c1_3] 29 4 false true)]/\[bool true]=[bool aa]) (br (p1 ==
 c0_0) (br (decide (p1 > (0:Int))) (br (aD == c1_0) (br (aE == c1_1) ([some (Box.mk b [int i64 aD,int i64 aE,int i64 aF,int i64 aG] 29 4 true true),some (Box.mk c0b [int i64 c0_0] 3 1 false true),some
 (Box.mk c1b [int i64 c1_0,int i64 c1_1,int i64 c1_2,int i64 c1_3] 29 4 false true)]=[some (Box.mk b [int i64 aD,int i64 aE,int i64 aF,int i64 aG] 29 4 true true),some (Box.mk c0b [int i64 c0_0] 3 1
 false true),some (Box.mk c1b [int i64 c1_0,int i64 c1_1,int i64 c1_2,int i64 c1_3] 29 4 false true)]/\[bool (decide (aF > c1_2))]=[bool aa]) ([some (Box.mk b [int i64 aD,int i64 aE,int i64 aF,int i64
 aG] 29 4 true true),some (Box.mk c0b [int i64 c0_0] 3 1 false true),some (Box.mk c1b [int i64 c1_0,int i64 c1_1,int i64 c1_2,int i64 c1_3] 29 4 false true)]=[some (Box.mk b [int i64 aD,int i64 aE,int i64
 aF,int i64 aG] 29 4 true true),some (Box.mk c0b [int i64 c0_0] 3 1 false true),some (Box.mk c1b [int i64 c1_0,int i64 c1_1,int i64 c1_2,int i64 c1_3] 29 4 false true)]/\[bool false]=[bool aa])) ([some
 (Box.mk b [int i64 aD,int i64 aE,int i64 aF,int i64 aG] 29 4 true true),some (Box.mk c0b [int i64 c0_0] 3 1 false true),some (Box.mk c1b [int i64 c1_0,int i64 c1_1,int i64 c1_2,int i64 c1_3] 29 4 false
 true)]=[some (Box.mk b [int i64 aD,int i64 aE,int i64 aF,int i64 aG] 29 4 true true),some (Box.mk c0b [int i64 c0_0] 3 1 false true),some (Box.mk c1b [int i64 c1_0,int i64 c1_1,int i64 c1_2,int i64
 c1_3] 29 4 false true)]/\[bool false]=[bool aa])) ([some (Box.mk b [int i64 aD,int i64 aE,int i64 aF,int i64 aG] 29 4 true true),some (Box.mk c0b [int i64 c0_0] 3 1 false true),some (Box.mk c1b [int i64
 c1_0,int i64 c1_1,int i64 c1_2,int i64 c1_3] 29 4 false true)]=[some (Box.mk b [int i64 aD,int i64 aE,int i64 aF,int i64 aG] 29 4 true true),some (Box.mk c0b [int i64 c0_0] 3 1 false true),some (Box.mk
 c1b [int i64 c1_0,int i64 c1_1,int i64 c1_2,int i64 c1_3] 29 4 false true)]/\[bool false]=[bool aa])) ([some (Box.mk b [int i64 aD,int i64 aE,int i64 aF,int i64 aG] 29 4 true true),some (Box.mk c0b
 [int i64 c0_0] 3 1 false true),some (Box.mk c1b [int i64 c1_0,int i64 c1_1,int i64 c1_2,int i64 c1_3] 29 4 false true)]=[some (Box.mk b [int i64 aD,int i64 aE,int i64 aF,int i64 aG] 29 4 true true),
 some (Box.mk c0b [int i64 c0_0] 3 1 false true),some (Box.mk c1b [int i64 c1_0,int i64 c1_1,int i64 c1_2,int i64 c1_3] 29 4 false true)]/\[bool false]=[bool aa]))/\Box.mk c0b [int i64 c0_0] 3 1 false true =
 Box.mk c0b [int i64 c0_0] 3 1 false true/\Box.mk c1b [int i64 c1_0,int i64 c1_1,int i64 c1_2,int i64 c1_3] 29 4 false true=Box.mk c1b [int i64 c1_0,int i64 c1_1,int i64 c1_2,int i64 c1_3] 29 4 false true/\∃
 (m'':Mem),Mem.le m m''/\Mem.le m'' m'/\R (bool aa) m'' [[int i64 c0_0],[int i64 c1_0,int i64 c1_1,int i64 c1_2,int i64 c1_3]]
theorem Zif(aD aE aF aG p1:Int)(c0b:Nat)(c0_0:Int)(c1b:Nat)(c1_0 c1_1 c1_2 c1_3:Int)(m:Mem)(R:RT)(h:ZeH aD aE aF aG p1 c0b c0_0 c1b c1_0 c1_1 c1_2 c1_3 m R):CX Try.prog 85 #[.agg #[.int .i64 aD,.int .i64 aE,.int .i64 aF,.int .i64 aG],.int .i64 p1,.pointer (some ⟨c0b,0,none⟩),.pointer (some ⟨c1b,0,none⟩)] m [⟨c0b,[.int .i64 c0_0],3,1,false,true⟩,⟨c1b,[.int .i64 c1_0,.int .i64 c1_1,.int .i64 c1_2,.int .i64 c1_3],29,4,false,true⟩] R:=
 Zad (E:=Zja) ZaE mix Try.func85 [.v (.agg #[.int .i64 aD,.int .i64 aE,.int .i64 aF,.int .i64 aG]),.v (.int .i64 p1),.loc 100000 0,.loc 100001 0] [⟨c0b,[.int .i64 c0_0],3,1,false,true⟩,⟨c1b,[.int .i64 c1_0,.int .i64 c1_1,.int .i64 c1_2,.int .i64 c1_3],29,4,false,true⟩] (by kernel_rfl) (Eq.mp (by kernel_rfl) h)
noncomputable def ZmG:Env:={ EB with
 loops:=(λi=>bif Nat.beq i 6 then⟨[(19,.agg [.int .i64,.int .i64,.int .i64,.int .i64])],[5,6,7],[],false⟩ else⟨[],[],[],false⟩)
 dr:=(λi=>bif Nat.beq i 2 then[⟨0,[1],[],none,[],[]⟩,⟨1,[1],[],none,[],[]⟩,⟨2,[],[],none,[1],[]⟩,⟨3,[6],[6],none,[],[]⟩,⟨4,[7],[7],none,[],[]⟩,⟨5,[8],[8],none,[],[]⟩,⟨6,[6],[6],none,[1,2,3,4,5],[]⟩,⟨7,[7],[7],none,[0,1,2,3,4,5,6],[]⟩,⟨8,[8],[8],none,[0,1,2,3,4,5,6,7],[]⟩]else bif Nat.beq i 7 then[⟨0,[8],[],none,[],[]⟩,⟨1,[11],[],none,[],[]⟩,⟨2,[],[],none,[1],[]⟩,⟨3,[],[],none,[0,1,2],[]⟩,⟨4,[],[],none,[0,1,2,3],[]⟩]else bif Nat.beq i 9 then[⟨0,[10],[],none,[],[]⟩,⟨1,[],[],none,[],[]⟩,⟨2,[11],[],none,[],[]⟩,⟨3,[5],[5],none,[0],[]⟩,⟨4,[6],[6],none,[0,1,3],[]⟩,⟨5,[7],[7],none,[0,1,2,3,4],[]⟩]else bif Nat.beq i 10 then[⟨0,[5],[],none,[],[]⟩,⟨1,[6],[],none,[],[]⟩,⟨2,[7],[],none,[],[]⟩,⟨3,[2],[2],none,[0],[]⟩,⟨4,[],[],none,[0,1,3],[]⟩,⟨5,[4],[4],none,[0,1,2,3,4],[]⟩]else[])
 borrow:=(λi=>bif Nat.beq i 30 then[6,5]else[])
 frzNew:=[1] }
def Zf1(aD aE aF aG aJ aH aI:Int)(aB:Option Addr)(aA aC:Nat)(m:Mem)(R:RT):Prop:=
 ∀(b:Nat)(m':Mem),Mem.le m m'->Mem.reads m' b 0 [int u8 aD,int u64 aE,int u64 aF,int u64 aG,int u64 aJ,int i64 aH,int i64 aI,slice aB aA aC]->∀(ah ai ab:Nat),∃(f:Fx),∃(R_1
 : RT),R_1=f 2 [agg (Array.mk [int u8 aD,int u64 aE,int u64 aF,int u64 aG,int u64 aJ,int i64 aH,int i64 aI,slice aB aA aC])] m'/\CX Try.prog 27 (Array.mk [agg (Array.mk [int u8 aD,int
 u64 aE,int u64 aF,int u64 aG,int u64 aJ,int i64 aH,int i64 aI,slice aB aA aC])]) m' [] R_1/\Zat (Shape.int i64) R_1/\∀(n:Int)(az:Mem),Mem.le m' az->R_1 (int i64 n) az []->∀(aa ac
 ad:Nat) (M:Mem),Mem.le m' M->Mem.le az M->∀(aj:Nat),∃(R_2:RT),True/\CX Try.prog 72 (Array.mk [agg (Array.mk [int u8 aD,int u64 aE,int u64 aF,int u64 aG,int u64 aJ,int i64 aH,int i64
 aI,slice aB aA aC])]) M [] R_2/\Zat Shape.fn R_2/\∀(g:Nat)(fi ca:List Value)(m':Mem),Mem.le M m'->R_2 (func (Fn.func g) (Array.mk fi) (Array.mk ca)) m' []->∃(xs:List (List Value)),IX
 Try.prog g fi ca m' xs/\(∀(x:List Value),x∈xs->Shape.fitsL [Shape.agg [Shape.int i64,Shape.int i64,Shape.int i64,Shape.int i64]] x=true)/\∃(I:IT),I [] [[int i64 0,int i64 0,int i64 0,int i64 0],
 [int i64 0],[int u8 aD,int u64 aE,int u64 aF,int u64 aG,int u64 aJ,int i64 aH,int i64 aI,slice aB aA aC]] [] m' 0/\(∀(ak al am an:Int)(cs ag af:List Value)(ae:Mem)(ao:Nat),
 Mem.le m' ae->List.get?Internal xs ao=some [agg (Array.mk [int i64 ak,int i64 al,int i64 am,int i64 an])]->I [] [cs,ag,af] [] ae ao->∀(a4:Nat),∃(R:RT),True/\CX Try.prog 73 (Array.mk [agg (Array.mk
 [int u8 aD,int u64 aE,int u64 aF,int u64 aG,int u64 aJ,int i64 aH,int i64 aI,slice aB aA aC]),agg (Array.mk [int i64 ak,int i64 al,int i64 am,int i64 an])]) ae [] R/\Zat (shT) R/\∀
 (ap aq ar au av aw ax:Int) (a:Option Addr) (ay c:Nat) (m':Mem),Mem.le ae m'->R (agg (Array.mk [int u8 ap,int u64 aq,int u64 ar,int u64 au,int u64 av,int i64 aw,int i64 ax,slice a ay c])) m' []->∀(a5:
 Nat),∃(f:Fx),∃(R:RT),R=f 2 [agg (Array.mk [int u8 ap,int u64 aq,int u64 ar,int u64 au,int u64 av,int i64 aw,int i64 ax,slice a ay c])] m'/\CX Try.prog 27 (Array.mk [agg (Array.mk [int u8 ap,int u64
 aq,int u64 ar,int u64 au,int u64 av,int i64 aw,int i64 ax,slice a ay c])]) m' [] R/\Zat (Shape.int i64) R/\∀(a0:Int)(a1:Mem),Mem.le m' a1->R (int i64 a0) a1 []->∀(M:Mem),Mem.le m' M->Mem.le a1 M->
 ∃(R:RT),True/\CX Try.prog 85 (Array.mk [agg (Array.mk [int i64 ak,int i64 al,int i64 am,int i64 an]),int i64 (IntKind.wrap i64 (n - a0)),Value.pointer (some (Addr.mk aa 0 none)),Value.pointer (some (Addr.mk
 ab 0 none))]) M [Box.mk aa ag 3 1 false true,Box.mk ab cs 29 4 false true] R/\Zat Shape.bool R/\∀(a2:Bool)(m':Mem),Mem.le M m'->∀(cs a3:List Value),R (bool a2) m' [cs,a3]->br a2 ([some (Box.mk aj [func
 (Fn.func 85) (Array.mk []) (Array.mk [Value.pointer (some (Addr.mk aa 0 none)),Value.pointer (some (Addr.mk ab 0 none))])] 125 1 false true),some (Box.mk aa [] 3 1 false true),some (Box.mk ac [] 27 8 false true),
 some (Box.mk ad [int i64 n] 3 1 false true),some (Box.mk aa [] 3 1 false true),some (Box.mk ac [] 27 8 false true),some (Box.mk ad [int i64 n] 3 1 false true),some (Box.mk ab [] 29 4 false true),some (Box.mk ai
 [int u8 0,int u64 0,int u64 0,int u64 0,int u64 0,int i64 0,int i64 0,slice none 0 0] 27 8 false true),some (Box.mk ah [int i64 0,int i64 0,int i64 0,int i64 0] 29 4 false true),some (Box.mk b [int u8 aD,
 int u64 aE,int u64 aF,int u64 aG,int u64 aJ,int i64 aH,int i64 aI,slice aB aA aC] 27 8 true true)]=[some (Box.mk aj [func (Fn.func 85) (Array.mk []) (Array.mk [Value.pointer (some (Addr.mk
 aa 0 none)),Value.pointer (some (Addr.mk ab 0 none))])] 125 1 false true),some (Box.mk aa [] 3 1 false true),some (Box.mk ac [] 27 8 false true),some (Box.mk ad [int i64 n] 3 1 false true),some (Box.mk aa [] 3 1
 false true),some (Box.mk ac [] 27 8 false true),some (Box.mk ad [int i64 n] 3 1 false true),some (Box.mk ab [] 29 4 false true),some (Box.mk ai [int u8 0,int u64 0,int u64 0,int u64 0,int u64 0,int i64 0,int
 i64 0,slice none 0 0] 27 8 false true),some (Box.mk ah [int i64 0,int i64 0,int i64 0,int i64 0] 29 4 false true),some (Box.mk b [int u8 aD,int u64 aE,int u64 aF,int u64 aG,int u64 aJ,int i64 aH,
 int i64 aI,slice aB aA aC] 27 8 true true)]/\I [] [[int i64 ak,int i64 al,int i64 am,int i64 an],[int i64 (IntKind.wrap i64 (n - a0))],[int u8 ap,int u64 aq,int u64 ar,int u64 au,int u64 av,int
 i64 aw,int i64 ax,slice a ay c]] [] m' (ao+1)) ([some (Box.mk aj [func (Fn.func 85) (Array.mk []) (Array.mk [Value.pointer (some (Addr.mk aa 0 none)),Value.pointer (some (Addr.mk ab 0 none))])] 125 1 false true),
 some (Box.mk aa [] 3 1 false true),some (Box.mk ac [] 27 8 false true),some (Box.mk ad [int i64 n] 3 1 false true),some (Box.mk aa [] 3 1 false true),some (Box.mk ac [] 27 8 false true),some (Box.mk ad [int i64 n]
 3 1 false true),some (Box.mk ab [] 29 4 false true),some (Box.mk ai [int u8 0,int u64 0,int u64 0,int u64 0,int u64 0,int i64 0,int i64 0,slice none 0 0] 27 8 false true),some (Box.mk ah [int i64 0,int i64 0,
 int i64 0,int i64 0] 29 4 false true),some (Box.mk b [int u8 aD,int u64 aE,int u64 aF,int u64 aG,int u64 aJ,int i64 aH,int i64 aI,slice aB aA aC] 27 8 true true)]=[some (Box.mk aj [func
 (Fn.func 85) (Array.mk []) (Array.mk [Value.pointer (some (Addr.mk aa 0 none)),Value.pointer (some (Addr.mk ab 0 none))])] 125 1 false true),some (Box.mk aa [] 3 1 false true),some (Box.mk ac [] 27 8 false true),
 some (Box.mk ad [int i64 n] 3 1 false true),some (Box.mk aa [] 3 1 false true),some (Box.mk ac [] 27 8 false true),some (Box.mk ad [int i64 n] 3 1 false true),some (Box.mk ab [] 29 4 false true),some (Box.mk ai
 [int u8 0,int u64 0,int u64 0,int u64 0,int u64 0,int i64 0,int i64 0,slice none 0 0] 27 8 false true),some (Box.mk ah [int i64 0,int i64 0,int i64 0,int i64 0] 29 4 false true),some (Box.mk b [int u8 aD,
 int u64 aE,int u64 aF,int u64 aG,int u64 aJ,int i64 aH,int i64 aI,slice aB aA aC] 27 8 true true)]/\I [] [a3,cs,af] [] m' (ao+1)))/\∀(cs ag af:List Value)(ae:Mem),Mem.le m' ae->I
 [] [cs,ag,af] [] ae (List.length xs)->Eng.Zv0 ag 0 λ(v:Value)=>chk (Nat.beq (List.length cs) 4&&ZbC cs) (chk (Nat.beq (List.length af) 8&&ZbC af) (∃(m'':Mem),Mem.le m m''/\Mem.le m'' ae/\R
 (tuple (Array.mk [agg (Array.mk cs),v,agg (Array.mk af)])) m'' []))
theorem Zkq(aD aE aF aG aJ aH aI:Int)(aB:Option Addr)(aA aC:Nat)(m:Mem)(R:RT)(h:Zf1 aD aE aF aG aJ aH aI aB aA aC m R):CX Try.prog 51 #[.agg #[.int .u8 aD,.int .u64 aE,.int .u64 aF,.int .u64 aG,.int .u64 aJ,.int .i64 aH,.int .i64 aI,.slice aB aA aC]] m [] R:=
 Zad (E:=ZmG) ZaE mix Try.func51 [.v (.agg #[.int .u8 aD,.int .u64 aE,.int .u64 aF,.int .u64 aG,.int .u64 aJ,.int .i64 aH,.int .i64 aI,.slice aB aA aC])] [] (by kernel_rfl) (Eq.mp (by kernel_rfl) h)
noncomputable def Zjb:Env:={ EB with
 loops:=(λi=>bif Nat.beq i 3 then⟨[],[1,2],[],false⟩ else⟨[],[],[],false⟩) }
def ZeI(aD aE aF aG aJ aH aI:Int)(aB:Option Addr)(aA aC:Nat)(m:Mem)(R:RT):Prop:=
 ∀(b ac:Nat),∃(R_1:RT),True/\CX Try.prog 50 (Array.mk [agg (Array.mk [int u8 aD,int u64 aE,int u64 aF,int u64 aG,int u64 aJ,int i64 aH,int i64 aI,slice aB aA aC])]) m [] R_1/\Zat
 Shape.bool R_1/\∀(ad:Bool)(m':Mem),Mem.le m m'->R_1 (bool ad) m' []->br (!ad) (∃(m'':Mem),Mem.le m m''/\Mem.le m'' m'/\R (tuple (Array.mk [agg (Array.mk [int u8 0,int u64 0,int u64 0,int u64 0,int
 u64 0,int i64 0,int i64 0,slice none 0 0]),int i64 2])) m'' []) (∃(I:IT),(∃(n:Nat),I [] [[int u8 aD,int u64 aE,int u64 aF,int u64 aG,int u64 aJ,int i64 aH,int i64 aI,slice aB aA
 aC],[int u8 0,int u64 0,int u64 0,int u64 0,int u64 0,int i64 0,int i64 0,slice none 0 0]] [] m' n)/\∀(cs ae:List Value)(aa:Mem)(n:Nat),Mem.le m' aa->I [] [cs,ae] [] aa n->∃(R_2:RT),True/\
 CX Try.prog 51 (Array.mk [agg (Array.mk cs)]) aa [] R_2/\Zat (Shape.tup [Shape.agg [Shape.int i64,Shape.int i64,Shape.int i64,Shape.int i64],Shape.int i64,shT]) R_2/\∀(ax ay az a0 af ag ah ai aj ak al am:Int)
 (a:Option Addr) (an c:Nat) (m':Mem),Mem.le aa m'->R_2 (tuple (Array.mk [agg (Array.mk [int i64 ax,int i64 ay,int i64 az,int i64 a0]),int i64 af,agg (Array.mk [int u8 ag,int u64 ah,int u64 ai,int u64 aj,
 int u64 ak,int i64 al,int i64 am,slice a an c])])) m' []->∀(a1 a2:Nat),br (decide (af<=(0:Int))) (∃(R_3:RT),True/\CX Try.prog 52 (Array.mk [agg (Array.mk cs)]) m' [] R_3/\Zat (shT) R_3/\∀(n ao ap aq
 ar au av:Int) (a:Option Addr) (aw c:Nat) (ab:Mem),Mem.le m' ab->R_3 (agg (Array.mk [int u8 n,int u64 ao,int u64 ap,int u64 aq,int u64 ar,int i64 au,int i64 av,slice a aw c])) ab []->∃(m'':Mem),
 Mem.le m m''/\Mem.le m'' ab/\R (tuple (Array.mk [agg (Array.mk [int u8 n,int u64 ao,int u64 ap,int u64 aq,int u64 ar,int i64 au,int i64 av,slice a aw c]),int i64 0])) m'' []) ([some (Box.mk ac [] 27 8 false
 true),some (Box.mk b [] 27 8 false true)]=[some (Box.mk ac [] 27 8 false true),some (Box.mk b [] 27 8 false true)]/\∃(n':Nat),n' < n/\I [] [[int u8 ag,int u64 ah,int u64 ai,int u64 aj,int u64 ak,int i64
 al,int i64 am,slice a an c],ae] [] m' n'))
theorem Zig(aD aE aF aG aJ aH aI:Int)(aB:Option Addr)(aA aC:Nat)(m:Mem)(R:RT)(h:ZeI aD aE aF aG aJ aH aI aB aA aC m R):CX Try.prog 17 #[.agg #[.int .u8 aD,.int .u64 aE,.int .u64 aF,.int .u64 aG,.int .u64 aJ,.int .i64 aH,.int .i64 aI,.slice aB aA aC]] m [] R:=
 Zad (E:=Zjb) ZaE mix Try.func17 [.v (.agg #[.int .u8 aD,.int .u64 aE,.int .u64 aF,.int .u64 aG,.int .u64 aJ,.int .i64 aH,.int .i64 aI,.slice aB aA aC])] [] (by kernel_rfl) (Eq.mp (by kernel_rfl) h)
noncomputable def Zkr:Env:={ EB with
 loops:=(λi=>bif Nat.beq i 4 then⟨[(4,.slice)],[1],[(23,4)],false⟩ else⟨[],[],[],false⟩)
 dr:=(λi=>bif Nat.beq i 7 then[⟨0,[],[],none,[],[]⟩,⟨1,[5],[],none,[],[]⟩,⟨2,[22],[22],none,[1],[]⟩,⟨3,[22],[],some 23,[0,1,2],[2]⟩,⟨4,[7],[],none,[],[]⟩,⟨5,[],[],none,[0,1,2,3],[]⟩,⟨6,[1],[1],none,[0,1,2,3,4,5],[]⟩]else[])
 tokOf:=(λi=>bif Nat.beq i 23 then 23 else 0) }
def Zfr(aD aE aF aG aJ aH aI:Int)(aB:Option Addr)(aA aC:Nat)(m:Mem)(R:RT):Prop:=
 ∀(b:Nat),∃(R_1:RT),True/\CX Try.prog 50 (Array.mk [agg (Array.mk [int u8 aD,int u64 aE,int u64 aF,int u64 aG,int u64 aJ,int i64 aH,int i64 aI,slice aB aA aC])]) m [] R_1/\Zat
 Shape.bool R_1/\∀(ah:Bool)(m':Mem),Mem.le m m'->R_1 (bool ah) m' []->br (!ah) (∃(m'':Mem),Mem.le m m''/\Mem.le m'' m'/\R (tuple (Array.mk [slice none 0 0,int i64 2])) m'' []) (∃(I:IT),(∃(n:Nat),
 I [slice none 0 0] [[int u8 aD,int u64 aE,int u64 aF,int u64 aG,int u64 aJ,int i64 aH,int i64 aI,slice aB aA aC]] [slice none 0 0] m' n)/\∀(a:Option Addr)(n c:Nat)(cs:List Value)
 (ai:Option Addr) (aj ak:Nat) (af:Mem) (al:Nat),Mem.le m' af->I [slice a n c] [cs] [slice ai aj ak] af al->∃(R_2:RT),True/\CX Try.prog 51 (Array.mk [agg (Array.mk cs)]) af [] R_2/\Zat (Shape.tup
 [Shape.agg [Shape.int i64,Shape.int i64,Shape.int i64,Shape.int i64],Shape.int i64,shT]) R_2/\∀(ab ac ad ae am an ao ap aq ar au av:Int)(aw:Option Addr)(ax ay:Nat)(m':Mem),Mem.le af m'->R_2 (tuple
 (Array.mk [agg (Array.mk [int i64 ab,int i64 ac,int i64 ad,int i64 ae]),int i64 am,agg (Array.mk [int u8 an,int u64 ao,int u64 ap,int u64 aq,int u64 ar,int i64 au,int i64 av,slice aw ax ay])])) m' []->∀(az
 a0:Nat),br (decide (am<=(0:Int))) (∃(m'':Mem),Mem.le m m''/\Mem.le m'' m'/\R (tuple (Array.mk [slice a n c,int i64 0])) m'' []) (∀(aa:Nat),Mem.free m' aa->(Tok.mk (slice ai aj ak) 4=Tok.mk (slice a n
 c) 4\/slice a n c=slice none 0 0\/c < n+1)/\∃(xs:List Value),∃(ys:List Value),List.length xs=n*4/\List.length ys=1*4/\rowRd (Mem.add m' aa [int i64 ab,int i64 ac,int i64 ad,int i64 ae]) a xs
 /\ rowRd (Mem.add m' aa [int i64 ab,int i64 ac,int i64 ad,int i64 ae]) (some (Addr.mk aa 0 none)) ys/\(∀(u:Value),u∈ys->Value.oneCell' u=true)/\(n+1)*32<=140737488355328/\n+1<=9223372036854775807/\
 ∀(a':Option Addr)(c':Nat)(ag:Mem),Mem.le (Mem.add m' aa [int i64 ab,int i64 ac,int i64 ad,int i64 ae]) ag->rowRd ag a' (List.append xs ys)->∀(M:Mem),Mem.le m' M->Mem.le (Mem.add m' aa [int i64 ab,
 int i64 ac,int i64 ad,int i64 ae]) M->Mem.le ag M->[some (Box.mk b [] 27 8 false true)]=[some (Box.mk b [] 27 8 false true)]/\∃(n':Nat),n' < al/\I [slice a' (n+1) c'] [[int u8 an,int u64 ao,int u64 ap,
 int u64 aq,int u64 ar,int i64 au,int i64 av,slice aw ax ay]] [slice a' (n+1) c'] M n'))
theorem Zjc(aD aE aF aG aJ aH aI:Int)(aB:Option Addr)(aA aC:Nat)(m:Mem)(R:RT)(h:Zfr aD aE aF aG aJ aH aI aB aA aC m R):CX Try.prog 28 #[.agg #[.int .u8 aD,.int .u64 aE,.int .u64 aF,.int .u64 aG,.int .u64 aJ,.int .i64 aH,.int .i64 aI,.slice aB aA aC]] m [] R:=
 Zad (E:=Zkr) ZaE mix Try.func28 [.v (.agg #[.int .u8 aD,.int .u64 aE,.int .u64 aF,.int .u64 aG,.int .u64 aJ,.int .i64 aH,.int .i64 aI,.slice aB aA aC])] [] (by kernel_rfl) (Eq.mp (by kernel_rfl) h)
noncomputable def ZmH:Env:={ EB with
 frzNew:=[1] }
def Zf2(aD aE aF aG aJ aH aI:Int)(aB:Option Addr)(aA aC:Nat)(m:Mem)(R:RT):Prop:=
 ∀(b:Nat)(m':Mem),Mem.le m m'->Mem.reads m' b 0 [int u8 aD,int u64 aE,int u64 aF,int u64 aG,int u64 aJ,int i64 aH,int i64 aI,slice aB aA aC]->∀(b:Nat),∃(R_1:RT),True/\CX
 Try.prog 50 (Array.mk [agg (Array.mk [int u8 aD,int u64 aE,int u64 aF,int u64 aG,int u64 aJ,int i64 aH,int i64 aI,slice aB aA aC])]) m' [] R_1/\Zat Shape.bool R_1/\∀(b:Bool) (m'_1:
 Mem),Mem.le m' m'_1->R_1 (bool b) m'_1 []->br (!b) (∃(m'':Mem),Mem.le m m''/\Mem.le m'' m'_1/\R (tuple (Array.mk [agg (Array.mk [int i64 0,int i64 0,int i64 0,int i64 0]),int i64 0,bool false,int i64 2]))
 m'' []) (∃(R_2:RT),True/\CX Try.prog 51 (Array.mk [agg (Array.mk [int u8 aD,int u64 aE,int u64 aF,int u64 aG,int u64 aJ,int i64 aH,int i64 aI,slice aB aA aC])]) m'_1 [] R_2/\Zat
 (Shape.tup [Shape.agg [Shape.int i64,Shape.int i64,Shape.int i64,Shape.int i64],Shape.int i64,shT]) R_2/\∀(n n_1 n_2 n_3 n_4 n_5 n_6 n_7 n_8 n_9 n_10 n_11:Int)(a:Option Addr)(n_12 c:Nat)(m':Mem),
 Mem.le m'_1 m'->R_2 (tuple (Array.mk [agg (Array.mk [int i64 n,int i64 n_1,int i64 n_2,int i64 n_3]),int i64 n_4,agg (Array.mk [int u8 n_5,int u64 n_6,int u64 n_7,int u64 n_8,int u64 n_9,int i64 n_10,int i64
 n_11,slice a n_12 c])])) m' []->∀(b b:Nat),br (decide (n_4<=(0:Int))) (∃(m'':Mem),Mem.le m m''/\Mem.le m'' m'/\R (tuple (Array.mk [agg (Array.mk [int i64 0,int i64 0,int i64 0,int i64 0]),int i64 0,
 bool false,int i64 0])) m'' []) (∃(m'':Mem),Mem.le m m''/\Mem.le m'' m'/\R (tuple (Array.mk [agg (Array.mk [int i64 n,int i64 n_1,int i64 n_2,int i64 n_3]),int i64 n_4,bool true,int i64 0])) m'' []))
theorem Zks(aD aE aF aG aJ aH aI:Int)(aB:Option Addr)(aA aC:Nat)(m:Mem)(R:RT)(h:Zf2 aD aE aF aG aJ aH aI aB aA aC m R):CX Try.prog 29 #[.agg #[.int .u8 aD,.int .u64 aE,.int .u64 aF,.int .u64 aG,.int .u64 aJ,.int .i64 aH,.int .i64 aI,.slice aB aA aC]] m [] R:=
 Zad (E:=ZmH) ZaE mix Try.func29 [.v (.agg #[.int .u8 aD,.int .u64 aE,.int .u64 aF,.int .u64 aG,.int .u64 aJ,.int .i64 aH,.int .i64 aI,.slice aB aA aC])] [] (by kernel_rfl) (Eq.mp (by kernel_rfl) h)
noncomputable def ZmI:Env:={ EB with
 dr:=(λi=>bif Nat.beq i 4 then[⟨0,[2],[],none,[],[]⟩,⟨1,[],[],none,[0],[]⟩,⟨2,[6],[],none,[],[]⟩,⟨3,[],[],none,[0,1,2],[1]⟩,⟨4,[],[],none,[0,1,2,3],[]⟩,⟨5,[],[],none,[0,1,2,3,4],[]⟩,⟨6,[],[],none,[0,1,2,3,4,5],[]⟩]else[])
 frzNew:=[2,3] }
def Zf3(aD aE aF aG aJ aH aI:Int)(aB:Option Addr)(aA aC:Nat)(aO aK aL aN:Int)(m:Mem)(R:RT):Prop:=
 ∀(b:Nat)(m':Mem),Mem.le m m'->Mem.reads m' b 0 [int u8 aD,int u64 aE,int u64 aF,int u64 aG,int u64 aJ,int i64 aH,int i64 aI,slice aB aA aC]->∀(b:Nat)(m'_1:Mem),Mem.le m'
 m'_1->Mem.reads m'_1 b 0 [int i64 aO,int i64 aK,int i64 aL,int i64 aN]->∃(R_1:RT),True/\CX Try.prog 31 (Array.mk [agg (Array.mk [int u8 aD,int u64 aE,int u64 aF,int u64 aG,int u64 aJ,int
 i64 aH,int i64 aI,slice aB aA aC]),agg (Array.mk [int i64 aO,int i64 aK,int i64 aL,int i64 aN])]) m'_1 [] R_1/\Zat (Shape.tup [shT,Shape.int i64]) R_1/\∀(n n_1 n_2 n_3 n_4 n_5 n_6:Int)
 (a:Option Addr) (n_7 c:Nat) (n_8:Int) (m':Mem),Mem.le m'_1 m'->R_1 (tuple (Array.mk [agg (Array.mk [int u8 n,int u64 n_1,int u64 n_2,int u64 n_3,int u64 n_4,int i64 n_5,int i64 n_6,slice a n_7 c]),int
 i64 n_8])) m' []->∀(b:Nat),br (!n_8 == (0:Int)) (∃(m'':Mem),Mem.le m m''/\Mem.le m'' m'/\R (tuple (Array.mk [int i64 0,int i64 n_8])) m'' []) (∃(f:Fx),∃(R_2:RT),R_2=f 1 [agg (Array.mk [int u8
 aD,int u64 aE,int u64 aF,int u64 aG,int u64 aJ,int i64 aH,int i64 aI,slice aB aA aC])] m'/\CX Try.prog 27 (Array.mk [agg (Array.mk [int u8 aD,int u64 aE,int u64 aF,int u64 aG,
 int u64 aJ,int i64 aH,int i64 aI,slice aB aA aC])]) m' [] R_2/\Zat (Shape.int i64) R_2/\∀(n_9:Int)(m'_2:Mem),Mem.le m' m'_2->R_2 (int i64 n_9) m'_2 []->∃(R_3:RT),R_3=f 3 [agg
 (Array.mk [int u8 n,int u64 n_1,int u64 n_2,int u64 n_3,int u64 n_4,int i64 n_5,int i64 n_6,slice a n_7 c])] m'_2/\CX Try.prog 27 (Array.mk [agg (Array.mk [int u8 n,int u64 n_1,int u64 n_2,int u64 n_3,int
 u64 n_4,int i64 n_5,int i64 n_6,slice a n_7 c])]) m'_2 [] R_3/\Zat (Shape.int i64) R_3/\∀(n:Int)(m'_3:Mem),Mem.le m'_2 m'_3->R_3 (int i64 n) m'_3 []->∀(M:Mem),Mem.le m' M->Mem.le m'_2 M->Mem.le m'_3
 M->∃(m'':Mem),Mem.le m m''/\Mem.le m'' M/\R (tuple (Array.mk [int i64 (IntKind.wrap i64 (n_9 - n)),int i64 0])) m'' [])
theorem Zkt(aD aE aF aG aJ aH aI:Int)(aB:Option Addr)(aA aC:Nat)(aO aK aL aN:Int)(m:Mem)(R:RT)(h:Zf3 aD aE aF aG aJ aH aI aB aA aC aO aK aL aN m R):CX Try.prog 30 #[.agg #[.int .u8 aD,.int .u64 aE,.int .u64 aF,.int .u64 aG,.int .u64 aJ,.int .i64 aH,.int .i64 aI,.slice aB aA aC],.agg #[.int .i64 aO,.int .i64 aK,.int .i64 aL,.int .i64 aN]] m [] R:=
 Zad (E:=ZmI) ZaE mix Try.func30 [.v (.agg #[.int .u8 aD,.int .u64 aE,.int .u64 aF,.int .u64 aG,.int .u64 aJ,.int .i64 aH,.int .i64 aI,.slice aB aA aC]),.v (.agg #[.int .i64 aO,.int .i64 aK,.int .i64 aL,.int .i64 aN])] [] (by kernel_rfl) (Eq.mp (by kernel_rfl) h)
noncomputable def ZmJ:Env:={ EB with
 loops:=(λi=>bif Nat.beq i 5 then⟨[(13,.agg [.int .i64,.int .i64,.int .i64,.int .i64])],[4,5],[],false⟩ else⟨[],[],[],false⟩)
 frzNew:=[2,3] }
def Zf4(aD aE aF aG aJ aH aI:Int)(aB:Option Addr)(aA aC:Nat)(aO aK aL aN:Int)(m:Mem)(R:RT):Prop:=
 ∀(b:Nat)(m':Mem),Mem.le m m'->Mem.reads m' b 0 [int u8 aD,int u64 aE,int u64 aF,int u64 aG,int u64 aJ,int i64 aH,int i64 aI,slice aB aA aC]->∀(ab:Nat)(ac:Mem),Mem.le m' ac->
 Mem.reads ac ab 0 [int i64 aO,int i64 aK,int i64 aL,int i64 aN]->∀(ad ae:Nat),∃(R_1:RT),True/\CX Try.prog 50 (Array.mk [agg (Array.mk [int u8 aD,int u64 aE,int u64 aF,int u64 aG,int u64
 aJ,int i64 aH,int i64 aI,slice aB aA aC])]) ac [] R_1/\Zat Shape.bool R_1/\∀(ai:Bool)(m':Mem),Mem.le ac m'->R_1 (bool ai) m' []->br (!ai) (∃(m'':Mem),Mem.le m m''/\Mem.le m'' m'/\R
 (tuple (Array.mk [agg (Array.mk [int u8 0,int u64 0,int u64 0,int u64 0,int u64 0,int i64 0,int i64 0,slice none 0 0]),int i64 2])) m'' []) (∃(R_2:RT),True/\CX Try.prog 72 (Array.mk [agg (Array.mk [int u8
 aD,int u64 aE,int u64 aF,int u64 aG,int u64 aJ,int i64 aH,int i64 aI,slice aB aA aC])]) m' [] R_2/\Zat Shape.fn R_2/\∀(g:Nat)(fi ca:List Value)(aa:Mem),Mem.le m' aa->R_2 (func
 (Fn.func g) (Array.mk fi) (Array.mk ca)) aa []->∃(xs:List (List Value)),IX Try.prog g fi ca aa xs/\(∀(x:List Value),x∈xs->Shape.fitsL [Shape.agg [Shape.int i64,Shape.int i64,Shape.int i64,Shape.int i64]]
 x=true)/\∃(I:IT),I [] [[int u8 0,int u64 0,int u64 0,int u64 0,int u64 0,int i64 0,int i64 0,slice none 0 0],[int i64 0]] [] aa 0/\(∀(n aj ak al:Int)(cs af:List Value)(m':Mem)(ag:Nat),Mem.le
 aa m'->List.get?Internal xs ag=some [agg (Array.mk [int i64 n,int i64 aj,int i64 ak,int i64 al])]->I [] [cs,af] [] m' ag->∀(aw:Nat),∃(am:Bool),EqIs Try.prog 29 (agg (Array.mk [int i64 n,int i64 aj,int
 i64 ak,int i64 al])) (agg (Array.mk [int i64 aO,int i64 aK,int i64 aL,int i64 aN])) am/\br am (∃(R_3:RT),True/\CX Try.prog 73 (Array.mk [agg (Array.mk [int u8 aD,int u64 aE,int u64 aF,int u64
 aG,int u64 aJ,int i64 aH,int i64 aI,slice aB aA aC]),agg (Array.mk [int i64 aO,int i64 aK,int i64 aL,int i64 aN])]) m' [] R_3/\Zat (shT) R_3/\∀(n an ao ap aq ar au:Int) (a:Option
 Addr) (av c:Nat) (ah:Mem),Mem.le m' ah->R_3 (agg (Array.mk [int u8 n,int u64 an,int u64 ao,int u64 ap,int u64 aq,int i64 ar,int i64 au,slice a av c])) ah []->[some (Box.mk ae [] 37 1 false true),some
 (Box.mk ad [] 27 8 false true),some (Box.mk ab [int i64 aO,int i64 aK,int i64 aL,int i64 aN] 29 4 true true),some (Box.mk b [int u8 aD,int u64 aE,int u64 aF,int u64 aG,int u64 aJ,int i64
 aH,int i64 aI,slice aB aA aC] 27 8 true true)]=[some (Box.mk ae [] 37 1 false true),some (Box.mk ad [] 27 8 false true),some (Box.mk ab [int i64 aO,int i64 aK,int i64 aL,int i64 aN] 29 4
 true true),some (Box.mk b [int u8 aD,int u64 aE,int u64 aF,int u64 aG,int u64 aJ,int i64 aH,int i64 aI,slice aB aA aC] 27 8 true true)]/\∃(m'':Mem),Mem.le m m''/\Mem.le m'' ah/\R
 (tuple (Array.mk [agg (Array.mk [int u8 n,int u64 an,int u64 ao,int u64 ap,int u64 aq,int i64 ar,int i64 au,slice a av c]),int i64 0])) m'' []) ([some (Box.mk ae [] 37 1 false true),some (Box.mk ad [] 27 8
 false true),some (Box.mk ab [int i64 aO,int i64 aK,int i64 aL,int i64 aN] 29 4 true true),some (Box.mk b [int u8 aD,int u64 aE,int u64 aF,int u64 aG,int u64 aJ,int i64 aH,int i64 aI,
 slice aB aA aC] 27 8 true true)]=[some (Box.mk ae [] 37 1 false true),some (Box.mk ad [] 27 8 false true),some (Box.mk ab [int i64 aO,int i64 aK,int i64 aL,int i64 aN] 29 4 true true),some
 (Box.mk b [int u8 aD,int u64 aE,int u64 aF,int u64 aG,int u64 aJ,int i64 aH,int i64 aI,slice aB aA aC] 27 8 true true)]/\I [] [cs,af] [] m' (ag+1)))/\∀(cs af:List Value)(m':Mem),
 Mem.le aa m'->I [] [cs,af] [] m' (List.length xs)->∃(m'':Mem),Mem.le m m''/\Mem.le m'' m'/\R (tuple (Array.mk [agg (Array.mk [int u8 0,int u64 0,int u64 0,int u64 0,int u64 0,int i64 0,int i64 0,slice
 none 0 0]),int i64 150])) m'' [])
theorem Zku(aD aE aF aG aJ aH aI:Int)(aB:Option Addr)(aA aC:Nat)(aO aK aL aN:Int)(m:Mem)(R:RT)(h:Zf4 aD aE aF aG aJ aH aI aB aA aC aO aK aL aN m R):CX Try.prog 31 #[.agg #[.int .u8 aD,.int .u64 aE,.int .u64 aF,.int .u64 aG,.int .u64 aJ,.int .i64 aH,.int .i64 aI,.slice aB aA aC],.agg #[.int .i64 aO,.int .i64 aK,.int .i64 aL,.int .i64 aN]] m [] R:=
 Zad (E:=ZmJ) ZaE mix Try.func31 [.v (.agg #[.int .u8 aD,.int .u64 aE,.int .u64 aF,.int .u64 aG,.int .u64 aJ,.int .i64 aH,.int .i64 aI,.slice aB aA aC]),.v (.agg #[.int .i64 aO,.int .i64 aK,.int .i64 aL,.int .i64 aN])] [] (by kernel_rfl) (Eq.mp (by kernel_rfl) h)
noncomputable def ZmK:Env:={ EB with
 frzNew:=[1] }
def Zf5(aD aE aF aG aJ aH aI:Int)(aB:Option Addr)(aA aC:Nat)(m:Mem)(R:RT):Prop:=
 ∀(b:Nat)(m':Mem),Mem.le m m'->Mem.reads m' b 0 [int u8 aD,int u64 aE,int u64 aF,int u64 aG,int u64 aJ,int i64 aH,int i64 aI,slice aB aA aC]->∃(R_1:RT),True/\CX Try.prog 50
 (Array.mk [agg (Array.mk [int u8 aD,int u64 aE,int u64 aF,int u64 aG,int u64 aJ,int i64 aH,int i64 aI,slice aB aA aC])]) m' [] R_1/\Zat Shape.bool R_1/\∀(b:Bool)(m'_1:Mem),Mem.le
 m' m'_1->R_1 (bool b) m'_1 []->br (!b) (∃(m'':Mem),Mem.le m m''/\Mem.le m'' m'_1/\R (tuple (Array.mk [slice none 0 0,int i64 2])) m'' []) (∃(R_2:RT),True/\CX Try.prog 72 (Array.mk [agg (Array.mk [int u8
 aD,int u64 aE,int u64 aF,int u64 aG,int u64 aJ,int i64 aH,int i64 aI,slice aB aA aC])]) m'_1 [] R_2/\Zat Shape.fn R_2/\∀(g:Nat)(fi ca:List Value)(m':Mem),Mem.le m'_1 m'->R_2
 (func (Fn.func g) (Array.mk fi) (Array.mk ca)) m' []->∃(R_3:RT),True/\CX Try.prog 74 (Array.mk [func (Fn.func g) (Array.mk fi) (Array.mk ca)]) m' [] R_3/\Zat Shape.slice R_3/\∀(a:Option Addr)(n c:Nat)
 (m'_2:Mem),Mem.le m' m'_2->R_3 (slice a n c) m'_2 []->∃(m'':Mem),Mem.le m m''/\Mem.le m'' m'_2/\R (tuple (Array.mk [slice a n c,int i64 0])) m'' [])
theorem Zkv(aD aE aF aG aJ aH aI:Int)(aB:Option Addr)(aA aC:Nat)(m:Mem)(R:RT)(h:Zf5 aD aE aF aG aJ aH aI aB aA aC m R):CX Try.prog 32 #[.agg #[.int .u8 aD,.int .u64 aE,.int .u64 aF,.int .u64 aG,.int .u64 aJ,.int .i64 aH,.int .i64 aI,.slice aB aA aC]] m [] R:=
 Zad (E:=ZmK) ZaE mix Try.func32 [.v (.agg #[.int .u8 aD,.int .u64 aE,.int .u64 aF,.int .u64 aG,.int .u64 aJ,.int .i64 aH,.int .i64 aI,.slice aB aA aC])] [] (by kernel_rfl) (Eq.mp (by kernel_rfl) h)
noncomputable def ZmL:Env:={ EB with
 loops:=(λi=>bif Nat.beq i 5 then⟨[(4,.slice),(13,.int .i64)],[],[(21,4)],false⟩ else⟨[],[],[],false⟩)
 tokOf:=(λi=>bif Nat.beq i 21 then 21 else 0)
 frzNew:=[1] }
def Zf6(aD aE aF aG aJ aH aI:Int)(aB:Option Addr)(aA aC:Nat)(m:Mem)(R:RT):Prop:=
 ∀(b:Nat)(m':Mem),Mem.le m m'->Mem.reads m' b 0 [int u8 aD,int u64 aE,int u64 aF,int u64 aG,int u64 aJ,int i64 aH,int i64 aI,slice aB aA aC]->∃(R_1:RT),True/\CX Try.prog 50
 (Array.mk [agg (Array.mk [int u8 aD,int u64 aE,int u64 aF,int u64 aG,int u64 aJ,int i64 aH,int i64 aI,slice aB aA aC])]) m' [] R_1/\Zat Shape.bool R_1/\∀(ak:Bool)(ac:Mem),Mem.le
 m' ac->R_1 (bool ak) ac []->br (!ak) (∃(m'':Mem),Mem.le m m''/\Mem.le m'' ac/\R (tuple (Array.mk [slice none 0 0,int i64 2])) m'' []) (∃(R_2:RT),True/\CX Try.prog 53 (Array.mk [agg (Array.mk [int u8 aD,
 int u64 aE,int u64 aF,int u64 aG,int u64 aJ,int i64 aH,int i64 aI,slice aB aA aC])]) ac [] R_2/\Zat Shape.slice R_2/\∀(a:Option Addr)(n c:Nat)(m':Mem),Mem.le ac m'->R_2 (slice a
 n c) m' []->∃(I:IT),(∃(n:Nat),I [slice none 0 0,int i64 0] [] [slice none 0 0] m' n)/\∀(ad:Option Addr)(aa c:Nat)(ae:Int)(al:Option Addr)(am an:Nat)(ab:Mem)(ao:Nat),Mem.le m' ab->I
 [slice ad aa c,int i64 ae] [] [slice al am an] ab ao->br (decide (ae < (↑n:Int))) (∃(ap:Nat),∃(o:Nat),a=some (Addr.mk ap o none)/\Zae ae n/\∃(v:Value),∃(af:Value),∃(ag:Value),∃(ah:
 Value),∃(ai:Value),∃(aq:Value),∃(ar:Value),∃(au:Value),Mem.reads ab ap (o+Int.toNat ae*8) [v,af,ag,ah,ai,aq,ar,au]/\∀(av:Nat),chk (Value.oneCell' v&&(Value.oneCell' af &&
 (Value.oneCell' ag&&(Value.oneCell' ah&&(Value.oneCell' ai&&(Value.oneCell' aq&&(Value.oneCell' ar&&(Value.oneCell' au&&true)))))))) (∀(aj:Nat),Mem.free ab aj->(Tok.mk (slice al am an) 4=Tok.mk (slice
 ad aa c) 4\/slice ad aa c=slice none 0 0\/c < aa+1)/\∃(xs:List Value),∃(ys:List Value),List.length xs=aa*4/\List.length ys=1*4/\rowRd (Mem.add ab aj [af,ag,ah,ai]) ad xs/\rowRd (Mem.add ab
 aj [af,ag,ah,ai]) (some (Addr.mk aj 0 none)) ys/\(∀(u:Value),u∈ys->Value.oneCell' u=true)/\(aa+1)*32<=140737488355328/\aa+1<=9223372036854775807/\∀(a':Option Addr)(c':Nat)(m':Mem),
 Mem.le (Mem.add ab aj [af,ag,ah,ai]) m'->rowRd m' a' (List.append xs ys)->[some (Box.mk b [int u8 aD,int u64 aE,int u64 aF,int u64 aG,int u64 aJ,int i64 aH,int i64 aI,slice aB aA aC]
 27 8 true true)]=[some (Box.mk b [int u8 aD,int u64 aE,int u64 aF,int u64 aG,int u64 aJ,int i64 aH,int i64 aI,slice aB aA aC] 27 8 true true)]/\∃(n':Nat),n' < ao/\I [slice a' (aa +
 1) c',int i64 (IntKind.wrap i64 (ae+(1:Int)))] [] [slice a' (aa+1) c'] m' n')) (∃(m'':Mem),Mem.le m m''/\Mem.le m'' ab/\R (tuple (Array.mk [slice ad aa c,int i64 0])) m'' []))
theorem Zkw(aD aE aF aG aJ aH aI:Int)(aB:Option Addr)(aA aC:Nat)(m:Mem)(R:RT)(h:Zf6 aD aE aF aG aJ aH aI aB aA aC m R):CX Try.prog 18 #[.agg #[.int .u8 aD,.int .u64 aE,.int .u64 aF,.int .u64 aG,.int .u64 aJ,.int .i64 aH,.int .i64 aI,.slice aB aA aC]] m [] R:=
 Zad (E:=ZmL) ZaE mix Try.func18 [.v (.agg #[.int .u8 aD,.int .u64 aE,.int .u64 aF,.int .u64 aG,.int .u64 aJ,.int .i64 aH,.int .i64 aI,.slice aB aA aC])] [] (by kernel_rfl) (Eq.mp (by kernel_rfl) h)
noncomputable def ZcV:Env:=EB
def ZbQ(p0g:Nat)(p0fi p0ca:List Value)(m:Mem)(R:RT):Prop:=
 ∃(R_1:RT),True/\CX Try.prog 101 (Array.mk [slice none 0 0,func (Fn.func p0g) (Array.mk p0fi) (Array.mk p0ca)]) m [] R_1/\Zat Shape.slice R_1/\∀(a:Option Addr)(n c:Nat)(m':Mem),Mem.le m m'->R_1 (slice
 a n c) m' []->∃(m'':Mem),Mem.le m m''/\Mem.le m'' m'/\R (slice a n c) m'' []
theorem ZcL(p0g:Nat)(p0fi p0ca:List Value)(m:Mem)(R:RT)(h:ZbQ p0g p0fi p0ca m R):CX Try.prog 74 #[.func (.func p0g) p0fi.toArray p0ca.toArray] m [] R:=
 Zad (E:=ZcV) ZaE mix Try.func74 [.v (.func (.func p0g) p0fi.toArray p0ca.toArray)] [] (by kernel_rfl) (Eq.mp (by kernel_rfl) h)
noncomputable def Zbz:Env:={ EB with
 loops:=(λi=>bif Nat.beq i 3 then⟨[(7,.agg [.int .i64,.int .i64,.int .i64,.int .i64])],[2],[(11,4)],false⟩ else⟨[],[],[],false⟩)
 tokOf:=(λi=>bif Nat.beq i 11 then 11 else 0)
 capF:=true }
def Za4(p0a:Option Addr)(p0n p0c p1g:Nat)(p1fi p1ca:List Value)(m:Mem)(R:RT):Prop:=
 ∀(b:Nat),∃(xs:List (List Value)),IX Try.prog p1g p1fi p1ca m xs/\(∀(x:List Value),x∈xs->Shape.fitsL [Shape.agg [Shape.int i64,Shape.int i64,Shape.int i64,Shape.int i64]] x=true)/\∃(I:IT),I []
 [[slice p0a p0n p0c]] [slice none 0 0] m 0/\(∀(n n_1 n_2 n_3:Int)(cs:List Value)(a:Option Addr)(n_4 c:Nat)(m':Mem)(n_5:Nat),Mem.le m m'->List.get?Internal xs n_5=some [agg (Array.mk [int i64 n,
 int i64 n_1,int i64 n_2,int i64 n_3])]->I [] [cs] [slice a n_4 c] m' n_5->∀(b_1:Nat),Eng.Zv0 cs 0 λ(v:Value)=>∀(b_2:Nat),Mem.free m' b_2->chk (Zcy v&&true) ((Tok.mk (slice a n_4 c) 4=Tok.mk v 4
 \/ v=slice none 0 0\/slC v < slN v+1)/\∃(xs:List Value),∃(ys:List Value),List.length xs=slN v*4/\List.length ys=1*4/\rowRd (Mem.add m' b_2 [int i64 n,int i64 n_1,int i64 n_2,int i64 n_3]) (slA
 v) xs/\rowRd (Mem.add m' b_2 [int i64 n,int i64 n_1,int i64 n_2,int i64 n_3]) (some (Addr.mk b_2 0 none)) ys/\(∀(u:Value),u∈ys->Value.oneCell' u=true)/\(slN v+1)*32<=140737488355328/\slN v+1 <=
 9223372036854775807/\∀(a':Option Addr)(c':Nat)(m'_1:Mem),Mem.le (Mem.add m' b_2 [int i64 n,int i64 n_1,int i64 n_2,int i64 n_3]) m'_1->rowRd m'_1 a' (List.append xs ys)->slN v+1<=c'->[some (Box.mk b
 [] 50 1 false true)]=[some (Box.mk b [] 50 1 false true)]/\I [] [[slice a' (slN v+1) c']] [slice a' (slN v+1) c'] m'_1 (n_5+1)))/\∀(cs:List Value)(a:Option Addr)(n c:Nat)(m':Mem),Mem.le m m'->I
 [] [cs] [slice a n c] m' (List.length xs)->Eng.Zv0 cs 0 λ(v:Value)=>∃(m'':Mem),Mem.le m m''/\Mem.le m'' m'/\R v m'' []
theorem Zbu(p0a:Option Addr)(p0n p0c p1g:Nat)(p1fi p1ca:List Value)(m:Mem)(R:RT)(h:Za4 p0a p0n p0c p1g p1fi p1ca m R):CX Try.prog 101 #[.slice p0a p0n p0c,.func (.func p1g) p1fi.toArray p1ca.toArray] m [] R:=
 Zad (E:=Zbz) ZaE mix Try.func101 [.v (.slice p0a p0n p0c),.v (.func (.func p1g) p1fi.toArray p1ca.toArray)] [] (by kernel_rfl) (Eq.mp (by kernel_rfl) h)
end Go.Proofs.Ytfgfahnakepegaa
