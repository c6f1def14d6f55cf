/- Part of the proof: functions of the program. No condition. -/
import Derived.Test.YtpjepnkiiojgfaaGreatPC25MJ
import Derived.Test.YtpjepnkiiojgfaaGreatMr
import Derived.Test.YtpjepnkiiojgfaaGreatPEnv
import Derived.Test.YtpjepnkiiojgfaaGreatMc
import Derived.Test.YtpjepnkiiojgfaaGreatPVM
set_option linter.unusedVariables false
set_option linter.unusedSimpArgs false
set_option linter.unusedSectionVars false
noncomputable section
namespace Go.Proofs.YtpjepnkiiojgfaaGreat
open Go Go.Eng Go.Rx Go.Proofs Go.RowKit
set_option maxRecDepth 100000
structure SAct where
 k:Nat
 n:Nat
 pa:Option Addr
 pl:List Nat
 pd:Nat
 ea:Option Addr
 el:List (Nat×Nat×Nat)
 ed:Nat
def SAct.cs(x:SAct):List Value:=[.int .u8 x.k,.int .u8 x.n,.slice x.pa x.pl.length x.pd,.slice x.ea x.el.length x.ed]
theorem SAct.len(x:SAct):x.cs.length=4:=rfl
structure RepSA (m:Mem)(x:SAct):Prop where
 k:x.k < 256
 n:x.n < 256
 p:BytU m x.pa x.pl
 pl:x.pl.length<=1000000000000000
 pd:x.pl.length<=x.pd
 e:SmE m x.ea x.el
 ed:x.el.length<=x.ed
theorem RepSA.mono{m m':Mem}{x:SAct}(h:RepSA m x)(hm:m.le m'):RepSA m' x:=⟨h.k,h.n,h.p.mono hm,h.pl,h.pd,h.e.mono hm,h.ed⟩
theorem SmE.take{m:Mem}{a:Option Addr}{l:List (Nat×Nat×Nat)}(h:SmE m a l)(n:Nat):SmE m a (l.take n):=
 ⟨by rw[List.length_take];have:=h.len;omega,λs hs=>h.byte s (List.mem_of_mem_take hs),λi s hi=>h.at' i s (by
  have aB:=(zA0 hi).1
  rw[List.length_take]at aB
  rw[List.getElem?_take_of_lt (by omega)]at hi;exact hi)⟩
def AcR(c:Int)(F:Ac):Value->Mem->List (List Value)->Prop:=λv m' _=>∃a:Ac,v=.agg a.cs.toArray/\RepA m' a/\MkA c a/\a.er=F
theorem Zx5{c:Int}{F:Ac}:∀(v:Value)(m':Mem) (css:List (List Value)),AcR c F v m' css->Shape.fits (.agg [.int .u8,.str,.slice,.int .u8,.any,.str,.int .i64,.slice]) v=true:=λv _ _ ⟨_,h,_⟩=>by rw[h];rfl
theorem ZAL{k j:Nat}(h:(Int.tmod (k:Int) 4 == (j:Int))=true):k % 4=j:=by
 have e:Int.tmod (k:Int) 4=((k % 4:Nat):Int):=rfl
 rw[e]at h;simp at h;omega
theorem ZBo{k:Nat}(h:(Int.tmod (k:Int) 4 == 2)=true):k % 4=2:=ZAL (j:=2) h
theorem ZBp{k:Nat}(h:(Int.tmod (k:Int) 4 == 3)=true):k % 4=3:=ZAL (j:=3) h
theorem ZAM{k j:Nat}(h:(Int.tmod (k:Int) 4 == (j:Int))=false):¬k % 4=j:=λe=>by
 have e1:Int.tmod (k:Int) 4=((k % 4:Nat):Int):=rfl
 rw[e1,e]at h;simp at h
theorem Zx6{k n:Nat}{pl:List Nat}{el:List (Nat×Nat×Nat)}{c:Int}{s:ByteArray}{a:Option Addr}{d:Nat}{L:List Pt}(h:k % 4=2)(hs:Zcx[n % 2]?=some s)(hL:L.map Pt.er=tmF c (boF c (eF (el.take 8))) pl):(⟨2,s,a,d,L,E0⟩:Ac).er=acF k n pl el c:=by
 unfold acF
 rw[if_pos h,List.getD_eq_getElem?_getD,hs,<-hL]
 simp[Ac.er,Zub]
theorem Zx7{k n:Nat}{pl:List Nat}{el:List (Nat×Nat×Nat)}{c:Int}{s:ByteArray}{e:E}(h:k % 4=3)(hs:ZeR[n % 4]?=some s)(hF:e.er=boF c (eF (el.take 8))):(⟨3,s,none,0,[],e⟩:Ac).er=acF k n pl el c:=by
 unfold acF
 rw[if_neg (by omega),if_pos h,List.getD_eq_getElem?_getD,hs,<-hF]
 simp[Ac.er]
theorem ZvV{k n:Nat}{pl:List Nat}{el:List (Nat×Nat×Nat)}{c:Int}{a:Option Addr}{d:Nat}{L:List Pt}(h2:¬k % 4=2)(h3:¬k % 4=3)(hL:L.map Pt.er=tmF c (boF c (eF (el.take 8))) pl):(⟨1,.empty,a,d,L,E0⟩:Ac).er=acF k n pl el c:=by
 unfold acF
 rw[if_neg h2,if_neg h3,<-hL]
 simp[Ac.er,Zub]
theorem Zuv{c:Int}{l:List Pt}(h:MkT c l):l.length<=few:=by have:=h.len;unfold few;omega
theorem Zx8(x:SAct)(c:Int)(m:Mem)(hx:RepSA m x)(hc : -1<=c/\c<=10000):CX Tryz.prog 86 #[.agg x.cs.toArray,.int .i64 c] m [] (AcR c (acF x.k x.n x.pl x.el c)):=by
 apply Zg7
 intro b m1 aG _ b1
 have sL:=hx.e.len
 have hN:(if(8:Int) < (x.el.length:Int)then(8:Int)else(x.el.length:Int))=((min 8 x.el.length:Nat):Int):=by split <;> omega
 simp only[hN,zA8,Nat.sub_zero]
 have hd:=hx.ed
 have fj:(x.el.take 8).length=min 8 x.el.length:=List.length_take ..
 have hM:=Zs7 (x.el.take 8) x.ea x.ed m1 ((hx.e.mono aG).take 8) (by omega)
 rw[fj]at hM
 refine⟨⟨by omega,by omega⟩,Zan hM ZfR (ZyO λe1 m2 aK dF ⟨uD,dZ⟩=>?_)⟩
 have iW:=uD.len
 refine Zan (ZkV e1 c m2 dF uD.all (by omega)) ZfR (ZyO λe m3 aR hr ⟨he,sM⟩ b2=>Zaa rfl ⟨by omega,?_⟩)
 have hF:e.er=boF c (eF (x.el.take 8)):=by rw[sM,<-Zxw,dZ]
 have hE:MkE c 20 e:=he.toMk (by omega)
 have dA:=mLt aG (mLt aK aR)
 have kW:=hx.mono dA
 refine Zab (λh2=>?_) (λh2=>Zab (λh3=>?_) (λh3=>?_))
 ·refine⟨λk _ _=>if k=0 then ZyR Zcx else TmR c (tmF c e.er x.pl),_,rfl,ZmF m3,Zdh,?_⟩
  rintro a5 n5 c5 m5 cP ⟨a',c',fB,eD⟩
  simp only[Value.slice.injEq]at fB
  obtain⟨rfl,rfl,rfl⟩:=fB
  have aB:x.n % 2 < 2:=Nat.mod_lt _ (by omega)
  obtain⟨s,hs⟩:=Zao (l:=Zcx) (k:=x.n % 2) aB
  have iY:=zA2 hs
  obtain⟨b6,o6,ij,cz⟩:=ZcX eD hs
  have bJ:s.size<=1000000000000000:=by have:=ZjP s iY;omega
  have hu:Int.tmod (x.n:Int) 2=((x.n % 2:Nat):Int):=rfl
  refine⟨by omega,b6,o6,ij,by rw[hu];exact⟨by omega,by show((x.n % 2:Nat):Int) < (2:Nat);omega⟩,_,by rw[hu,zA8];exact cz,s,rfl,_,rfl,ZiE x.pl x.pa x.pd e c m5 (kW.p.mono cP) hx.pd hx.pl (hr.mono' cP) hE hc,Zut,?_⟩
  rintro a7 n7 c7 m7 eo ⟨L,aL,dL,po,aC,aP,hT,nT⟩ M iO _ fA
  simp only[Value.slice.injEq]at po
  obtain⟨rfl,rfl,rfl⟩:=po
  exact ZaN (mLt dA iO) ⟨⟨2,s,a7,c7,L,E0⟩,rfl,⟨by show(0:Int)<=2/\(2:Int) < 256;omega,bJ,Zuv hT,aC.mono fA,λp hp=>(aP p hp).mono fA,Zy9 M⟩,.set s iY _ _ L hT,Zx6 (ZBo h2) hs (hF ▸ nT)⟩
 ·refine⟨λ_ _ _=>ZyR ZeR,_,rfl,ZhC m3,Zdh,?_⟩
  rintro a5 n5 c5 m5 cP ⟨a',c',fB,eD⟩
  simp only[Value.slice.injEq]at fB
  obtain⟨rfl,rfl,rfl⟩:=fB
  have aB:x.n % 4 < 4:=Nat.mod_lt _ (by omega)
  obtain⟨s,hs⟩:=Zao (l:=ZeR) (k:=x.n % 4) aB
  have iY:=zA2 hs
  obtain⟨b6,o6,ij,cz⟩:=ZcX eD hs
  have bJ:s.size<=1000000000000000:=by have:=ZjI s iY;omega
  have hu:Int.tmod (x.n:Int) 4=((x.n % 4:Nat):Int):=rfl
  refine⟨by omega,b6,o6,ij,by rw[hu];exact⟨by omega,by show((x.n % 4:Nat):Int) < (4:Nat);omega⟩,_,by rw[hu,zA8];exact cz,s,rfl,Zaa rfl λM iO fh=>?_⟩
  exact ZaN (mLt dA iO) ⟨⟨3,s,none,0,[],e⟩,rfl,⟨by show(0:Int)<=3/\(3:Int) < 256;omega,bJ,by simp,.inl rfl,by simp,hr.mono' iO⟩,.let_ s iY e hE,Zx7 (ZBp h3) hs hF⟩
 ·refine Zan (ZiE x.pl x.pa x.pd e c m3 kW.p hx.pd hx.pl hr hE hc) Zut ?_
  rintro a7 n7 c7 m7 eo ⟨L,aL,dL,po,aC,aP,hT,nT⟩
  simp only[Value.slice.injEq]at po
  obtain⟨rfl,rfl,rfl⟩:=po
  exact ZaN (mLt dA eo) ⟨⟨1,.empty,a7,c7,L,E0⟩,rfl,⟨by show(0:Int)<=1/\(1:Int) < 256;omega,by show ByteArray.empty.size<=_;rw[ZaU];omega,Zuv hT,aC,aP,Zy9 m7⟩,.send _ _ L hT,ZvV (ZAM h2) (ZAM h3) (hF ▸ nT)⟩
structure SRul where
 k:Nat
 n:Nat
 t:Nat
 g:Nat
 ra:Option Addr
 rl:List (Nat×Nat×Nat)
 rd:Nat
 aa:Option Addr
 al:List SAct
 ad:Nat
def SRul.cs(x:SRul):List Value:=[.int .u8 x.k,.int .u8 x.n,.int .u8 x.t,.int .u8 x.g,.slice x.ra x.rl.length x.rd,.slice x.aa x.al.length x.ad]
theorem SRul.len(x:SRul):x.cs.length=6:=rfl
structure RepSR (m:Mem)(x:SRul):Prop where
 k:x.k < 256
 n:x.n < 256
 t:x.t < 256
 g:x.g < 256
 r:Sm m x.ra x.rl
 rd:x.rl.length<=x.rd
 al:x.al.length<=1000000000000000
 ad:x.al.length<=x.ad
 row:rowRd m x.aa (x.al.map SAct.cs).flatten
 all:∀a∈x.al,RepSA m a
theorem RepSR.mono{m m':Mem}{x:SRul}(h:RepSR m x)(hm:m.le m'):RepSR m' x:=⟨h.k,h.n,h.t,h.g,h.r.mono hm,h.rd,h.al,h.ad,h.row.mono hm,λa ha=>(h.all a ha).mono hm⟩
def acX(c:Int)(a:SAct):Ac:=acF a.k a.n a.pl a.el c
def Zzh:List ByteArray:=[⟨#[97]⟩,⟨#[98]⟩,⟨#[97,98]⟩,⟨#[98,97]⟩,⟨#[97,97,98]⟩,⟨#[99]⟩]
def k0K(x:SRul)(k:Nat):Ru:=
 if k<=2 then⟨1,Int.tmod (x.n:Int) 5 == 4,Int.tmod (x.n:Int) 7 == 6,tF x.rl,.empty,0,none,0,[],.empty,0⟩
 else if k<=4 then⟨2,false,false,T0,Zzh.getD (x.n % 6) .empty,0,none,0,[],.empty,0⟩
 else if k=5 then⟨3,false,false,T0,.empty,0,none,0,[],.empty,0⟩
 else⟨4,false,false,T0,.empty,IntKind.i64.wrap (1+IntKind.i64.wrap (Int.tmod (x.t:Int) 8)),none,0,[],.empty,0⟩
def goF(x:SRul)(p:Nat):ByteArray:=if x.g % 8 < 6 then ZtW.getD (x.g % 8 % p) .empty else .empty
def Zx9(x:SRul):Int:=if x.g % 8 < 6 then 0 else((x.g % 8*41 % 256:Nat):Int)
def ruF(x:SRul)(p:Nat):Ru:={ k0K x (x.k % 8)with acts:=(x.al.take 3).map (acX (Zcn (k0K x (x.k % 8)))),go:=goF x p,code:=Zx9 x }
theorem Zzi:T0.er=T0:=by simp[T0,T.er,erL]
section
variable {x:SRul} {k:Nat}
theorem ZvW{t:T}(h:k<=2)(ht:t.er=tF x.rl):(⟨1,Int.tmod (x.n:Int) 5 == 4,Int.tmod (x.n:Int) 7 == 6,t,.empty,0,none,0,[],.empty,0⟩:Ru).er=k0K x k:=by
 unfold k0K
 rw[if_pos h,<-ht];rfl
theorem ZvX{s:ByteArray}(h:¬k<=2)(h4:k<=4)(hs:Zzh.getD (x.n % 6) .empty=s):(⟨2,false,false,T0,s,0,none,0,[],.empty,0⟩:Ru).er=k0K x k:=by
 unfold k0K
 rw[if_neg h,if_pos h4,hs];simp[Ru.er,Zzi]
theorem Zz6(h:¬k<=2)(h4:¬k<=4)(h5:k=5):(⟨3,false,false,T0,.empty,0,none,0,[],.empty,0⟩:Ru).er=k0K x k:=by
 unfold k0K
 rw[if_neg h,if_neg h4,if_pos h5];simp[Ru.er,Zzi]
theorem Zya(h:¬k<=2)(h4:¬k<=4)(h5:¬k=5):(⟨4,false,false,T0,.empty,IntKind.i64.wrap (1+IntKind.i64.wrap (Int.tmod (x.t:Int) 8)),none,0,[],.empty,0⟩:Ru).er=k0K x k:=by
 unfold k0K
 rw[if_neg h,if_neg h4,if_neg h5];simp[Ru.er,Zzi]
theorem Zyb{r:Ru}{p:Nat}{L:List Ac}{a:Option Addr}{d:Nat}{go:ByteArray}{code:Int}(hr:r.er=k0K x (x.k % 8))(hL:L.map Ac.er=(x.al.map (acX (Zcn r))).take L.length)(hl:L.length=min 3 x.al.length)(hg:go=goF x p)(hc:code=Zx9 x):({ r with acts:=L,aa:=a,ac:=d,go:=go,code:=code }:Ru).er=ruF x p:=by
 unfold ruF
 rw[<-hr,Zvl,<-hg,<-hc]
 have e:L.map Ac.er=(x.al.take 3).map (acX (Zcn r)):=by
  rw[hL,List.map_take,hl,List.take_eq_take_iff,List.length_map];omega
 rw[<-e];rfl
end
theorem ZoA{α β γ:Type}{g:α->β}{f:γ->β}{ts:List α}{l:List γ}{x:γ}{t:α}(h:ts.map g=(l.map f).take ts.length)(hx:l[ts.length]?=some x)(ht:g t=f x):(ts++[t]).map g=(l.map f).take (ts++[t]).length:=by
 rw[List.map_append,h,zA1,List.length_singleton,List.take_add_one,List.getElem?_map,hx]
 simp[ht]
def RuR(n:Nat)(F:Ru):Value->Mem->List (List Value)->Prop:=λv m' _=>∃r:Ru,v=.agg r.cs.toArray/\RepR m' r/\MkR n r/\r.er=F
theorem Zyc{n:Nat}{F:Ru}:∀(v:Value)(m':Mem) (css:List (List Value)),RuR n F v m' css->Shape.fits (.agg [.int .u8,.bool,.bool,.int .u8,.int .u64,.int .u64,.int .u64,.int .u64,.int .i64,.int .i64,.slice,.str,.int .i64,.slice,.str,.int .i64]) v=true:=λv _ _ ⟨_,h,_⟩=>by rw[h];rfl
theorem Ac.one(a:Ac):∀u∈a.cs,u.oneCell'=true:=by
 intro u hu
 simp only[Ac.cs,List.mem_cons,List.not_mem_nil,or_false]at hu
 rcases hu with rfl|rfl|rfl|rfl|rfl|rfl|rfl|rfl <;> rfl
structure Ru0 (m:Mem)(r:Ru):Prop where
 kind:Zzb r
 t:Rep m r.t
 acts:r.acts=[]/\r.aa=none/\r.ac=0
 go:r.go=.empty/\r.code=0
theorem Zzj(m:Mem):Rep m T0:=by
 simp only[T0,Rep]
 exact⟨by simp,.inl trivial,⟨by omega,by omega,by omega,by omega,by omega,by omega,by omega⟩⟩
theorem Zyd{r:Ru}(h:Zzb r):(0<=r.k/\r.k < 256)/\r.s.size<=1000000000000000/\I64 r.n:=by
 unfold I64
 rcases h with⟨h1,_,_,h2,h3⟩|⟨_,⟨h1,h2,h3,h4⟩|⟨h1,h2,h3⟩|⟨h1,h2,h3,h4⟩⟩
 ·rw[h2,ZaU];omega
 ·omega
 ·rw[h2,ZaU];omega
 ·rw[h2,ZaU];omega
theorem ZoB{t:T}(h:t.light=true):t.groups=(t.gr:Nat):=by unfold T.groups;rw[h];rfl
theorem ZCt:∀j < 6,∃s:ByteArray,Zzh.getD j .empty=s/\[Value.string ⟨#[97]⟩,.string ⟨#[98]⟩,.string ⟨#[97,98]⟩,.string ⟨#[98,97]⟩,.string ⟨#[97,97,98]⟩,.string ⟨#[99]⟩][j*1]?=some (.string s)/\1<=s.size/\s.size<=3:=by
 intro j hj
 have:j=0\/j=1\/j=2\/j=3\/j=4\/j=5:=by omega
 rcases this with rfl|rfl|rfl|rfl|rfl|rfl <;> exact⟨_,rfl,rfl,by decide,by decide⟩
set_option maxHeartbeats 2000000 in
theorem ZvY(x:SRul)(p:Nat)(m:Mem)(hx:RepSR m x)(hp:1<=p/\p<=4):CX Tryz.prog 44 #[.agg x.cs.toArray,.int .i64 p] m [] (RuR p (ruF x p)):=by
 apply ZjN
 intro b m1 aG _ b1 b2
 have dZ:=hx.mono aG
 have sC:Int.tmod (x.k:Int) 8=((x.k % 8:Nat):Int):=rfl
 have qx:x.k % 8 < 8:=Nat.mod_lt _ (by omega)
 refine⟨λxs css _ M=>∃r:Ru,xs=[.int .i64 (Zcn r)]/\css=[r.cs]/\Ru0 M r/\r.er=k0K x (x.k % 8),⟨_,rfl,by omega,?_⟩,?_⟩
 ·simp only[sC]
  generalize x.k % 8=k at qx
  refine⟨λxs _ _ m'=>xs=[.bool (decide (k<=2))]/\m1.le m',Zab (λh=>⟨trivial,?_,Mem.le_refl _⟩) (λh=>Zab (λh2=>⟨trivial,?_,Mem.le_refl _⟩) (λh2=>⟨trivial,?_,Mem.le_refl _⟩)),?_⟩
  ·have:k=0:=by simp at h;omega
   rw[h,this];rfl
  ·have:k=1:=by simp at h2;omega
   rw[h2,this];rfl
  ·have h0:¬k=0:=by simp at h;omega
   have h1:¬k=1:=by simp at h2;omega
   refine Zaq ?_
   rw[Bool.eq_iff_iff];simp;omega
  rintro c2 m2 aK ⟨ss,_⟩
  obtain rfl:c2=decide (k<=2):=by simpa using ss
  refine ZaB (λhk=>?_) (λhk=>?_)
  ·have hM:=Zp2 x.rl x.ra x.rd m2 (dZ.r.mono aK) hx.rd
   refine⟨λ_ _ _=>ZnE (λt=>(t.check=0/\t.nodes.length<=26)/\t.er=tF x.rl),_,rfl,by omega,_,rfl,by omega,_,rfl,hM,Ze9,ZpB λt m3 aR e7 ⟨ht,wP⟩ M _ fA=>?_⟩
   have hl:t.nodes.length<=10000:=by omega
   refine ZcQ (ZkW t M (e7.mono fA) hl) λm4 cE=>⟨trivial,⟨1,Int.tmod (x.n:Int) 5 == 4,Int.tmod (x.n:Int) 7 == 6,t,.empty,0,none,0,[],.empty,0⟩,?_,rfl,⟨.inl ⟨rfl,ht.1,ht.2,rfl,rfl⟩,e7.mono (mLt fA cE),⟨rfl,rfl,rfl⟩,rfl,rfl⟩,ZvW hk wP⟩
   have hg:=ZoB (Zjj hl)
   show[Value.int .i64 _]=[Value.int .i64 (if(1:Int)=1 then t.groups else _)]
   rw[if_pos rfl,hg]
  ·refine⟨λxs _ _ m'=>xs=[.bool (decide (k<=4))]/\m2.le m',Zab (λh=>⟨trivial,?_,Mem.le_refl _⟩) (λh=>⟨trivial,?_,Mem.le_refl _⟩),?_⟩
   ·have:k=3:=by simp at h;omega
    rw[h,this];rfl
   ·have:¬k=3:=by simp at h;omega
    refine Zaq ?_
    rw[Bool.eq_iff_iff];simp;omega
   rintro c3 m3 aR ⟨uE,_⟩
   obtain rfl:c3=decide (k<=4):=by simpa using uE
   refine ZaB (λj4=>λb5 iX=>?_) (λj4=>Zab (λh5=>⟨trivial,⟨3,false,false,T0,.empty,0,none,0,[],.empty,0⟩,rfl,rfl,⟨.inr ⟨⟨rfl,rfl,rfl⟩,.inr (.inl ⟨rfl,rfl,rfl⟩)⟩,Zzj _,⟨rfl,rfl,rfl⟩,rfl,rfl⟩,Zz6 hk j4 (by have:=h5;simp at this;omega)⟩) (λh5=>⟨_,rfl,by omega,trivial,?_⟩))
   ·have uF:Int.tmod (x.n:Int) 6=((x.n % 6:Nat):Int):=rfl
    have h6:x.n % 6 < 6:=Nat.mod_lt _ (by omega)
    obtain⟨s,d5,hs,kP,j7⟩:=ZCt (x.n % 6) h6
    refine⟨_,rfl,by omega,by rw[uF];exact⟨by omega,by omega⟩,Zam (by rw[uF,zA8];exact hs) ⟨s,rfl,λM _ _=>⟨trivial,⟨2,false,false,T0,s,0,none,0,[],.empty,0⟩,rfl,rfl,⟨.inr ⟨⟨rfl,rfl,rfl⟩,.inl ⟨rfl,kP,j7,rfl⟩⟩,Zzj _,⟨rfl,rfl,rfl⟩,rfl,rfl⟩,ZvX hk j4 d5⟩⟩⟩
   ·have jg:Int.tmod (x.t:Int) 8=((x.t % 8:Nat):Int):=rfl
    have h8:x.t % 8 < 8:=Nat.mod_lt _ (by omega)
    have hw:IntKind.i64.wrap (1+IntKind.i64.wrap (Int.tmod (x.t:Int) 8))=((1+x.t % 8:Nat):Int):=by rw[jg,Zal (n:=((x.t % 8:Nat):Int)) (by omega) (by omega),Zal (by omega) (by omega)];omega
    exact⟨⟨4,false,false,T0,.empty,IntKind.i64.wrap (1+IntKind.i64.wrap (Int.tmod (x.t:Int) 8)),none,0,[],.empty,0⟩,rfl,rfl,⟨.inr ⟨⟨rfl,rfl,rfl⟩,.inr (.inr ⟨rfl,rfl,by show 1<=IntKind.i64.wrap (1+IntKind.i64.wrap (Int.tmod (x.t:Int) 8));rw[hw];omega,by show IntKind.i64.wrap (1+IntKind.i64.wrap (Int.tmod (x.t:Int) 8))<=8;rw[hw];omega⟩)⟩,Zzj _,⟨rfl,rfl,rfl⟩,rfl,rfl⟩,Zya hk j4 (by have:=h5;simp at this;omega)⟩
 rintro cn cs m2 aK ⟨r,iz,iZ,hR,uG⟩
 simp only[List.cons.injEq,Value.int.injEq,true_and,and_true]at iz iZ
 subst iz iZ
 have iA:=hx.al
 have yd:=hx.ad
 have hN:(if(3:Int) < (x.al.length:Int)then(3:Int)else(x.al.length:Int))=((min 3 x.al.length:Nat):Int):=by split <;> omega
 simp only[hN,zA8,Nat.sub_zero]
 generalize mQ:min 3 x.al.length=N
 have cS : -1<=Zcn r/\Zcn r<=10000:=by
  refine⟨ZqR r,?_⟩
  unfold Zcn
  rcases hR.kind with⟨h1,h2,h3,_⟩|⟨_,⟨h1,_⟩|⟨h1,_⟩|⟨h1,_⟩⟩ <;> rw[h1]
  ·rw[if_pos rfl,ZoB (Zjj (by omega))]
   have:r.t.gr<=r.t.nodes.length:=List.countP_le_length
   omega
  ·rw[if_neg (by decide),if_pos rfl];omega
  ·rw[if_neg (by decide),if_neg (by decide)];omega
  ·rw[if_neg (by decide),if_neg (by decide)];omega
 have gz:=dZ.mono aK
 refine⟨⟨by omega,by omega⟩,λxs css tvs m' q=>∃(L:List Ac)(a:Option Addr)(d:Nat),L.length<=N/\xs=[.int .i64 L.length]/\css=[({ r with acts:=L,aa:=a,ac:=d }:Ru).cs]/\tvs=[.slice a L.length d]/\rowRd m' a (L.map Ac.cs).flatten/\(∀y∈L,RepA m' y)/\(∀y∈L,MkA (Zcn r) y)/\L.map Ac.er=(x.al.map (acX (Zcn r))).take L.length/\q=N - L.length,⟨N,[],none,0,by simp,rfl,?_,rfl,.inl rfl,by simp,by simp,rfl,rfl⟩,?_⟩
 ·show[r.cs]=[_]
  unfold Ru.cs
  rw[hR.acts.1,hR.acts.2.1,hR.acts.2.2]
 rintro z cs a n1 d m3 q aR ⟨L,a',d',ye,hz,bX,cQ,aC,aP,gT,sN,rfl⟩
 simp only[List.cons.injEq,Value.slice.injEq,Value.int.injEq,true_and,and_true]at hz bX cQ
 obtain⟨rfl,rfl,rfl⟩:=cQ
 subst hz bX
 have dA:=mLt aG (mLt aK aR)
 refine ZaB (λaB=>?_) (λbO=>?_)
 ·have aJ:L.length < N:=by omega
  obtain⟨y,hy⟩:=Zao (l:=x.al) (k:=L.length) (by omega)
  obtain⟨b3,o3,ew,gk⟩:=Zaj SAct.len (gz.mono aR).row hy (by omega)
  have hw:IntKind.i64.wrap ((L.length:Int)+1)=((L.length+1:Nat):Int):=by rw[Zal (by omega) (by omega)];rfl
  refine⟨b3,o3,ew,⟨by omega,aB⟩,_,_,_,_,gk,λb4=>Zaa rfl ⟨λ_ _ _=>AcR (Zcn r) (acX (Zcn r) y),Zam rfl ⟨_,rfl,Zx8 y (Zcn r) m3 ((gz.mono aR).all y (zA2 hy)) cS,Zx5,?_⟩⟩⟩
  rintro n s a3 n3 c3 n5 v s1 n6 a4 n7 c4 m4 cE ⟨w,hv,kA,sO,sP⟩ b5 iX
  simp only[Ac.cs,Value.agg.injEq,Array.mk.injEq,List.cons.injEq,Value.int.injEq,Value.string.injEq,Value.slice.injEq,true_and,and_true]at hv
  obtain⟨rfl,rfl,⟨rfl,rfl,rfl⟩,rfl,rfl,rfl,rfl,rfl,rfl,rfl⟩:=hv
  refine Zaa rfl ?_
  refine Zg0 Ac.len Ac.one iX w (aC.mono cE) 112 (by omega) (by omega) (.inl rfl) λa5 c5 m5 cP cw=>Zaa rfl λM _ fh fA gt=>⟨trivial,N - (L.length+1),by omega,L++[w],a5,c5,by rw[zA1];exact aJ,by rw[hw,zA1];rfl,?_,by rw[zA1];rfl,cw.mono gt,?_,?_,ZoA sN hy sP,by rw[zA1];rfl⟩
  ·unfold Ru.cs;rw[zA1];rfl
  ·intro z hz
   rcases List.mem_append.1 hz with hz|hz
   ·exact(aP z hz).mono (mLt cE fh)
   ·rw[List.mem_singleton]at hz;subst hz;exact kA.mono fh
  ·intro z hz
   rcases List.mem_append.1 hz with hz|hz
   ·exact gT z hz
   ·rw[List.mem_singleton]at hz;subst hz;exact sO
 ·have wQ:Int.tmod (x.g:Int) 8=((x.g % 8:Nat):Int):=rfl
  have sI:IntKind.i64.wrap (Int.tmod (x.g:Int) 8)=((x.g % 8:Nat):Int):=by rw[wQ,Zal (by omega) (by omega)]
  have hg:x.g % 8 < 8:=Nat.mod_lt _ (by omega)
  have e9:=Zyd hR.kind
  have base:∀{M:Mem},m3.le M->∀(go:ByteArray)(code:Int),go.size<=16->(0<=code/\code<=255)->RepR M { r with acts:=L,aa:=a,ac:=d,go:=go,code:=code }:=λ{M} hM go code h1 h2=>
   ⟨e9.1,hR.t.mono (mLt aR hM),e9.2.1,e9.2.2,by show L.length<=few;unfold few;omega,aC.mono hM,λy hy=>(aP y hy).mono hM,by show go.size<=_;omega,by show I64 code;unfold I64;omega⟩
  refine⟨λ_ css _ M=>∃r':Ru,css=[r'.cs]/\RepR M r'/\MkR p r'/\r'.er=ruF x p,⟨_,rfl,by omega,?_⟩,?_⟩
  have uH:L.length=min 3 x.al.length:=by omega
  rw[sI]
  generalize qB:x.g % 8=g at hg
  refine ZaB (λh6=>?_) (λh6=>⟨by omega,Zaa rfl ⟨trivial,trivial,?_⟩⟩)
  ·refine⟨λ_ _ _=>ZyR ZtW,_,rfl,Zov m3,Zdh,?_⟩
   rintro a5 n5 c5 m5 cP ⟨a',c',fB,eD⟩
   simp only[Value.slice.injEq]at fB
   obtain⟨rfl,rfl,rfl⟩:=fB
   have wT:g % p < p:=Nat.mod_lt _ (by omega)
   obtain⟨s,hs⟩:=Zao (l:=ZtW) (k:=g % p) (by show g % p < 4;omega)
   have iY:=zA2 hs
   obtain⟨b6,o6,ij,cz⟩:=ZcX eD hs
   have hu:Int.tmod (g:Int) (p:Int)=((g % p:Nat):Int):=rfl
   refine⟨by omega,b6,o6,ij,by rw[hu];exact⟨by omega,by show((g % p:Nat):Int) < (4:Nat);omega⟩,_,by rw[hu,zA8];exact cz,s,rfl,Zaa rfl λM iO _=>⟨trivial,trivial,{ r with acts:=L,aa:=a,ac:=d,go:=s,code:=0 },?_,base iO s 0 (by have:=Zmt s iY;omega) (by omega),⟨hR.kind,by show L.length<=3;omega,gT,.inl ⟨⟨g % p,wT,hs⟩,rfl⟩⟩,Zyb uG sN uH (by unfold goF;rw[qB,if_pos (by omega),List.getD_eq_getElem?_getD,hs];rfl) (by unfold Zx9;rw[qB,if_pos (by omega)])⟩⟩
   show[_]=[_]
   unfold Ru.cs ZaH
   rw[hR.go.2];rfl
  ·have ge:Int.tmod (IntKind.i64.wrap ((g:Int)*41)) 256=((g*41 % 256:Nat):Int):=by
    rw[show((g:Int)*41)=((g*41:Nat):Int) by omega,Zal (by omega) (by omega)];rfl
   rw[ge]
   have pk:g*41 % 256 < 256:=Nat.mod_lt _ (by omega)
   refine⟨{ r with acts:=L,aa:=a,ac:=d,go:=.empty,code:=((g*41 % 256:Nat):Int) },?_,base (Mem.le_refl _) _ _ (by rw[ZaU];omega) (by omega),⟨hR.kind,by show L.length<=3;omega,gT,.inr ⟨rfl,by show 0<=((g*41 % 256:Nat):Int)/\((g*41 % 256:Nat):Int)<=255;omega⟩⟩,Zyb uG sN uH (by unfold goF;rw[qB,if_neg (by omega)]) (by unfold Zx9;rw[qB,if_neg (by omega)])⟩
   show[_]=[_]
   unfold Ru.cs ZaH
   rw[hR.go.1];rfl
  ·rintro cs m5 cP ⟨r',bX,hr',hk',hF'⟩
   obtain rfl:cs=r'.cs:=by simpa using bX
   exact Zaa rfl (ZaN (mLt dA cP) ⟨r',rfl,hr',hk',hF'⟩)
theorem ZjQ{α:Type}{cs:α->List Value}{n:Nat}(hn:∀x,(cs x).length=n)(h1:∀x,∀u∈cs x,u.oneCell'=true){m3:Mem}{b3:Nat}(hf:m3.free b3){a:Option Addr}{ts:List α}(t:α)(aC:rowRd m3 a (ts.map cs).flatten)(sz:Nat)(bJ:(ts.length+1)*sz<=140737488355328)(hl:ts.length<=1000000){P Q:Prop}(hp:P\/Q){K:Option Addr->Nat->Mem->Prop}
  (k:∀(a':Option Addr)(c':Nat)(m4:Mem),(m3.add b3 (cs t)).le m4->rowRd m4 a' ((ts++[t]).map cs).flatten->ts.length+1<=c'->K a' c' m4):
  (P\/Q)/\∃xs ys:List Value,xs.length=ts.length*n/\ys.length=1*n/\rowRd (m3.add b3 (cs t)) a xs/\rowRd (m3.add b3 (cs t)) (some ⟨b3,0,none⟩) ys/\(∀u:Value,u∈ys->u.oneCell'=true)/\(ts.length+1)*sz<=140737488355328/\ts.length+1<=9223372036854775807/\
   ∀(a':Option Addr)(c':Nat)(m4:Mem),(m3.add b3 (cs t)).le m4->rowRd m4 a' (List.append xs ys)->ts.length+1<=c'->K a' c' m4:=
 ⟨hp,(ts.map cs).flatten,cs t,Za3 hn ts,by rw[hn,Nat.one_mul],aC.mono (Mem.le_add hf _),Zbk,h1 t,bJ,by omega,λa' c' m4 hm hr hc=>k a' c' m4 hm (by rw[ZjH];exact hr) hc⟩
structure SSta where
 a:Option Addr
 l:List SRul
 d:Nat
def SSta.cs(x:SSta):List Value:=[.slice x.a x.l.length x.d]
theorem SSta.len(x:SSta):x.cs.length=1:=rfl
structure RepSS (m:Mem)(x:SSta):Prop where
 l:x.l.length<=1000000000000000
 d:x.l.length<=x.d
 row:rowRd m x.a (x.l.map SRul.cs).flatten
 all:∀r∈x.l,RepSR m r
theorem RepSS.mono{m m':Mem}{x:SSta}(h:RepSS m x)(hm:m.le m'):RepSS m' x:=⟨h.l,h.d,h.row.mono hm,λa ha=>(h.all a ha).mono hm⟩
structure SScr where
 n:Nat
 va:Option Addr
 vl:List Nat
 vd:Nat
 sa:Option Addr
 sl:List SSta
 sd:Nat
def SScr.cs(x:SScr):List Value:=[.int .u8 x.n,.slice x.va x.vl.length x.vd,.slice x.sa x.sl.length x.sd]
theorem SScr.len(x:SScr):x.cs.length=3:=rfl
structure RepSC (m:Mem)(x:SScr):Prop where
 n:x.n < 256
 v:BytU m x.va x.vl
 vl:x.vl.length<=1000000000000000
 sl:x.sl.length<=1000000000000000
 sd:x.sl.length<=x.sd
 row:rowRd m x.sa (x.sl.map SSta.cs).flatten
 all:∀s∈x.sl,RepSS m s
theorem RepSC.mono{m m':Mem}{x:SScr}(h:RepSC m x)(hm:m.le m'):RepSC m' x:=⟨h.n,h.v.mono hm,h.vl,h.sl,h.sd,h.row.mono hm,λa ha=>(h.all a ha).mono hm⟩
def ZAZ(x:SScr)(i:Nat):Nat:=x.vl.getD (i % x.vl.length) 0
def ByR(x:SScr)(i:Nat):Value->Mem->List (List Value)->Prop:=λv _ _=>∃n:Nat,v=.int .i64 n/\n < 256/\n=ZAZ x i
theorem Zuw{x:SScr}{i:Nat}:∀(v:Value)(m':Mem) (css:List (List Value)),ByR x i v m' css->Shape.fits (.int .i64) v=true:=λv _ _ ⟨_,h,_⟩=>by rw[h];rfl
theorem Zye(x:SScr)(b:Nat)(i:Nat)(m:Mem)(hb:m.reads b 0 x.cs)(hx:RepSC m x)(hi:i<=1000):CX Tryz.prog 43 #[.int .i64 i,.pointer (some ⟨b,0,none⟩)] m [] (ByR x i):=by
 apply Zg4
 have h1:=hb 1 _ rfl
 refine⟨_,h1,Zaa rfl (Zab (λh=>ZaN (Mem.le_refl _) ⟨0,rfl,by omega,by
  have e:x.vl.length=0:=by have:=h;simp[slN]at this;first|exact this|(rw[this];rfl)
  have e2:x.vl=[]:=List.eq_nil_of_length_eq_zero e
  unfold ZAZ;rw[e2];rfl⟩) (λh=>⟨_,h1,_,h1,Zaa rfl ⟨?_,Zaa rfl ?_⟩⟩))⟩
 ·show(x.vl.length:Int)≠0
  have:¬((x.vl.length:Int)=0):=by simpa[slN]using h
  exact this
 have h0:x.vl.length≠0:=by
  intro e
  have:¬((x.vl.length:Int)=0):=by simpa[slN]using h
  omega
 have aB:i % x.vl.length < x.vl.length:=Nat.mod_lt _ (by omega)
 obtain⟨n,hn⟩:=Zao aB
 obtain⟨iL,b1,o1,fb,dF⟩:=hx.v.get hn
 have kV:Int.tmod (i:Int) ((slN (.slice x.va x.vl.length x.vd):Nat):Int)=((i % x.vl.length:Nat):Int):=rfl
 refine⟨b1,o1,fb,by rw[kV];exact⟨by omega,by show((i % x.vl.length:Nat):Int) < (x.vl.length:Nat);omega⟩,_,by rw[kV,zA8];exact dF,_,rfl,ZaN (Mem.le_refl _) ⟨n,?_,iL,by unfold ZAZ;rw[List.getD_eq_getElem?_getD,hn];rfl⟩⟩
 rw[Zal (by omega) (by omega)]
theorem Zz7(n:Int):ConvIs Tryz.prog 3 49 (.int .i64 n) (.float .f64 (FloatKind.f64.nearest n)):=λw=>by
 simp[convert,Tryz.underlying3,Tryz.underlying49,Conv.intToFloat]
theorem ZBq:∀n:Fin 5,((FloatKind.f64.format.div (FloatKind.f64.nearest (n:Nat)) 4611686018427387904).any ZgI)=true:=by decide +kernel
def Zyf:List ByteArray:=[⟨#[]⟩,⟨#[97]⟩,⟨#[98,98]⟩,⟨#[49]⟩,⟨#[48,46,53]⟩]
theorem ZBr:∀j < 5,∃s:ByteArray,Zyf.getD j .empty=s/\[Value.string ⟨#[]⟩,.string ⟨#[97]⟩,.string ⟨#[98,98]⟩,.string ⟨#[49]⟩,.string ⟨#[48,46,53]⟩][j*1]?=some (.string s)/\s.size<=3:=by
 intro j hj
 have:j=0\/j=1\/j=2\/j=3\/j=4:=by omega
 rcases this with rfl|rfl|rfl|rfl|rfl <;> exact⟨_,rfl,rfl,by decide⟩
theorem Va.one(a:Va):∀u∈a.cs,u.oneCell'=true:=by
 intro u hu
 simp only[Va.cs,List.mem_cons,List.not_mem_nil,or_false]at hu
 rcases hu with rfl|rfl|rfl|rfl <;> rfl
theorem Sta.one(a:Sta):∀u∈a.cs,u.oneCell'=true:=by
 intro u hu
 simp only[Sta.cs,List.mem_cons,List.not_mem_nil,or_false]at hu
 rcases hu with rfl|rfl <;> rfl
theorem Ru.one(a:Ru):∀u∈a.cs,u.oneCell'=true:=by
 intro u hu
 simp only[Ru.cs,List.mem_cons,List.not_mem_nil,or_false]at hu
 rcases hu with rfl|rfl|rfl|rfl|rfl|rfl|rfl|rfl|rfl|rfl|rfl|rfl|rfl|rfl|rfl|rfl <;> rfl
def Zzk(x:SScr)(j:Nat):Va:=if j < 4 then⟨ZeR.getD j .empty,true,.empty,(FloatKind.f64.format.div (FloatKind.f64.nearest ((ZAZ x j % 5:Nat):Int)) 4611686018427387904).getD 0⟩ else⟨Zcx.getD (j - 4) .empty,false,Zyf.getD (ZAZ x j % 5) .empty,0⟩
def ZA0(x:SScr)(N j:Nat):Sta:=⟨ZtW.getD j .empty,none,0,match x.sl[j]? with
 | some y=>(y.l.take 5).map λr=>ruF r N
 | none=>[]⟩
def scF(x:SScr):Sc:=⟨((2+x.n % 11:Nat):Int),none,0,(List.range 6).map (Zzk x),none,0,if min 4 x.sl.length=0 then[⟨⟨#[97]⟩,none,0,[]⟩]else(List.range (min 4 x.sl.length)).map (ZA0 x (min 4 x.sl.length))⟩
theorem ZkZ{α β:Type}{g:α->β}{f:Nat->β}{L:List α}{n:Nat}(hl:L.length=n)(h:∀j v,L[j]?=some v->g v=f j):L.map g=(List.range n).map f:=by
 apply List.ext_getElem?
 intro j
 rw[List.getElem?_map,List.getElem?_map]
 by_cases hj:j < n
 ·rw[List.getElem?_range hj,zA3 (by omega)]
  simp only[Option.map_some]
  rw[h j _ (zA3 (by omega))]
 ·rw[List.getElem?_eq_none (by omega),List.getElem?_eq_none (by rw[List.length_range];omega)];rfl
theorem Zyg{x:SScr}{N j:Nat}{s:ByteArray}{y:SSta}{T:List Ru}{a:Option Addr}{d:Nat}(hs:ZtW[j]?=some s)(hy:x.sl[j]?=some y)(hT:T.map Ru.er=(y.l.map λr=>ruF r N).take T.length)(hl:T.length=min 5 y.l.length):(⟨s,a,d,T⟩:Sta).er=ZA0 x N j:=by
 unfold ZA0 Sta.er
 rw[List.getD_eq_getElem?_getD,hs,hy]
 have e:T.map Ru.er=(y.l.take 5).map λr=>ruF r N:=by
  rw[hT,List.map_take,hl,List.take_eq_take_iff,List.length_map];omega
 rw[e];rfl
theorem Zrw{x:SScr}{W:List Va}(hW:W.length=6)(h:∀j v,W[j]?=some v->MkV j v/\v=Zzk x j):W=(List.range 6).map (Zzk x):=by
 have:=ZkZ (g:=id) hW λj v hv=>(h j v hv).2
 rwa [List.map_id]at this
theorem Zyh{x:SScr}{u:Nat}{W:List Va}{S:List Sta}{a b:Option Addr}{d e:Nat}(hu:x.n % 11=u)(hW:W=(List.range 6).map (Zzk x))(hS:S.map Sta.er=if min 4 x.sl.length=0 then[⟨⟨#[97]⟩,none,0,[]⟩]else(List.range (min 4 x.sl.length)).map (ZA0 x (min 4 x.sl.length))):(⟨((2+u:Nat):Int),a,d,W,b,e,S⟩:Sc).er=scF x:=by
 unfold scF Sc.er
 rw[hu,<-hW,<-hS]
def ScX(x:SScr):Value->Mem->List (List Value)->Prop:=λv m' _=>∃s:Sc,v=s.v/\RepC m' s/\MkC s/\s.er=scF x
theorem ZjR{x:SScr}:∀(v:Value)(m':Mem) (css:List (List Value)),ScX x v m' css->Shape.fits (.agg [.int .i64,.slice,.slice]) v=true:=λv _ _ ⟨_,h,_⟩=>by rw[h];rfl
theorem Zrx{α:Type}{L:List α}{t:α}{P:Nat->α->Prop}(h:∀j v,L[j]?=some v->P j v)(ht:P L.length t):∀j v,(L++[t])[j]?=some v->P j v:=by
 intro j v hv
 rcases Nat.lt_or_ge j L.length with aB|bO
 ·rw[zA5 aB]at hv;exact h j v hv
 ·have hj:=(zA0 hv).1
  rw[zA1,List.length_singleton]at hj
  obtain rfl:j=L.length:=by omega
  simp at hv;subst hv;exact ht
theorem Zyi{i:Nat}{v:Va}(h:MkV i v):RepV v:=by
 have hm:=zA2 h.name
 refine⟨?_,?_⟩
 ·rcases List.mem_append.1 hm with hm|hm
  ·have:=ZjI _ hm;omega
  ·have:=ZjP _ hm;omega
 ·rcases h.kind with⟨_,_,h,_⟩|⟨_,_,h,_⟩
  ·rw[h,ZaU];omega
  ·omega
set_option maxHeartbeats 2000000 in
theorem ZjS(x:SScr)(m:Mem)(hx:RepSC m x):CX Tryz.prog 10 #[.agg x.cs.toArray] m [] (ScX x):=by
 apply ZjO
 intro b m1 aG hb b1
 have dZ:=hx.mono aG
 have sQ:Int.tmod (x.n:Int) 11=((x.n % 11:Nat):Int):=rfl
 have lx:IntKind.i64.wrap (2+IntKind.i64.wrap (Int.tmod (x.n:Int) 11))=((2+x.n % 11:Nat):Int):=by rw[sQ,Zal (n:=((x.n % 11:Nat):Int)) (by omega) (by omega),Zal (by omega) (by omega)];omega
 have sR:x.n % 11 < 11:=Nat.mod_lt _ (by omega)
 refine⟨_,rfl,by omega,λb2=>Zan (ZhC m1) Zdh ?_⟩
 rintro a0 n0 c0 m2 aK ⟨a',c',mE,eD⟩
 simp only[Value.slice.injEq]at mE
 obtain⟨rfl,rfl,rfl⟩:=mE
 rw[lx]
 generalize uI:x.n % 11=u at sR
 have cV:=mLt aG aK
 refine⟨λxs css tvs m' q=>∃(L:List Va)(a:Option Addr)(d:Nat),L.length<=4/\xs=[.int .i64 L.length]/\css=[[.int .i64 ((2+u:Nat):Int),.slice a L.length d,.slice none 0 0]]/\tvs=[.slice a L.length d]/\L.length<=d/\rowRd m' a (L.map Va.cs).flatten/\(∀j v,L[j]?=some v->MkV j v/\v=Zzk x j)/\q=4 - L.length,⟨4,[],none,0,by simp,rfl,rfl,rfl,by simp,.inl rfl,by simp,rfl⟩,?_⟩
 rintro z cs a n1 d m3 q aR ⟨L,a',d',yf,hz,bX,cQ,wU,aC,gT,rfl⟩
 simp only[List.cons.injEq,Value.slice.injEq,Value.int.injEq,true_and,and_true]at hz bX cQ
 obtain⟨rfl,rfl,rfl⟩:=cQ
 subst hz bX
 have nU:=mLt aK aR
 refine ZaB (λaB=>?_) (λbO=>?_)
 ·have aJ:L.length < 4:=by have:(L.length:Int) < (ZeR.length:Nat):=aB;have:ZeR.length=4:=rfl;omega
  obtain⟨s,hs⟩:=Zao (l:=ZeR) (k:=L.length) aJ
  obtain⟨b3,o3,ew,cz⟩:=ZcX (eD.mono aR) hs
  refine⟨b3,o3,ew,⟨by omega,aB⟩,_,cz,s,rfl,λ_ _ _=>ByR x L.length,Zam rfl ⟨_,rfl,Zye x b L.length m3 (hb.mono nU) (dZ.mono nU) (by omega),Zuw,?_⟩⟩
  rintro n4 m4 cE ⟨n,hn,iL,sS⟩
  obtain rfl:n4=n:=by simpa using hn
  have hq:=ZBq ⟨n % 5,Nat.mod_lt _ (by omega)⟩
  obtain⟨r,hr,fg⟩:=(Option.any_eq_true ..).1 hq
  have hr:FloatKind.f64.format.div (FloatKind.f64.nearest ((n % 5:Nat):Int)) 4611686018427387904=some r:=hr
  have qC:Int.tmod (n:Int) 5=((n % 5:Nat):Int):=rfl
  refine⟨by omega,_,Zz7 _,_,by rw[qC];exact Zus _ hr,Zaa rfl (Zaa rfl (Zaa rfl λb5 iX=>Zaa rfl ?_))⟩
  have hw:IntKind.i64.wrap ((L.length:Int)+1)=((L.length+1:Nat):Int):=by rw[Zal (by omega) (by omega)];rfl
  refine ZjQ Va.len Va.one iX (⟨s,true,.empty,r⟩:Va) (aC.mono cE) 48 (by omega) (by omega) (.inl rfl) λa6 c6 m6 ef jJ sT=>Zaa rfl λM _ _ _ hM=>⟨rfl,4 - (L.length+1),by omega,L++[⟨s,true,.empty,r⟩],a6,c6,by rw[zA1];exact aJ,by rw[hw,zA1];rfl,by rw[zA1];rfl,by rw[zA1];rfl,by rw[zA1];exact sT,jJ.mono hM,Zrx gT ⟨⟨by rw[zA5 aJ];exact hs,.inl ⟨aJ,rfl,rfl,fg⟩⟩,by unfold Zzk;rw[if_pos aJ,List.getD_eq_getElem?_getD,hs,<-sS,hr];rfl⟩,by rw[zA1];rfl⟩
 have hL:L.length=4:=by have:¬(L.length:Int) < (ZeR.length:Nat):=bO;have:ZeR.length=4:=rfl;omega
 refine Zan (ZmF m3) Zdh ?_
 rintro a5 n5 c5 m4 cE ⟨a',c',fB,e7⟩
 simp only[Value.slice.injEq]at fB
 obtain⟨rfl,rfl,rfl⟩:=fB
 have ic:=mLt nU cE
 refine⟨λxs css tvs m' q=>∃(W:List Va)(a:Option Addr)(d i:Nat),i<=2/\W.length=4+i/\xs=[.int .i64 i]/\css=[[.int .i64 ((2+u:Nat):Int),.slice a W.length d,.slice none 0 0]]/\tvs=[.slice a W.length d]/\W.length<=d/\rowRd m' a (W.map Va.cs).flatten/\(∀j v,W[j]?=some v->MkV j v/\v=Zzk x j)/\q=2 - i,⟨2,L,a,d,0,by omega,by omega,rfl,rfl,rfl,wU,aC.mono cE,gT,rfl⟩,?_⟩
 rintro z cs a7 n7 d7 m5 q cP ⟨W,a',d',i,gH,uJ,hz,bX,cQ,uK,jK,i4,rfl⟩
 simp only[List.cons.injEq,Value.slice.injEq,Value.int.injEq,true_and,and_true]at hz bX cQ
 obtain⟨rfl,rfl,rfl⟩:=cQ
 subst hz bX
 have pp:=mLt ic cP
 refine ZaB (λaB=>?_) (λbO=>?_)
 ·have aJ:i < 2:=by have:(i:Int) < (Zcx.length:Nat):=aB;have:Zcx.length=2:=rfl;omega
  obtain⟨s,hs⟩:=Zao (l:=Zcx) (k:=i) aJ
  obtain⟨b3,o3,ew,cz⟩:=ZcX (e7.mono cP) hs
  have sU:IntKind.i64.wrap ((i:Int)+4)=((i+4:Nat):Int):=by rw[Zal (by omega) (by omega)];rfl
  have hw:IntKind.i64.wrap ((i:Int)+1)=((i+1:Nat):Int):=by rw[Zal (by omega) (by omega)];rfl
  rw[sU,hw]
  refine⟨b3,o3,ew,⟨by omega,aB⟩,_,cz,s,rfl,λ_ _ _=>ByR x (i+4),Zam rfl λb4 fy=>⟨_,rfl,Zye x b (i+4) m5 (hb.mono pp) (dZ.mono pp) (by omega),Zuw,?_⟩⟩
  rintro n4 m6 ef ⟨n,hn,iL,sS⟩
  obtain rfl:n4=n:=by simpa using hn
  have qC:Int.tmod (n:Int) 5=((n % 5:Nat):Int):=rfl
  have h5:n % 5 < 5:=Nat.mod_lt _ (by omega)
  obtain⟨s1,sV,kP,j7⟩:=ZBr (n % 5) h5
  refine⟨by omega,by rw[qC];exact⟨by omega,by omega⟩,λV _ _ _=>Zam (by rw[qC,zA8];exact kP) ⟨s1,rfl,λV2 wV _ _ b5 iX=>Zaa rfl ?_⟩⟩
  refine ZjQ Va.len Va.one iX (⟨s,false,s1,0⟩:Va) (jK.mono wV) 48 (by omega) (by omega) (.inl rfl) λa6 c6 m7 eo jJ sT=>Zaa rfl λM _ _ _ _ hM=>⟨rfl,rfl,2 - (i+1),by omega,W++[⟨s,false,s1,0⟩],a6,c6,i+1,by omega,by rw[zA1];simp;omega,rfl,by rw[zA1];rfl,by rw[zA1];rfl,by rw[zA1];exact sT,jJ.mono hM,Zrx i4 ⟨⟨by rw[uJ,zA4 (show ZeR.length<=4+i by show 4<=_;omega)];show Zcx[4+i - 4]?=_;rw[show 4+i - 4=i by omega];exact hs,.inr ⟨by omega,rfl,j7,rfl⟩⟩,by rw[uJ];unfold Zzk;rw[if_neg (by omega),show 4+i - 4=i by omega,Nat.add_comm 4 i,List.getD_eq_getElem?_getD,hs,<-sS,sV];rfl⟩,rfl⟩
 have hW:W.length=6:=by have:¬(i:Int) < (Zcx.length:Nat):=bO;have:Zcx.length=2:=rfl;omega
 have d5:=hx.sl
 have uL:=hx.sd
 have hN:(if(4:Int) < (x.sl.length:Int)then(4:Int)else(x.sl.length:Int))=((min 4 x.sl.length:Nat):Int):=by split <;> omega
 simp only[hN,zA8,Nat.sub_zero]
 generalize mQ:min 4 x.sl.length=N
 refine⟨⟨by omega,by omega⟩,λxs css tvs m' q=>∃(S:List Sta)(a:Option Addr)(e:Nat),S.length<=N/\xs=[.int .i64 S.length]/\css=[[.int .i64 ((2+u:Nat):Int),.slice a7 W.length d7,.slice a S.length e]]/\tvs=[.slice a S.length e]/\S.length<=e/\rowRd m' a (S.map Sta.cs).flatten/\(∀y∈S,RepS m' y)/\(∀j y,S[j]?=some y->MkS N j y/\y.er=ZA0 x N j)/\q=N - S.length,⟨N,[],none,0,by simp,rfl,rfl,rfl,by simp,.inl rfl,by simp,by simp,rfl⟩,?_⟩
 rintro z cs a8 n8 d8 m6 q ef ⟨S,a',d',yh,hz,bX,cQ,wW,gO,lQ,mW,rfl⟩
 simp only[List.cons.injEq,Value.slice.injEq,Value.int.injEq,true_and,and_true]at hz bX cQ
 obtain⟨rfl,rfl,rfl⟩:=cQ
 subst hz bX
 have kX:=mLt pp ef
 have mX:=dZ.mono kX
 have uM:∀v∈W,RepV v:=λv hv=>by
  obtain⟨j,hj⟩:=List.getElem?_of_mem hv
  exact Zyi (i4 j v hj).1
 refine ZaB (λaB=>?_) (λbO=>?_)
 ·have aJ:S.length < N:=by omega
  obtain⟨y,hy⟩:=Zao (l:=x.sl) (k:=S.length) (by omega)
  obtain⟨b3,o3,ew,gk⟩:=Zaj SSta.len mX.row hy (by omega)
  have mA:=mX.all y (zA2 hy)
  refine⟨b3,o3,ew,⟨by omega,aB⟩,_,gk 0 _ rfl,Zan (Zov m6) Zdh ?_⟩
  rintro a9 n9 c9 m7 eo ⟨a',c',lR,mB⟩
  simp only[Value.slice.injEq]at lR
  obtain⟨rfl,rfl,rfl⟩:=lR
  obtain⟨s,hs⟩:=Zao (l:=ZtW) (k:=S.length) (by show S.length < 4;omega)
  obtain⟨b4,o4,kU,cz⟩:=ZcX mB hs
  have fD:=mA.l
  have yi:=mA.d
  have wX:(if(5:Int) < (slN (.slice y.a y.l.length y.d):Nat)then(5:Int)else(slN (.slice y.a y.l.length y.d):Nat))=((min 5 y.l.length:Nat):Int):=by
   show(if(5:Int) < (y.l.length:Int)then(5:Int)else(y.l.length:Int))=_
   split <;> omega
  have wY:=mA.mono eo
  refine⟨b4,o4,kU,⟨by omega,by show(S.length:Int) < (4:Nat);omega⟩,_,cz,s,rfl,λb5=>Zaa rfl (Zaa rfl ?_)⟩
  simp only[wX,zA8,Nat.sub_zero]
  generalize qq:min 5 y.l.length=K
  have wZ:=Zmt s (zA2 hs)
  refine⟨⟨by omega,by show((K:Nat):Int)<=(y.d:Nat);omega⟩,λxs css tvs m' q=>∃(T:List Ru)(a:Option Addr)(e:Nat),T.length<=K/\xs=[.int .i64 T.length]/\css=[[.string s,.slice a T.length e]]/\tvs=[.slice a T.length e]/\rowRd m' a (T.map Ru.cs).flatten/\(∀r∈T,RepR m' r)/\(∀r∈T,MkR N r)/\T.map Ru.er=(y.l.map λr=>ruF r N).take T.length/\q=K - T.length,⟨K,[],none,0,by simp,rfl,rfl,rfl,.inl rfl,by simp,by simp,rfl,rfl⟩,?_⟩
  rintro z cs a10 n10 d10 m8 q eA ⟨T,a',d',yj,hz,bX,cQ,lS,lT,pq,nT,rfl⟩
  simp only[List.cons.injEq,Value.slice.injEq,Value.int.injEq,true_and,and_true]at hz bX cQ
  obtain⟨rfl,rfl,rfl⟩:=cQ
  subst hz bX
  refine ZaB (λdh=>?_) (λdP=>?_)
  ·have jL:T.length < K:=by omega
   obtain⟨r,hr⟩:=Zao (l:=y.l) (k:=T.length) (by omega)
   have uN:=wY.mono eA
   obtain⟨b6,o6,ij,fM⟩:=Zaj SRul.len uN.row hr (by omega)
   have hw:IntKind.i64.wrap ((T.length:Int)+1)=((T.length+1:Nat):Int):=by rw[Zal (by omega) (by omega)];rfl
   refine⟨b6,o6,ij,⟨by omega,dh⟩,_,_,_,_,_,_,fM,λb7=>Zaa rfl ⟨λ_ _ _=>RuR N (ruF r N),Zam rfl ⟨_,rfl,ZvY r N m8 (uN.all r (zA2 hr)) (by omega),Zyc,?_⟩⟩⟩
   rintro k1 k2 k3 k4 k5 k6 k7 k8 k9 k10 ka kb kc ks kd ke kf kg kh ki m9 ga ⟨w,hv,kA,sO,sP⟩ b10 gv
   simp only[Ru.cs,Value.agg.injEq,Array.mk.injEq,List.cons.injEq,Value.int.injEq,Value.bool.injEq,Value.string.injEq,Value.slice.injEq,true_and,and_true]at hv
   obtain⟨rfl,rfl,rfl,rfl,rfl,rfl,rfl,rfl,rfl,rfl,⟨rfl,rfl,rfl⟩,rfl,rfl,⟨rfl,rfl,rfl⟩,rfl,rfl⟩:=hv
   refine Zaa rfl ?_
   refine ZjQ Ru.len Ru.one gv w (lS.mono ga) 168 (by omega) (by omega) (.inl rfl) λa5 c5 m5 cP cw _=>Zaa rfl λM _ fh fA gt=>⟨trivial,trivial,K - (T.length+1),by omega,T++[w],a5,c5,by rw[zA1];exact jL,by rw[hw,zA1];rfl,by rw[zA1];rfl,by rw[zA1];rfl,cw.mono gt,?_,?_,ZoA nT hr sP,by rw[zA1];rfl⟩
   ·intro z hz
    rcases List.mem_append.1 hz with hz|hz
    ·exact(lT z hz).mono (mLt ga fh)
    ·rw[List.mem_singleton]at hz;subst hz;exact kA.mono fh
   ·intro z hz
    rcases List.mem_append.1 hz with hz|hz
    ·exact pq z hz
    ·rw[List.mem_singleton]at hz;subst hz;exact sO
  ·have hw:IntKind.i64.wrap ((S.length:Int)+1)=((S.length+1:Nat):Int):=by rw[Zal (by omega) (by omega)];rfl
   have w4:T.length=min 5 y.l.length:=by
    have h1:¬(T.length:Int) < ((K:Nat):Int):=dP
    omega
   have km:=mLt eo eA
   refine Zam rfl (Zaa rfl λb6 gq=>Zaa rfl ?_)
   refine ZjQ Sta.len Sta.one gq (⟨s,a10,d10,T⟩:Sta) (gO.mono km) 40 (by omega) (by omega) (.inl rfl) λa5 c5 m5 cP cw w5=>Zaa rfl ⟨trivial,trivial,N - (S.length+1),by omega,S++[⟨s,a10,d10,T⟩],a5,c5,by rw[zA1];exact aJ,by rw[hw,zA1];rfl,by rw[zA1];rfl,by rw[zA1];rfl,by rw[zA1];exact w5,cw,?_,Zrx mW ⟨⟨hs,by show T.length<=5;omega,pq⟩,Zyg (a:=a10) (d:=d10) hs hy nT w4⟩,by rw[zA1];rfl⟩
   have dJ:=mLt (Mem.le_add gq (⟨s,a10,d10,T⟩:Sta).cs) cP
   intro z hz
   rcases List.mem_append.1 hz with hz|hz
   ·exact(lQ z hz).mono (mLt km dJ)
   ·rw[List.mem_singleton]at hz;subst hz
    exact⟨by show s.size<=_;omega,by show T.length<=few;unfold few;omega,lS.mono dJ,λr hr=>(lT r hr).mono dJ⟩
 ·have uO:S.length=N:=by omega
  have fC:=mLt aG kX
  have pr:W.length<=few:=by unfold few;omega
  have hn:I64 ((2+u:Nat):Int):=by unfold I64;omega
  have uP:m5.le m6:=ef
  refine Zam rfl (Zaa rfl (Zab (λh0=>λb3 fY=>Zaa rfl (Zaa rfl ?_)) (λh0=>Zaa rfl (ZaN fC ⟨⟨((2+u:Nat):Int),a7,d7,W,a8,d8,S⟩,rfl,⟨hn,pr,jK.mono uP,uM,by show S.length<=few;unfold few;omega,gO,lQ,uK,wW⟩,⟨by show 2<=((2+u:Nat):Int)/\((2+u:Nat):Int)<=12;omega,hW,λj v h=>(i4 j v h).1,?_,?_⟩,?_⟩))))
  ·have dJ:=Mem.le_add fY [Value.string ⟨#[97]⟩,.slice none 0 0]
   refine ZaN (mLt fC dJ) ⟨⟨((2+u:Nat):Int),a7,d7,W,some ⟨b3,0,none⟩,1,[⟨⟨#[97]⟩,none,0,[]⟩]⟩,rfl,⟨hn,pr,(jK.mono uP).mono dJ,uM,by show 1<=few;unfold few;omega,Zbk,?_,uK,by show 1<=1;omega⟩,⟨by show 2<=((2+u:Nat):Int)/\((2+u:Nat):Int)<=12;omega,hW,λj v h=>(i4 j v h).1,by show 1<=1/\1<=4;omega,?_⟩,?_⟩
   ·intro y hy
    rw[List.mem_singleton]at hy;subst hy
    exact⟨by show(ByteArray.mk #[97]).size<=_;decide,by show 0<=few;omega,.inl rfl,by simp⟩
   ·intro j y hy
    have:j=0:=by have:=(zA0 hy).1;simp at this;omega
    subst this
    simp at hy;subst hy
    exact⟨rfl,by show 0<=5;omega,by simp⟩
   ·refine Zyh uI (Zrw hW i4) ?_
    have e0:S.length=0:=by have:=h0;simp[slN]at this;first|exact this|(rw[this];rfl)
    rw[if_pos (by omega)]
    rfl
  ·have:¬((S.length:Int)=0):=by simpa[slN]using h0
   show 1<=S.length/\S.length<=4
   omega
  ·intro j y hy
   show MkS S.length j y
   rw[uO];exact(mW j y hy).1
  ·refine Zyh uI (Zrw hW i4) ?_
   have:¬((S.length:Int)=0):=by simpa[slN]using h0
   rw[if_neg (by omega),mQ]
   exact ZkZ uO λj y h=>(mW j y h).2
end Go.Proofs.YtpjepnkiiojgfaaGreat
namespace Go.Proofs.YtpjepnkiiojgfaaGreat
open Go Go.Eng Go.Proofs Go.RowKit
open Go.Value (int slice agg bool string tuple func)
open Go.IntKind (u8 u64 i64)
set_option maxRecDepth 100000
def ZoC:Env:={ EB with
 frzNew:=[1] }
theorem ZlV(aA:Int)(aD:Value)(aF:ByteArray)(aE:Int)(aN:Option Addr)(aM aQ:Nat)(m:Mem)(R:RT)(h:
 lV [int u8 aA,aD,string aF,int i64 aE,slice aN aM aQ] λxL=>fzM m xL λb m'=>kB pG 94 [agg (.mk xL)] m' λb m'=>br (!b) (rtM m m' R (int i64 20001)) (kI pG 95 [agg (.mk xL)] m' λn m'=>rtM m m'
 R (int i64 n))):CX Tryz.prog 60 #[.agg #[.int .u8 aA,aD,.string aF,.int .i64 aE,.slice aN aM aQ]] m [] R:=
 Zad (E:=ZoC) Zap mix Tryz.func60 (by kernel_rfl) (Eq.mp (by kernel_rfl) h)
def ZoD:Env:={ EB with
 loops:=swI nLa [(3,⟨[(3,.int .i64),(22,.int .i64)],[],[],false⟩),(6,⟨[(3,.int .i64),(29,.int .i64)],[],[],false⟩),(12,⟨[(3,.int .i64),(49,.int .i64)],[],[],false⟩),(16,⟨[(3,.int .i64),(66,.int .i64)],[],[],false⟩)]
 dr:=swI [] [(14,[dO 0 [],⟨1,[9],[],none,[],[]⟩,⟨2,[9],[],none,[1],[]⟩,dO 3 [1,2],dO 4 [1,2,3],⟨5,[9],[],none,[],[]⟩,⟨6,[9],[],none,[5],[]⟩,dO 7 [5,6],dO 8 [1,2,3,4,5,6,7],dO 9 [0,1,2,3,4,5,6,7,8],dO 10 [0,1,2,3,4,5,6,7,8,9]])]
 frzNew:=[1]
 cuts:=swI none [(11,some ⟨[(3,.int .i64)],[],[],false⟩)] }
theorem ZlW(aA:Int)(aY:Option Addr)(aT bF:Nat)(aO:Option Addr)(aI aW:Nat)(m:Mem)(R:RT)(h:
 lV [int i64 aA,slice aY aT bF,slice aO aI aW] λxL=>fzM m xL λb m'=>∃I,lE [some (Box.mk b xL 32 3 true true)] λxL=>inI I [int i64 (i64.wrap ((↑aT:Int)+(↑aI:Int))),int i64 0] [] []
 m'/\∀n ae ad (a3:Nat),m'.le ad->I [int i64 n,int i64 ae] [] [] ad a3->br (decide (ae < (↑aI:Int))) (atA aO λb o=>Zae ae aI/\∃v ab:Value,lV [v,ab] λa4=>ad.reads b (o+Int.toNat ae*2) a4/\∀
 b,lE (some (Box.mk b a4 36 2 false true)::xL) λa5=>chk (v.oneCell'&&(ab.oneCell'&&true)) (chk (ZbQ ab) (∃ak,inI ak [int i64 n,int i64 0] [] [] ad/\∀n af m' (a6:Nat),ad.le m'->ak [int i64 n,int i64 af] [] []
 m' a6->br (decide (af < (↑(slN ab):Int))) (chk (ZbQ ab) (atA (slA ab) λb o=>Zae af (slN ab)/\∃v a7 a8 al am an ao ap aq ar au a9 ba ac bb bc:Value,lV [agg (.mk [al,am,an,ao,ap,aq,ar,au])] λxL=>lV [v,
 a7,a8,al,am,an,ao,ap,aq,ar,au,a9,ba,ac,bb,bc] λbd=>m'.reads b (o+Int.toNat af*16) bd/\∀b,lE (some (Box.mk b bd 47 16 false true)::a5) λai=>chk (v.oneCell'&&(a7.oneCell'&&(a8.oneCell' &&
 (al.oneCell'&&(am.oneCell'&&(an.oneCell'&&(ao.oneCell'&&(ap.oneCell'&&(aq.oneCell'&&(ar.oneCell'&&(au.oneCell'&&(a9.oneCell'&&(ba.oneCell'&&(ac.oneCell'&&(bb.oneCell'&&(bc.oneCell'&&true))))))))))))))))
 (kI pG 58 xL m' λbe m'=>∃(J:JT),(kB pG 59 xL m' λb m'=>br (!b) (Zac ai/\J [int i64 20001] [] [] m') (Zac ai/\J [int i64 (i64.wrap (n+i64.wrap ((1:Int)+if(20000:Int) < be then(20000:Int)else
 be)))] [] [] m'))/\∀n aj,m'.le aj->J [int i64 n] [] [] aj->chk (ZbQ ac) (∃I,inI I [int i64 n,int i64 0] [] [] aj/\∀n ag m' (bf:Nat),aj.le m'->I [int i64 n,int i64 ag] [] [] m' bf->br (decide (ag < (↑(slN ac):
 Int))) (chk (ZbQ ac) (atA (slA ac) λb o=>Zae ag (slN ac)/\∃v av aa bg bh bi bj bk:Value,lV [bg,bh,bi,bj,bk] λxL=>m'.reads b (o+Int.toNat ag*8) (v::av::aa::xL)/\∀b,chk (v.oneCell' &&
 (av.oneCell'&&(aa.oneCell'&&(bg.oneCell'&&(bh.oneCell'&&(bi.oneCell'&&(bj.oneCell'&&(bk.oneCell'&&true)))))))) (∃(f:Fx),∃R_1,R_1=f 3 [agg (.mk xL)] m'/\CX pG 60 (.mk [agg (.mk xL)]) m' [] R_1/\Zbp (.int
 i64) R_1/\∀bl aw,m'.le aw->R_1 (int i64 bl) aw []->chk (ZbQ aa) (∀M,m'.le M->aw.le M->chk (ZbQ aa) (∃ax,inI ax [int i64 (i64.wrap (n+i64.wrap (i64.wrap ((1:Int)+bl)+(↑(slN aa):Int)))),int i64 0] [] [] M/\∀
 n ah m' (bm:Nat),M.le m'->ax [int i64 n,int i64 ah] [] [] m' bm->br (decide (ah < (↑(slN aa):Int))) (chk (ZbQ aa) (atA (slA aa) λbq o=>Zae ah (slN aa)/\∃bn bo bp ay az a0 a1 a2:Value,m'.reads bq (o +
 Int.toNat ah*8) [bn,bo,bp,ay,az,a0,a1,a2]/\∀(bt:Nat),chk (bn.oneCell'&&(bo.oneCell'&&(bp.oneCell'&&(ay.oneCell'&&(az.oneCell'&&(a0.oneCell'&&(a1.oneCell'&&(a2.oneCell'&&true)))))))) (br (decide (n >
 20000)) (rtM m m' R (bool (decide (n<=20000)))) (kI pG 60 [agg (.mk [ay,az,a0,a1,a2])] m' λbs m'=>Zac (some (Box.mk b (v::av::aa::xL) 54 8 false true)::ai)/\nxI bm ax [int i64 (i64.wrap (n+bs)),int i64
 (i64.wrap (ah+1))] [] [] m')))) (Zac ai/\nxI bf I [int i64 n,int i64 (i64.wrap (ag+1))] [] [] m')))))) (br (decide (n > 20000)) (rtM m m' R (bool (decide (n<=20000)))) (Zac a5/\nxI a6 ak [int i64 n,int i64 (i64.wrap
 (af+1))] [] [] m')))))) (Zac xL/\nxI a3 I [int i64 n,int i64 (i64.wrap (ae+1))] [] [] m')))) (rtM m ad R (bool (decide (n<=20000))))):CX Tryz.prog 19 #[.agg #[.int .i64 aA,.slice aY aT bF,.slice aO aI aW]] m [] R:=
 Zad (E:=ZoD) Zap mix Tryz.func19 (by kernel_rfl) (Eq.mp (by kernel_rfl) h)
def ZlX:Env:={ EB with
 loops:=swI nLa [(5,⟨[(3,.slice),(20,.int .i64)],[],[(27,5)],false⟩),(10,⟨[(3,.slice),(32,.int .i64)],[],[(27,5)],false⟩),(14,⟨[(3,.slice),(45,.int .i64)],[],[(27,5)],false⟩),(18,⟨[(3,.slice),(59,.int .i64)],[],[(27,5)],false⟩),(22,⟨[(3,.slice),(74,.int .i64)],[],[(27,5)],false⟩)]
 tokOf:=swI 0 [(27,27),(41,27),(55,27),(70,27),(84,27)]
 frzNew:=[1] }
theorem ZjT(aA:Int)(aY:Option Addr)(aT bF:Nat)(aO:Option Addr)(aI aW:Nat)(m:Mem)(R:RT)(h:
 lV [int i64 aA,slice aY aT bF,slice aO aI aW] λxL=>fzM m xL λb m'=>lE [some (Box.mk b xL 32 3 true true)] λcd=>kB pG 19 [agg (.mk xL)] m' λb m'=>br (!b) (rtM m m' R (slice none 0 0)) (∀b,
 lM (m'.add b [int i64 (-1),int i64 (-1),int i64 (-1),int i64 (-1),int i64 (-1)]) λmL=>lE (some (Box.mk b [int i64 (-1),int i64 (-1),int i64 (-1),int i64 (-1),int i64 (-1)] 27 5 true true)::cd) λxL=>m'.free b->
 ∃I,inI I [slice (some (Addr.mk b 0 none)) 1 1,int i64 0] [] [slice none 0 0] mL/\∀a n c ap ce cf cg m' (a4:Nat),lX (slice ce cf cg) λyL=>lX (slice a n c) λaq=>lE (n+1) λaf=>lV [int i64 ap,int i64 (-1),
 int i64 (-1),int i64 (-1),int i64 (-1)] λch=>mL.le m'->I [aq,int i64 ap] [] [yL] m' a4->br (decide (ap < (↑aT:Int))) (∀b,lM (m'.add b ch) λmL=>m'.free b->(Tok.mk yL 5=Tok.mk aq 5\/aq=slice none 0 0\/c
 < af)/\∃(xs:List Value),∃(ys:List Value),xs.length=n*5/\ys.length=1*5/\rowRd mL a xs/\rowRd mL (some (Addr.mk b 0 none)) ys/\(∀(u:Value),u∈ys->u.oneCell'=true)/\af*40<=140737488355328/\af <=
 9223372036854775807/\∀(a':Option Addr) c' m',mL.le m'->rowRd m' a' (List.append xs ys)->Zac xL/\nxI a4 I [slice a' af c',int i64 (i64.wrap (ap+1))] [] [slice a' af c'] m') (∃I,inI I [aq,int i64 0] [] [yL] m'/\∀a
 n c ag a5 a6 a7 ac (a8:Nat),lX (slice a n c) λyL=>lE (n+1) λah=>lX (int i64 ag) λai=>lV [int i64 (-1),ai,int i64 (-1),int i64 (-1),int i64 (-1)] λa9=>m'.le ac->I [yL,ai] [] [slice a5 a6 a7] ac a8->
 br (decide (ag < (↑aI:Int))) (atA aO λb o=>Zae ag aI/\∃v aa:Value,ac.reads b (o+Int.toNat ag*2) [v,aa]/\∀b,lE (some (Box.mk b [v,aa] 36 2 false true)::xL) λci=>chk (v.oneCell' &&
 (aa.oneCell'&&true)) (∀b,lM (ac.add b a9) λmL=>lE (some (Box.mk b a9 27 5 true true)::ci) λba=>ac.free b->(Tok.mk (slice a5 a6 a7) 5=Tok.mk yL 5\/yL=slice none 0 0\/c < ah)/\∃(xs:List Value),∃(ys:
 List Value),xs.length=n*5/\ys.length=1*5/\rowRd mL a xs/\rowRd mL (some (Addr.mk b 0 none)) ys/\(∀(u:Value),u∈ys->u.oneCell'=true)/\ah*40<=140737488355328/\ah<=9223372036854775807/\∀(a':Option Addr)
 c' m',mL.le m'->rowRd m' a' (List.append xs ys)->chk (ZbQ aa) (∃a0,inI a0 [slice a' ah c',int i64 0] [] [slice a' ah c'] m'/\∀a n c aj cj ck cl ad (bb:Nat),lX (slice cj ck cl) λyL=>lX (slice a n c) λar=>lE (n
 + 1) λak=>lX (int i64 aj) λau=>lV [int i64 (-1),ai,au,int i64 (-1),int i64 (-1)] λbc=>m'.le ad->a0 [ar,au] [] [yL] ad bb->br (decide (aj < (↑(slN aa):Int))) (chk (ZbQ aa) (atA (slA aa) λb o=>Zae
 aj (slN aa)/\∃v bd be bf bg bh bi bj bk bl bm bn bo ab bp bq:Value,lV [v,bd,be,bf,bg,bh,bi,bj,bk,bl,bm,bn,bo,ab,bp,bq] λxL=>ad.reads b (o+Int.toNat aj*16) xL/\∀b,lE (some (Box.mk b xL 47 16 false
 true)::ba) λxL=>chk (v.oneCell'&&(bd.oneCell'&&(be.oneCell'&&(bf.oneCell'&&(bg.oneCell'&&(bh.oneCell'&&(bi.oneCell'&&(bj.oneCell'&&(bk.oneCell'&&(bl.oneCell'&&(bm.oneCell'&&(bn.oneCell'&&(bo.oneCell'
 && (ab.oneCell'&&(bp.oneCell'&&(bq.oneCell'&&true)))))))))))))))) (∀b,lM (ad.add b bc) λmL=>lE (some (Box.mk b bc 27 5 true true)::xL) λxL=>ad.free b->(Tok.mk yL 5=Tok.mk ar 5\/ar=slice none 0 0\/c < ak)
 /\ ∃(xs:List Value),∃(ys:List Value),xs.length=n*5/\ys.length=1*5/\rowRd mL a xs/\rowRd mL (some (Addr.mk b 0 none)) ys/\(∀(u:Value),u∈ys->u.oneCell'=true)/\ak*40<=140737488355328/\ak <=
 9223372036854775807/\∀(a':Option Addr) c' m',mL.le m'->rowRd m' a' (List.append xs ys)->chk (ZbQ ab) (∃I,inI I [slice a' ak c',int i64 0] [] [slice a' ak c'] m'/\∀a n c al cm cn co ae (bs:Nat),lX (slice cm cn co)
 λyL=>lX (slice a n c) λav=>lE (n+1) λam=>lX (int i64 al) λa1=>lV [int i64 (-1),ai,au,a1,int i64 (-1)] λbt=>m'.le ae->I [av,a1] [] [yL] ae bs->br (decide (al < (↑(slN ab):Int))) (chk (ZbQ ab)
 (atA (slA ab) λb o=>Zae al (slN ab)/\∃v bu aw bv bw bx bz ca:Value,lV [v,bu,aw,bv,bw,bx,bz,ca] λcb=>ae.reads b (o+Int.toNat al*8) cb/\∀b,chk (v.oneCell'&&(bu.oneCell'&&(aw.oneCell' &&
 (bv.oneCell'&&(bw.oneCell'&&(bx.oneCell'&&(bz.oneCell'&&(ca.oneCell'&&true)))))))) (∀ax,lM (ae.add ax bt) λmL=>ae.free ax->(Tok.mk yL 5=Tok.mk av 5\/av=slice none 0 0\/c < am)/\∃(xs:List Value),∃(ys:
 List Value),xs.length=n*5/\ys.length=1*5/\rowRd mL a xs/\rowRd mL (some (Addr.mk ax 0 none)) ys/\(∀(u:Value),u∈ys->u.oneCell'=true)/\am*40<=140737488355328/\am<=9223372036854775807/\∀(a':Option
 Addr) c' m',mL.le m'->rowRd m' a' (List.append xs ys)->chk (ZbQ aw) (∃a2,inI a2 [slice a' am c',int i64 0] [] [slice a' am c'] m'/\∀a n c ay cp cq cr an (cc:Nat),lX (slice cp cq cr) λyL=>lX (slice a n c) λaz=>
 lE (n+1) λao=>lV [int i64 (-1),ai,au,a1,int i64 ay] λcs=>m'.le an->a2 [az,int i64 ay] [] [yL] an cc->br (decide (ay < (↑(slN aw):Int))) (∀a3,lM (an.add a3 cs) λmL=>an.free a3->(Tok.mk yL 5=Tok.mk az
 5\/az=slice none 0 0\/c < ao)/\∃(xs:List Value),∃(ys:List Value),xs.length=n*5/\ys.length=1*5/\rowRd mL a xs/\rowRd mL (some (Addr.mk a3 0 none)) ys/\(∀(u:Value),u∈ys->u.oneCell'=true)/\ao*40 <=
 140737488355328/\ao<=9223372036854775807/\∀(a':Option Addr) c' m',mL.le m'->rowRd m' a' (List.append xs ys)->Zac (some (Box.mk ax bt 27 5 true true)::some (Box.mk b cb 54 8 false true)::xL)/\([none,none,none,
 none,none,none,none]:List (Option Tok))=[none,none,none,none,none,none,none]/\nxI cc a2 [slice a' ao c',int i64 (i64.wrap (ay+1))] [] [slice a' ao c'] m') (Zac xL/\([none,none,none,none,none]:List
 (Option Tok))=[none,none,none,none,none]/\nxI bs I [az,int i64 (i64.wrap (al+1))] [] [yL] an))))) (Zac ba/\([none,none,none]:List (Option Tok))=[none,none,none]/\nxI bb a0 [av,int i64 (i64.wrap (aj+1))]
 [] [yL] ae))))) (Zac xL/\([none]:List (Option Tok))=[none]/\nxI a8 I [ar,int i64 (i64.wrap (ag+1))] [] [yL] ad)))) (rtM m ac R yL)))):CX Tryz.prog 11 #[.agg #[.int .i64 aA,.slice aY aT bF,.slice aO aI aW]] m [] R:=
 Zad (E:=ZlX) Zap mix Tryz.func11 (by kernel_rfl) (Eq.mp (by kernel_rfl) h)
def Zh6:Env:={ EB with
 loops:=swI nLa [(6,⟨[(0,.slice),(23,.int .i64)],[],[(900,1)],false⟩)]
 tokOf:=swI 0 [(19,900)]
 frzNew:=[3]
 thaw:=true
 lentC:=swI none [(29,some [(900,1)])] }
theorem Zf7(bM:Int)(cA:Value)(cD:ByteArray)(cF:Int)(dg:Option Addr)(cZ dm:Nat)(t0a:Option Addr)(t0n t0c:Nat)(m:Mem)(Y:Nat->Prop)(R:RTY)(h:
 lV [string cD] λxL=>lE (t0n+1) λyL=>lV [int u8 bM,cA,string cD,int i64 cF,slice dg cZ dm] λxL_1=>lX (slice t0a t0n t0c) λyL_1=>fzM m xL_1 λb m'=>m.free b->(∀(b' o:Nat) (u:
 Value),m' b' o=some u->m b' o=some u\/b'=b)->br (bM == 9) (kB pG 29 (yL_1::xL) m' λb m'=>br b (R yL_1 m' [] [yL_1]) (∀b,lM (m'.add b xL) λmL=>m'.free b->(Tok.mk yL_1 1=Tok.mk yL_1 1\/yL_1=slice none
 0 0\/t0c < yL)/\∃(xs:List Value),∃(ys:List Value),xs.length=t0n*1/\ys.length=1*1/\rowRd mL t0a xs/\rowRd mL (some (Addr.mk b 0 none)) ys/\(∀(u:Value),u∈ys->u.oneCell'=true)/\yL*16 <=
 140737488355328/\yL<=9223372036854775807/\∀(a':Option Addr)(c':Nat) m',mL.le m'->rowRd m' a' (List.append xs ys)->TokFact mL t0a a' yL c'->R (slice a' yL c') m' [] [slice a' yL c'])) (∃I,inI I [yL_1,int i64 0] []
 [yL_1] m'/\∀a n c n_1 a_1 n_2 c_1 (m':Mem) (n_3:Nat),lX (slice a n c) λyL=>lX (slice a_1 n_2 c_1) λyL_2=>lE [Tok.mk yL_2 1] λxL=>True->I [yL,int i64 n_1] [] [yL_2] m' n_3->br (decide (n_1 < (↑cZ:
 Int))) (atA dg λb_1 o=>Zae n_1 cZ/\∃v v_1 v_2 v_3 v_4:Value,m'.reads b_1 (o+Int.toNat n_1*5) [v,v_1,v_2,v_3,v_4]/\∀(b_2:Nat),chk (v.oneCell'&&(v_1.oneCell'&&(v_2.oneCell'&&(v_3.oneCell' &&
 (v_4.oneCell'&&true))))) (∃(Y_1:Nat->Prop),∃(R:Value->Mem->List (List Value)->List Value->Prop),CXY pG 142 (.mk [yL,agg (.mk [v,v_1,v_2,v_3,v_4])]) m' Y_1 [] xL R/\(∀(t:Tok),t∈xL->∀(b:Nat),Tok.blk t
 = some b->Y_1 b)/\(∀(b_3:Nat),Y_1 b_3->(∃(t:Tok),t∈xL/\Tok.blk t=some b_3)\/(Mem.free (Mem.off m Y) b_3/\Mem.k (Mem.off m Y) b_3=none)/\((∃(o:Nat),∃(v:Value),m' b_3 o=some v)\/∃(e:List (Value ×
 Value)),Mem.k m' b_3=some e)/\b≠b_3/\True)/\(∀(v:Value)(m':Mem) (css:List (List Value)) (tvs:List Value),R v m' css tvs->Shape.fits .slice v=true)/\∀a n c (m'_1:Mem),Mem.le (Mem.off m' Y_1) m'_1->(NewM
 m' m'_1 λb=>Y_1 b\/m'.free b)->∀a_4 c_2 d,R (slice a n c) m'_1 [] [slice a_4 c_2 d]->Zac [some (Box.mk b xL_1 52 5 true true)]/\([none]:List (Option Tok))=[none]/\nxI n_3 I [slice a n c,int i64 (i64.wrap (n_1 +
 1))] [] [slice a_4 c_2 d] m'_1)) (R yL m' [] [yL_2]))):CXY Tryz.prog 142 #[.slice t0a t0n t0c,.agg #[.int .u8 bM,cA,.string cD,.int .i64 cF,.slice dg cZ dm]] m Y [] [⟨.slice t0a t0n t0c,1⟩] R:=
 Zdd (E:=Zh6) Zap mix Tryz.func142 [.v (.slice t0a t0n t0c),.v (.agg #[.int .u8 bM,cA,.string cD,.int .i64 cF,.slice dg cZ dm])] [] [900] [⟨.slice t0a t0n t0c,1⟩] (by decide) (by kernel_rfl) (Eq.mp (by kernel_rfl) h)
end Go.Proofs.YtpjepnkiiojgfaaGreat
namespace Go.Proofs.YtpjepnkiiojgfaaGreat
open Go Go.Eng Go.Rx Go.Proofs Go.RowKit
set_option maxRecDepth 100000
theorem Zfi{α:Type}{l:List α}{n:Nat}(h:n < l.length):∃c,l[n]?=some c:=⟨_,zA3 h⟩
theorem Zyj(k:Int)(m:Mem):CX Tryz.prog 104 #[.int .u8 k] m [] (Ret (.int .i64 (ZnJ k))):=by
 apply ZlI
 refine Zab (λh=>Zaf (Mem.le_refl m) ?_) (λh=>⟨decide (k ≥ 2)&&decide (k<=7),Zab (λh2=>by rw[h2];rfl) (λh2=>by rw[h2];rfl),Zab (λh2=>Zaf (Mem.le_refl m) ?_) (λh2=>Zaf (Mem.le_refl m) ?_)⟩)
 all_goals
  show Value.int _ _=Value.int _ _
  congr 1
  unfold ZnJ
 ·have:k=1:=by simpa using h
  rw[if_pos this]
 ·have h1:¬k=1:=by simpa using h
  simp only[zA7,decide_eq_true_eq]at h2
  rw[if_neg h1,if_pos (by omega)]
 ·have h1:¬k=1:=by simpa using h
  simp only[Bool.and_eq_false_iff,decide_eq_false_iff_not]at h2
  rw[if_neg h1,if_neg (by omega)]
theorem ZjU(l l':List E)(a a':Option Addr)(c c':Nat)(m:Mem)(hl:l.length<=1000000000000000)(hr:l=[]\/∃b o,a=some ⟨b,o,none⟩/\RepEAt m b o l)(hr':l'=[]\/∃b o,a'=some ⟨b,o,none⟩/\RepEAt m b o l')
  (hp:∀x∈l,∀y∈l',∀m',m.le m'->RepE m' x->RepE m' y->CX Tryz.prog 160 #[x.v,y.v] m' [] (Ret (.bool (x.same y)))):
  CX Tryz.prog 162 #[.slice a l.length c,.slice a' l'.length c',.func (.func 160) #[] #[]] m [] (Ret (.bool (ZbV l l'))):=by
 apply ZaA a l.length c a' l'.length c' _ [] []
 refine Zab (λh=>Zaf (Mem.le_refl _) ?_) (λh=>?_)
 ·have:¬l.length=l'.length:=by
   intro e;rw[e]at h;simp at h
  show Value.bool false=_
  rw[ZkF this]
 have fV:l.length=l'.length:=by
  have h2:((l.length:Int) == (l'.length:Int))=true:=by simpa using h
  have:=zA6 h2;omega
 refine⟨λxs _ _ m'' q=>∃i:Nat,i<=l.length/\xs=[.int .i64 i]/\ZbV (l.take i) (l'.take i)=true/\m.le m''/\q=l.length - i,⟨l.length,0,by omega,rfl,by simp[ZbV],Mem.le_refl _,by omega⟩,?_⟩
 rintro n m' q hm ⟨i,hi,hn,df,cy,hq⟩
 obtain rfl:n=i:=by simpa using hn
 refine Zab (λaB=>?_) (λbO=>?_)
 ·have aJ:i < l.length:=by simpa using aB
  obtain⟨x,hx⟩:∃x,l[i]?=some x:=⟨_,zA3 aJ⟩
  obtain⟨y,hy⟩:∃y,l'[i]?=some y:=⟨_,zA3 (by omega)⟩
  have ld:x∈l:=zA2 hx
  have sw:y∈l':=zA2 hy
  rcases hr with h0|⟨b1,o1,ha,dU⟩
  ·rw[h0]at aJ;simp at aJ
  rcases hr' with h0|⟨b2,o2,ha',mP⟩
  ·rw[h0]at fV;simp at fV;rw[fV]at aJ;simp at aJ
  obtain⟨dd,dz⟩:=(dU.mono' hm).get hx
  obtain⟨gk,jF⟩:=(mP.mono' hm).get hy
  refine⟨b1,o1,ha,⟨by omega,by omega⟩,_,_,_,_,_,dd,λb3=>Zaa rfl ⟨b2,o2,ha',⟨by omega,by omega⟩,_,_,_,_,_,gk,λb4=>Zaa rfl ?_⟩⟩
  refine Zah (hp x ld y sw m' hm dz jF) λm1 aG=>Zab (λjf=>?_) (λjf=>?_)
  ·have hf:x.same y=false:=by simpa using jf
   refine Zaf (mLt hm aG) ?_
   show Value.bool false=_
   rw[ZnH hx hy hf]
  ·have hf:x.same y=true:=by simpa using jf
   refine⟨l.length - (i+1),by omega,i+1,by omega,by rw[Zal (by omega) (by omega)];rfl,Ziw hx hy df hf,mLt hm aG,rfl⟩
 ·have hi':i=l.length:=by
   have:¬((i:Int) < (l.length:Int)):=by simpa using bO
   omega
  subst hi'
  refine Zaf hm ?_
  rw[List.take_length,fV,List.take_length]at df
  show Value.bool true=_
  rw[df]
theorem Zry(t u:E)(m:Mem)(hr:RepE m t)(hu:RepE m u):CX Tryz.prog 160 #[t.v,u.v] m [] (Ret (.bool (t.same u))):=by
 apply ZlJ
 intro b m1 aG _ b' m2 aK _
 have hm:=mLt aG aK
 refine⟨t.same u,?_,Zaf hm rfl⟩
 rw[ZqH]
 refine Zab (λh1=>?_) (λh1=>⟨by trivial,Zaq (by rw[h1];rfl)⟩)
 refine Zah (Zrs t.x u.x m2) λm3 aR=>Zab (λh2=>Zab (λh3=>Zab (λh4=>?_) (λh4=>⟨by trivial,Zaq (by rw[h1,h2,h3,h4];rfl)⟩)) (λh3=>⟨by trivial,Zaq (by rw[h1,h2,h3];rfl)⟩)) (λh2=>⟨by trivial,Zaq (by rw[h1,h2];rfl)⟩)
 have hM:=mLt hm aR
 have hr':=Zdg (RepE.mono' hr hM)
 have hu':=Zdg (RepE.mono' hu hM)
 refine Zah (ZjU t.subs u.subs t.a u.a t.c u.c m3 hr'.1 hr'.2 hu'.2 λx hx y hy m' _ dd gk=>?_) λm4 cE=>⟨by trivial,Zaq (by rw[h1,h2,h3,h4];rfl)⟩
 have bJ:=ZgH hx
 exact Zry x y m' dd gk
termination_by SizeOf.sizeOf t
decreasing_by exact bJ
theorem Zrz(t u:E)(m:Mem)(hr:RepE m t)(hu:RepE m u):CX Tryz.prog 140 #[t.v,u.v] m [] (Ret (.bool (t.light&&(u.light&&t.same u)))):=by
 apply ZlK
 intro b m1 aG _ b' m2 aK _
 have hm:=mLt aG aK
 refine⟨t.light&&(u.light&&t.same u),?_,Zaf hm rfl⟩
 refine Zah (ZcW t m2 (RepE.mono' hr hm)) λm3 aR=>Zab (λh1=>?_) (λh1=>⟨by trivial,Zaq (by rw[h1];rfl)⟩)
 refine Zah (ZcW u m3 (RepE.mono' hu (mLt hm aR))) λm4 cE=>Zab (λh2=>?_) (λh2=>⟨by trivial,Zaq (by rw[h1,h2];rfl)⟩)
 have cP:=mLt (mLt hm aR) cE
 exact Zah (Zry t u m4 (RepE.mono' hr cP) (RepE.mono' hu cP)) λm6 ef=>⟨by trivial,Zaq (by rw[h1,h2];rfl)⟩
def ZoE(l:List E):Int:=l.foldl (λn x=>if x.k=10 then(if x.g > n then x.g else n)else n) (-1)
theorem ZrA(t:E)(m:Mem)(hr:RepE m t):CX Tryz.prog 76 #[t.v] m [] (Ret (.int .i64 t.most)):=by
 apply ZlM
 intro b m1 aG _ b2
 refine Zah (ZcW t m1 (RepE.mono' hr aG)) λm2 aK=>Zab (λhl=>?_) (λh=>Zaf (mLt aG aK) (by simp[Ret,E.most,h]))
 refine Zan (Zff t m2) (λv m' css h=>by obtain⟨_,rfl,_⟩:=h;rfl) ?_
 rintro g fi ca m3 aR ⟨b3,hv,eZ⟩
 obtain⟨rfl,rfl,rfl⟩:=Zcu hv
 have cy:=mLt aG (mLt aK aR)
 refine⟨_,ZdT t m3 b3 eZ (RepE.mono' hr cy),λy hy=>?_,λ_ css _ m' q=>css=[[.int .i64 (ZoE (t.nodes.take q))]],rfl,?_,?_⟩
 ·obtain⟨z,_,rfl⟩:=List.mem_map.1 hy;exact ZkD z
 ·rintro n0 v0 s0 n3 a n7 c cs m4 q cE hq bX b4
  obtain rfl:cs=[.int .i64 (ZoE (t.nodes.take q))]:=by simpa using bX
  have hq':(List.map (λz:E=>[z.v]) t.nodes)[(q:Nat)]?=some [Value.agg #[.int .u8 n0,v0,.string s0,.int .i64 n3,.slice a n7 c]]:=hq
  rw[List.getElem?_map]at hq'
  obtain⟨z,hz,gF⟩:=Option.map_eq_some_iff.1 hq'
  simp only[E.v,List.cons.injEq,Value.agg.injEq,Array.mk.injEq,Value.int.injEq,Value.string.injEq,Value.slice.injEq,true_and,and_true]at gF
  obtain⟨rfl,rfl,rfl,rfl,rfl,rfl,rfl⟩:=gF
  have hs:ZoE (t.nodes.take (q+1))=if z.k=10 then(if z.g > ZoE (t.nodes.take q)then z.g else ZoE (t.nodes.take q))else ZoE (t.nodes.take q):=by
   rw[List.take_add_one,hz]
   unfold ZoE
   rw[List.foldl_append];rfl
  refine Zaa rfl (Zab (λh=>Zam rfl (Zaa rfl ⟨by trivial,?_⟩)) (λh=>⟨by trivial,?_⟩))
  ·have hk:z.k=10:=by simpa using h
   show[[_]]=[[Value.int .i64 (ZoE (t.nodes.take (q+1)))]]
   rw[hs,if_pos hk];rfl
  ·have hk:¬z.k=10:=by simpa using h
   show[[_]]=[[Value.int .i64 (ZoE (t.nodes.take (q+1)))]]
   rw[hs,if_neg hk]
 ·rintro cs m4 cE bX
  obtain rfl:cs=[.int .i64 (ZoE (t.nodes.take t.nodes.length))]:=by simpa using bX
  refine Zam rfl (Zaf (mLt cy cE) ?_)
  rw[List.take_length]
  show Value.int _ _=Value.int _ t.most
  unfold E.most;rw[hl];rfl
end Go.Proofs.YtpjepnkiiojgfaaGreat
end
