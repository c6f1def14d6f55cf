/- Part of the proof: functions of the program. No condition. -/
import Derived.Test.YtdopppmkbkkmiaaGreatDoorPC25MJ
set_option linter.unusedVariables false
set_option linter.unusedSimpArgs false
set_option linter.unusedSectionVars false
namespace Go.Proofs.YtdopppmkbkkmiaaGreatDoor
open Go Go.Eng Go.Rx Go.Proofs Go.RowKit
set_option maxRecDepth 100000
structure SAct where
 k:Nat
 n:Nat
 pa:Option Addr
 pl:List Nat
 pd:Nat
 ea:Option Addr
 el:List (Nat×Nat×Nat)
 ed:Nat
def SAct.cs(x:SAct):List Value:=[.int .u8 x.k,.int .u8 x.n,.slice x.pa x.pl.length x.pd,.slice x.ea x.el.length x.ed]
theorem SAct.len(x:SAct):x.cs.length=4:=rfl
structure RepSA (m:Mem)(x:SAct):Prop where
 k:x.k < 256
 n:x.n < 256
 p:BytU m x.pa x.pl
 pl:x.pl.length<=1000000000000000
 pd:x.pl.length<=x.pd
 e:SmE m x.ea x.el
 ed:x.el.length<=x.ed
theorem RepSA.mono{m m':Mem}{x:SAct}(h:RepSA m x)(hm:m.le m'):RepSA m' x:=⟨h.k,h.n,h.p.mono hm,h.pl,h.pd,h.e.mono hm,h.ed⟩
theorem SmE.take{m:Mem}{a:Option Addr}{l:List (Nat×Nat×Nat)}(h:SmE m a l)(n:Nat):SmE m a (l.take n):=
 ⟨by rw[List.length_take];have:=h.len;omega,λs hs=>h.byte s (List.mem_of_mem_take hs),λi s hi=>h.at' i s (by
  have aG:=(zA0 hi).1
  rw[List.length_take]at aG
  rw[List.getElem?_take_of_lt (by omega)]at hi;exact hi)⟩
def AcR(c:Int):Value->Mem->List (List Value)->Prop:=λv m' _=>∃a:Ac,v=.agg a.cs.toArray/\RepA m' a/\MkA c a
theorem ZzL{c:Int}:∀(v:Value)(m':Mem) (css:List (List Value)),AcR c v m' css->Shape.fits (.agg [.int .u8,.str,.slice,.int .u8,.any,.str,.int .i64,.slice]) v=true:=λv _ _ ⟨_,h,_⟩=>by rw[h];rfl
theorem Zwo{c:Int}{l:List Pt}(h:MkT c l):l.length<=few:=by have:=h.len;unfold few;omega
theorem ZzM(x:SAct)(c:Int)(m:Mem)(hx:RepSA m x)(hc : -1<=c/\c<=10000):CX Tryz.prog 60 #[.agg x.cs.toArray,.int .i64 c] m [] (AcR c):=by
 apply ZhF
 intro b m1 aB _ b1
 have rQ:=hx.e.len
 have hN:(if(8:Int) < (x.el.length:Int)then(8:Int)else(x.el.length:Int))=((min 8 x.el.length:Nat):Int):=by split <;> omega
 simp only[hN,zA8,Nat.sub_zero]
 have hd:=hx.ed
 have gC:(x.el.take 8).length=min 8 x.el.length:=List.length_take ..
 have hM:=ZxB (x.el.take 8) x.ea x.ed m1 ((hx.e.mono aB).take 8) (by omega)
 rw[gC]at hM
 refine⟨⟨by omega,by omega⟩,Zaj hM Zgp (ZAp λe1 m2 aH eD vE=>?_)⟩
 have jH:=vE.len
 refine Zaj (Zmo e1 c m2 eD vE.all (by omega)) Zgp (ZAp λe m3 aS hr he b2=>Zaa rfl ⟨by omega,?_⟩)
 have hE:MkE c 20 e:=he.toMk (by omega)
 have dI:=mLt aB (mLt aH aS)
 have kx:=hx.mono dI
 refine Zab (λh2=>?_) (λh2=>Zab (λh3=>?_) (λh3=>?_))
 ·refine⟨λk _ _=>if k=0 then ZAs Zdi else TmR c,_,rfl,Zoi m3,ZdK,?_⟩
  rintro a5 n5 c5 m5 cV ⟨a',c',gS,fW⟩
  simp only[Value.slice.injEq]at gS
  obtain⟨rfl,rfl,rfl⟩:=gS
  have aG:x.n % 2 < 2:=Nat.mod_lt _ (by omega)
  obtain⟨s,hs⟩:=ZaL (l:=Zdi) (k:=x.n % 2) aG
  have kM:=zA2 hs
  obtain⟨b6,o6,js,cQ⟩:=ZcX fW hs
  have bI:s.size<=1000000000000000:=by have:=Zk3 s kM;omega
  have hu:Int.tmod (x.n:Int) 2=((x.n % 2:Nat):Int):=rfl
  refine⟨by omega,b6,o6,js,by rw[hu];exact⟨by omega,by show((x.n % 2:Nat):Int) < (2:Nat);omega⟩,_,by rw[hu,zA8];exact cQ,s,rfl,_,rfl,ZjP x.pl x.pa x.pd e c m5 (kx.p.mono cV) hx.pd hx.pl (hr.mono' cV) hE hc,Zwm,?_⟩
  rintro a7 n7 c7 m7 ju ⟨L,aL,dL,qz,aD,bA,hT⟩ M jM _ iN
  simp only[Value.slice.injEq]at qz
  obtain⟨rfl,rfl,rfl⟩:=qz
  exact ZaH (mLt dI jM) ⟨⟨2,s,a7,c7,L,E0⟩,rfl,⟨by show(0:Int)<=2/\(2:Int) < 256;omega,bI,Zwo hT,aD.mono iN,λp hp=>(bA p hp).mono iN,Zpm M⟩,.set s kM _ _ L hT⟩
 ·refine⟨λ_ _ _=>ZAs Zgj,_,rfl,Ziv m3,ZdK,?_⟩
  rintro a5 n5 c5 m5 cV ⟨a',c',gS,fW⟩
  simp only[Value.slice.injEq]at gS
  obtain⟨rfl,rfl,rfl⟩:=gS
  have aG:x.n % 4 < 4:=Nat.mod_lt _ (by omega)
  obtain⟨s,hs⟩:=ZaL (l:=Zgj) (k:=x.n % 4) aG
  have kM:=zA2 hs
  obtain⟨b6,o6,js,cQ⟩:=ZcX fW hs
  have bI:s.size<=1000000000000000:=by have:=Zk2 s kM;omega
  have hu:Int.tmod (x.n:Int) 4=((x.n % 4:Nat):Int):=rfl
  refine⟨by omega,b6,o6,js,by rw[hu];exact⟨by omega,by show((x.n % 4:Nat):Int) < (4:Nat);omega⟩,_,by rw[hu,zA8];exact cQ,s,rfl,Zaa rfl λM jM ic=>?_⟩
  exact ZaH (mLt dI jM) ⟨⟨3,s,none,0,[],e⟩,rfl,⟨by show(0:Int)<=3/\(3:Int) < 256;omega,bI,by simp,.inl rfl,by simp,hr.mono' jM⟩,.let_ s kM e hE⟩
 ·refine Zaj (ZjP x.pl x.pa x.pd e c m3 kx.p hx.pd hx.pl hr hE hc) Zwm ?_
  rintro a7 n7 c7 m7 ju ⟨L,aL,dL,qz,aD,bA,hT⟩
  simp only[Value.slice.injEq]at qz
  obtain⟨rfl,rfl,rfl⟩:=qz
  exact ZaH (mLt dI ju) ⟨⟨1,.empty,a7,c7,L,E0⟩,rfl,⟨by show(0:Int)<=1/\(1:Int) < 256;omega,by show ByteArray.empty.size<=_;rw[Zax];omega,Zwo hT,aD,bA,Zpm m7⟩,.send _ _ L hT⟩
structure SRul where
 k:Nat
 n:Nat
 t:Nat
 g:Nat
 ra:Option Addr
 rl:List (Nat×Nat×Nat)
 rd:Nat
 aa:Option Addr
 al:List SAct
 ad:Nat
def SRul.cs(x:SRul):List Value:=[.int .u8 x.k,.int .u8 x.n,.int .u8 x.t,.int .u8 x.g,.slice x.ra x.rl.length x.rd,.slice x.aa x.al.length x.ad]
theorem SRul.len(x:SRul):x.cs.length=6:=rfl
structure RepSR (m:Mem)(x:SRul):Prop where
 k:x.k < 256
 n:x.n < 256
 t:x.t < 256
 g:x.g < 256
 r:Sm m x.ra x.rl
 rd:x.rl.length<=x.rd
 al:x.al.length<=1000000000000000
 ad:x.al.length<=x.ad
 row:rowRd m x.aa (x.al.map SAct.cs).flatten
 all:∀a∈x.al,RepSA m a
theorem RepSR.mono{m m':Mem}{x:SRul}(h:RepSR m x)(hm:m.le m'):RepSR m' x:=⟨h.k,h.n,h.t,h.g,h.r.mono hm,h.rd,h.al,h.ad,h.row.mono hm,λa ha=>(h.all a ha).mono hm⟩
def RuR(n:Nat):Value->Mem->List (List Value)->Prop:=λv m' _=>∃r:Ru,v=.agg r.cs.toArray/\RepR m' r/\MkR n r
theorem ZzN{n:Nat}:∀(v:Value)(m':Mem) (css:List (List Value)),RuR n v m' css->Shape.fits (.agg [.int .u8,.bool,.bool,.int .u8,.int .u64,.int .u64,.int .u64,.int .u64,.int .i64,.int .i64,.slice,.str,.int .i64,.slice,.str,.int .i64]) v=true:=λv _ _ ⟨_,h,_⟩=>by rw[h];rfl
theorem Ac.one(a:Ac):∀u∈a.cs,u.oneCell'=true:=by
 intro u hu
 simp only[Ac.cs,List.mem_cons,List.not_mem_nil,or_false]at hu
 rcases hu with rfl|rfl|rfl|rfl|rfl|rfl|rfl|rfl <;> rfl
structure Ru0 (m:Mem)(r:Ru):Prop where
 kind:ZAN r
 t:Rep m r.t
 acts:r.acts=[]/\r.aa=none/\r.ac=0
 go:r.go=.empty/\r.code=0
theorem ZAQ(m:Mem):Rep m T0:=by
 simp only[T0,Rep]
 exact⟨by simp,.inl trivial,⟨by omega,by omega,by omega,by omega,by omega,by omega,by omega⟩⟩
theorem ZzO{r:Ru}(h:ZAN r):(0<=r.k/\r.k < 256)/\r.s.size<=1000000000000000/\I64 r.n:=by
 unfold I64
 rcases h with⟨h1,_,_,h2,h3⟩|⟨_,⟨h1,h2,h3,h4⟩|⟨h1,h2,h3⟩|⟨h1,h2,h3,h4⟩⟩
 ·rw[h2,Zax];omega
 ·omega
 ·rw[h2,Zax];omega
 ·rw[h2,Zax];omega
theorem Zqk{t:T}(h:t.light=true):t.groups=(t.gr:Nat):=by unfold T.groups;rw[h];rfl
theorem ZDF:∀j < 6,∃s:ByteArray,[Value.string ⟨#[97]⟩,.string ⟨#[98]⟩,.string ⟨#[97,98]⟩,.string ⟨#[98,97]⟩,.string ⟨#[97,97,98]⟩,.string ⟨#[99]⟩][j*1]?=some (.string s)/\1<=s.size/\s.size<=3:=by
 intro j hj
 have:j=0\/j=1\/j=2\/j=3\/j=4\/j=5:=by omega
 rcases this with rfl|rfl|rfl|rfl|rfl|rfl <;> exact⟨_,rfl,by decide,by decide⟩
set_option maxHeartbeats 2000000 in
theorem ZxJ(x:SRul)(p:Nat)(m:Mem)(hx:RepSR m x)(hp:1<=p/\p<=4):CX Tryz.prog 36 #[.agg x.cs.toArray,.int .i64 p] m [] (RuR p):=by
 apply ZkK
 intro b m1 aB _ b1 b2
 have dP:=hx.mono aB
 have tD:Int.tmod (x.k:Int) 8=((x.k % 8:Nat):Int):=rfl
 have qt:x.k % 8 < 8:=Nat.mod_lt _ (by omega)
 refine⟨λxs css _ M=>∃r:Ru,xs=[.int .i64 (Zbv r)]/\css=[r.cs]/\Ru0 M r,⟨_,rfl,by omega,?_⟩,?_⟩
 ·simp only[tD]
  generalize x.k % 8=k at qt
  refine⟨λxs _ _ m'=>xs=[.bool (decide (k<=2))]/\m1.le m',Zab (λh=>⟨trivial,?_,Mem.le_refl _⟩) (λh=>Zab (λh2=>⟨trivial,?_,Mem.le_refl _⟩) (λh2=>⟨trivial,?_,Mem.le_refl _⟩)),?_⟩
  ·have:k=0:=by simp at h;omega
   rw[h,this];rfl
  ·have:k=1:=by simp at h2;omega
   rw[h2,this];rfl
  ·have h0:¬k=0:=by simp at h;omega
   have h1:¬k=1:=by simp at h2;omega
   refine Zaf ?_
   rw[Bool.eq_iff_iff];simp;omega
  rintro c2 m2 aH ⟨tw,_⟩
  obtain rfl:c2=decide (k<=2):=by simpa using tw
  refine Zav (λhk=>?_) (λhk=>?_)
  ·have hM:=ZuY x.rl x.ra x.rd m2 (dP.r.mono aH) hx.rd
   refine⟨λ_ _ _=>Zpk (λt=>t.check=0/\t.nodes.length<=26),_,rfl,by omega,_,rfl,by omega,_,rfl,hM,ZfD,Zru λt m3 aS gH ht M _ iN=>?_⟩
   have hl:t.nodes.length<=10000:=by omega
   refine ZaC (Zmp t M (gH.mono iN) hl) λm4 bM=>⟨trivial,⟨1,Int.tmod (x.n:Int) 5 == 4,Int.tmod (x.n:Int) 7 == 6,t,.empty,0,none,0,[],.empty,0⟩,?_,rfl,⟨.inl ⟨rfl,ht.1,ht.2,rfl,rfl⟩,gH.mono (mLt iN bM),⟨rfl,rfl,rfl⟩,rfl,rfl⟩⟩
   have hg:=Zqk (Zkx hl)
   show[Value.int .i64 _]=[Value.int .i64 (if(1:Int)=1 then t.groups else _)]
   rw[if_pos rfl,hg]
  ·refine⟨λxs _ _ m'=>xs=[.bool (decide (k<=4))]/\m2.le m',Zab (λh=>⟨trivial,?_,Mem.le_refl _⟩) (λh=>⟨trivial,?_,Mem.le_refl _⟩),?_⟩
   ·have:k=3:=by simp at h;omega
    rw[h,this];rfl
   ·have:¬k=3:=by simp at h;omega
    refine Zaf ?_
    rw[Bool.eq_iff_iff];simp;omega
   rintro c3 m3 aS ⟨vF,_⟩
   obtain rfl:c3=decide (k<=4):=by simpa using vF
   refine Zav (λpR=>λb5 j1=>?_) (λpR=>Zab (λh5=>⟨trivial,⟨3,false,false,T0,.empty,0,none,0,[],.empty,0⟩,rfl,rfl,⟨.inr ⟨⟨rfl,rfl,rfl⟩,.inr (.inl ⟨rfl,rfl,rfl⟩)⟩,ZAQ _,⟨rfl,rfl,rfl⟩,rfl,rfl⟩⟩) (λh5=>⟨_,rfl,by omega,trivial,?_⟩))
   ·have vG:Int.tmod (x.n:Int) 6=((x.n % 6:Nat):Int):=rfl
    have h6:x.n % 6 < 6:=Nat.mod_lt _ (by omega)
    obtain⟨s,hs,qr,nt⟩:=ZDF (x.n % 6) h6
    refine⟨_,rfl,by omega,by rw[vG];exact⟨by omega,by omega⟩,Zan (by rw[vG,zA8];exact hs) ⟨s,rfl,λM _ _=>⟨trivial,⟨2,false,false,T0,s,0,none,0,[],.empty,0⟩,rfl,rfl,⟨.inr ⟨⟨rfl,rfl,rfl⟩,.inl ⟨rfl,qr,nt,rfl⟩⟩,ZAQ _,⟨rfl,rfl,rfl⟩,rfl,rfl⟩⟩⟩⟩
   ·have kZ:Int.tmod (x.t:Int) 8=((x.t % 8:Nat):Int):=rfl
    have h8:x.t % 8 < 8:=Nat.mod_lt _ (by omega)
    have hw:IntKind.i64.wrap (1+IntKind.i64.wrap (Int.tmod (x.t:Int) 8))=((1+x.t % 8:Nat):Int):=by rw[kZ,Zal (n:=((x.t % 8:Nat):Int)) (by omega) (by omega),Zal (by omega) (by omega)];omega
    exact⟨⟨4,false,false,T0,.empty,IntKind.i64.wrap (1+IntKind.i64.wrap (Int.tmod (x.t:Int) 8)),none,0,[],.empty,0⟩,rfl,rfl,⟨.inr ⟨⟨rfl,rfl,rfl⟩,.inr (.inr ⟨rfl,rfl,by show 1<=IntKind.i64.wrap (1+IntKind.i64.wrap (Int.tmod (x.t:Int) 8));rw[hw];omega,by show IntKind.i64.wrap (1+IntKind.i64.wrap (Int.tmod (x.t:Int) 8))<=8;rw[hw];omega⟩)⟩,ZAQ _,⟨rfl,rfl,rfl⟩,rfl,rfl⟩⟩
 rintro cn cs m2 aH ⟨r,oh,kO,hR⟩
 simp only[List.cons.injEq,Value.int.injEq,true_and,and_true]at oh kO
 subst oh kO
 have j9:=hx.al
 have zk:=hx.ad
 have hN:(if(3:Int) < (x.al.length:Int)then(3:Int)else(x.al.length:Int))=((min 3 x.al.length:Nat):Int):=by split <;> omega
 simp only[hN,zA8,Nat.sub_zero]
 generalize rM:min 3 x.al.length=N
 have cJ : -1<=Zbv r/\Zbv r<=10000:=by
  refine⟨Zme r,?_⟩
  unfold Zbv
  rcases hR.kind with⟨h1,h2,h3,_⟩|⟨_,⟨h1,_⟩|⟨h1,_⟩|⟨h1,_⟩⟩ <;> rw[h1]
  ·rw[if_pos rfl,Zqk (Zkx (by omega))]
   have:r.t.gr<=r.t.nodes.length:=List.countP_le_length
   omega
  ·rw[if_neg (by decide),if_pos rfl];omega
  ·rw[if_neg (by decide),if_neg (by decide)];omega
  ·rw[if_neg (by decide),if_neg (by decide)];omega
 have iw:=dP.mono aH
 refine⟨⟨by omega,by omega⟩,λxs css tvs m' q=>∃(L:List Ac)(a:Option Addr)(d:Nat),L.length<=N/\xs=[.int .i64 L.length]/\css=[({ r with acts:=L,aa:=a,ac:=d }:Ru).cs]/\tvs=[.slice a L.length d]/\rowRd m' a (L.map Ac.cs).flatten/\(∀y∈L,RepA m' y)/\(∀y∈L,MkA (Zbv r) y)/\q=N - L.length,⟨N,[],none,0,by simp,rfl,?_,rfl,.inl rfl,by simp,by simp,rfl⟩,?_⟩
 ·show[r.cs]=[_]
  unfold Ru.cs
  rw[hR.acts.1,hR.acts.2.1,hR.acts.2.2]
 rintro z cs a n1 d m3 q aS ⟨L,a',d',zl,hz,cA,cS,aD,bA,jJ,rfl⟩
 simp only[List.cons.injEq,Value.slice.injEq,Value.int.injEq,true_and,and_true]at hz cA cS
 obtain⟨rfl,rfl,rfl⟩:=cS
 subst hz cA
 have dI:=mLt aB (mLt aH aS)
 refine Zav (λaG=>?_) (λbK=>?_)
 ·have aT:L.length < N:=by omega
  obtain⟨y,hy⟩:=ZaL (l:=x.al) (k:=L.length) (by omega)
  obtain⟨b3,o3,hO,jP⟩:=Zao SAct.len (iw.mono aS).row hy (by omega)
  have hw:IntKind.i64.wrap ((L.length:Int)+1)=((L.length+1:Nat):Int):=by rw[Zal (by omega) (by omega)];rfl
  refine⟨b3,o3,hO,⟨by omega,aG⟩,_,_,_,_,jP,λb4=>Zaa rfl ⟨λ_ _ _=>AcR (Zbv r),Zan rfl ⟨_,rfl,ZzM y (Zbv r) m3 ((iw.mono aS).all y (zA2 hy)) cJ,ZzL,?_⟩⟩⟩
  rintro n s a3 n3 c3 n5 v s1 n6 a4 n7 c4 m4 bM ⟨w,hv,mq,tM⟩ b5 j1
  simp only[Ac.cs,Value.agg.injEq,Array.mk.injEq,List.cons.injEq,Value.int.injEq,Value.string.injEq,Value.slice.injEq,true_and,and_true]at hv
  obtain⟨rfl,rfl,⟨rfl,rfl,rfl⟩,rfl,rfl,rfl,rfl,rfl,rfl,rfl⟩:=hv
  refine Zaa rfl ?_
  refine Zgo Ac.len Ac.one j1 w (aD.mono bM) 112 (by omega) (by omega) (.inl rfl) λa5 c5 m5 cV cG=>Zaa rfl λM _ ic iN j0=>⟨trivial,N - (L.length+1),by omega,L++[w],a5,c5,by rw[zA1];exact aT,by rw[hw,zA1];rfl,?_,by rw[zA1];rfl,cG.mono j0,?_,?_,by rw[zA1];rfl⟩
  ·unfold Ru.cs;rw[zA1];rfl
  ·intro z hz
   rcases List.mem_append.1 hz with hz|hz
   ·exact(bA z hz).mono (mLt bM ic)
   ·rw[List.mem_singleton]at hz;subst hz;exact mq.mono ic
  ·intro z hz
   rcases List.mem_append.1 hz with hz|hz
   ·exact jJ z hz
   ·rw[List.mem_singleton]at hz;subst hz;exact tM
 ·have xQ:Int.tmod (x.g:Int) 8=((x.g % 8:Nat):Int):=rfl
  have tJ:IntKind.i64.wrap (Int.tmod (x.g:Int) 8)=((x.g % 8:Nat):Int):=by rw[xQ,Zal (by omega) (by omega)]
  have hg:x.g % 8 < 8:=Nat.mod_lt _ (by omega)
  have ii:=ZzO hR.kind
  have base:∀{M:Mem},m3.le M->∀(go:ByteArray)(code:Int),go.size<=16->(0<=code/\code<=255)->RepR M { r with acts:=L,aa:=a,ac:=d,go:=go,code:=code }:=λ{M} hM go code h1 h2=>
   ⟨ii.1,hR.t.mono (mLt aS hM),ii.2.1,ii.2.2,by show L.length<=few;unfold few;omega,aD.mono hM,λy hy=>(bA y hy).mono hM,by show go.size<=_;omega,by show I64 code;unfold I64;omega⟩
  refine⟨λ_ css _ M=>∃r':Ru,css=[r'.cs]/\RepR M r'/\MkR p r',⟨_,rfl,by omega,?_⟩,?_⟩
  rw[tJ]
  generalize x.g % 8=g at hg
  refine Zav (λh6=>?_) (λh6=>⟨by omega,Zaa rfl ⟨trivial,trivial,?_⟩⟩)
  ·refine⟨λ_ _ _=>ZAs Zv0,_,rfl,Zqf m3,ZdK,?_⟩
   rintro a5 n5 c5 m5 cV ⟨a',c',gS,fW⟩
   simp only[Value.slice.injEq]at gS
   obtain⟨rfl,rfl,rfl⟩:=gS
   have xR:g % p < p:=Nat.mod_lt _ (by omega)
   obtain⟨s,hs⟩:=ZaL (l:=Zv0) (k:=g % p) (by show g % p < 4;omega)
   have kM:=zA2 hs
   obtain⟨b6,o6,js,cQ⟩:=ZcX fW hs
   have hu:Int.tmod (g:Int) (p:Int)=((g % p:Nat):Int):=rfl
   refine⟨by omega,b6,o6,js,by rw[hu];exact⟨by omega,by show((g % p:Nat):Int) < (4:Nat);omega⟩,_,by rw[hu,zA8];exact cQ,s,rfl,Zaa rfl λM jM _=>⟨trivial,trivial,{ r with acts:=L,aa:=a,ac:=d,go:=s,code:=0 },?_,base jM s 0 (by have:=Zky s kM;omega) (by omega),hR.kind,by show L.length<=3;omega,jJ,.inl ⟨⟨g % p,xR,hs⟩,rfl⟩⟩⟩
   show[_]=[_]
   unfold Ru.cs ZaB
   rw[hR.go.2];rfl
  ·have iL:Int.tmod (IntKind.i64.wrap ((g:Int)*41)) 256=((g*41 % 256:Nat):Int):=by
    rw[show((g:Int)*41)=((g*41:Nat):Int) by omega,Zal (by omega) (by omega)];rfl
   rw[iL]
   have qy:g*41 % 256 < 256:=Nat.mod_lt _ (by omega)
   refine⟨{ r with acts:=L,aa:=a,ac:=d,go:=.empty,code:=((g*41 % 256:Nat):Int) },?_,base (Mem.le_refl _) _ _ (by rw[Zax];omega) (by omega),hR.kind,by show L.length<=3;omega,jJ,.inr ⟨rfl,by show 0<=((g*41 % 256:Nat):Int)/\((g*41 % 256:Nat):Int)<=255;omega⟩⟩
   show[_]=[_]
   unfold Ru.cs ZaB
   rw[hR.go.1];rfl
  ·rintro cs m5 cV ⟨r',cA,hr',hk'⟩
   obtain rfl:cs=r'.cs:=by simpa using cA
   exact Zaa rfl (ZaH (mLt dI cV) ⟨r',rfl,hr',hk'⟩)
theorem Zk4{α:Type}{cs:α->List Value}{n:Nat}(hn:∀x,(cs x).length=n)(h1:∀x,∀u∈cs x,u.oneCell'=true){m3:Mem}{b3:Nat}(hf:m3.free b3){a:Option Addr}{ts:List α}(t:α)(aD:rowRd m3 a (ts.map cs).flatten)(sz:Nat)(bI:(ts.length+1)*sz<=140737488355328)(hl:ts.length<=1000000){P Q:Prop}(hp:P\/Q){K:Option Addr->Nat->Mem->Prop}
  (k:∀(a':Option Addr)(c':Nat)(m4:Mem),(m3.add b3 (cs t)).le m4->rowRd m4 a' ((ts++[t]).map cs).flatten->ts.length+1<=c'->K a' c' m4):
  (P\/Q)/\∃xs ys:List Value,xs.length=ts.length*n/\ys.length=1*n/\rowRd (m3.add b3 (cs t)) a xs/\rowRd (m3.add b3 (cs t)) (some ⟨b3,0,none⟩) ys/\(∀u:Value,u∈ys->u.oneCell'=true)/\(ts.length+1)*sz<=140737488355328/\ts.length+1<=9223372036854775807/\
   ∀(a':Option Addr)(c':Nat)(m4:Mem),(m3.add b3 (cs t)).le m4->rowRd m4 a' (List.append xs ys)->ts.length+1<=c'->K a' c' m4:=
 ⟨hp,(ts.map cs).flatten,cs t,Zbe hn ts,by rw[hn,Nat.one_mul],aD.mono (Mem.le_add hf _),Zdn,h1 t,bI,by omega,λa' c' m4 hm hr hc=>k a' c' m4 hm (by rw[Zk1];exact hr) hc⟩
structure SSta where
 a:Option Addr
 l:List SRul
 d:Nat
def SSta.cs(x:SSta):List Value:=[.slice x.a x.l.length x.d]
theorem SSta.len(x:SSta):x.cs.length=1:=rfl
structure RepSS (m:Mem)(x:SSta):Prop where
 l:x.l.length<=1000000000000000
 d:x.l.length<=x.d
 row:rowRd m x.a (x.l.map SRul.cs).flatten
 all:∀r∈x.l,RepSR m r
theorem RepSS.mono{m m':Mem}{x:SSta}(h:RepSS m x)(hm:m.le m'):RepSS m' x:=⟨h.l,h.d,h.row.mono hm,λa ha=>(h.all a ha).mono hm⟩
structure SScr where
 n:Nat
 va:Option Addr
 vl:List Nat
 vd:Nat
 sa:Option Addr
 sl:List SSta
 sd:Nat
def SScr.cs(x:SScr):List Value:=[.int .u8 x.n,.slice x.va x.vl.length x.vd,.slice x.sa x.sl.length x.sd]
theorem SScr.len(x:SScr):x.cs.length=3:=rfl
structure RepSC (m:Mem)(x:SScr):Prop where
 n:x.n < 256
 v:BytU m x.va x.vl
 vl:x.vl.length<=1000000000000000
 sl:x.sl.length<=1000000000000000
 sd:x.sl.length<=x.sd
 row:rowRd m x.sa (x.sl.map SSta.cs).flatten
 all:∀s∈x.sl,RepSS m s
theorem RepSC.mono{m m':Mem}{x:SScr}(h:RepSC m x)(hm:m.le m'):RepSC m' x:=⟨h.n,h.v.mono hm,h.vl,h.sl,h.sd,h.row.mono hm,λa ha=>(h.all a ha).mono hm⟩
def ByR:Value->Mem->List (List Value)->Prop:=λv _ _=>∃n:Nat,v=.int .i64 n/\n < 256
theorem Zwp:∀(v:Value)(m':Mem) (css:List (List Value)),ByR v m' css->Shape.fits (.int .i64) v=true:=λv _ _ ⟨_,h,_⟩=>by rw[h];rfl
theorem ZzP(x:SScr)(b:Nat)(i:Nat)(m:Mem)(hb:m.reads b 0 x.cs)(hx:RepSC m x)(hi:i<=1000):CX Tryz.prog 32 #[.int .i64 i,.pointer (some ⟨b,0,none⟩)] m [] ByR:=by
 apply ZhC
 have h1:=hb 1 _ rfl
 refine⟨_,h1,Zaa rfl (Zab (λh=>ZaH (Mem.le_refl _) ⟨0,rfl,by omega⟩) (λh=>⟨_,h1,_,h1,Zaa rfl ⟨?_,Zaa rfl ?_⟩⟩))⟩
 ·show(x.vl.length:Int)≠0
  have:¬((x.vl.length:Int)=0):=by simpa[slN]using h
  exact this
 have h0:x.vl.length≠0:=by
  intro e
  have:¬((x.vl.length:Int)=0):=by simpa[slN]using h
  omega
 have aG:i % x.vl.length < x.vl.length:=Nat.mod_lt _ (by omega)
 obtain⟨n,hn⟩:=ZaL aG
 obtain⟨kw,b1,o1,lw,eD⟩:=hx.v.get hn
 have mI:Int.tmod (i:Int) ((slN (.slice x.va x.vl.length x.vd):Nat):Int)=((i % x.vl.length:Nat):Int):=rfl
 refine⟨b1,o1,lw,by rw[mI];exact⟨by omega,by show((i % x.vl.length:Nat):Int) < (x.vl.length:Nat);omega⟩,_,by rw[mI,zA8];exact eD,_,rfl,ZaH (Mem.le_refl _) ⟨n,?_,kw⟩⟩
 rw[Zal (by omega) (by omega)]
theorem ZBt(n:Int):ConvIs Tryz.prog 3 49 (.int .i64 n) (.float .f64 (FloatKind.f64.nearest n)):=λw=>by
 simp[convert,Tryz.underlying3,Tryz.underlying49,Conv.intToFloat]
theorem ZCV:∀n:Fin 5,((FloatKind.f64.format.div (FloatKind.f64.nearest (n:Nat)) 4611686018427387904).any ZfE)=true:=by decide +kernel
theorem ZCW:∀j < 5,∃s:ByteArray,[Value.string ⟨#[]⟩,.string ⟨#[97]⟩,.string ⟨#[98,98]⟩,.string ⟨#[49]⟩,.string ⟨#[48,46,53]⟩][j*1]?=some (.string s)/\s.size<=3:=by
 intro j hj
 have:j=0\/j=1\/j=2\/j=3\/j=4:=by omega
 rcases this with rfl|rfl|rfl|rfl|rfl <;> exact⟨_,rfl,by decide⟩
theorem Va.one(a:Va):∀u∈a.cs,u.oneCell'=true:=by
 intro u hu
 simp only[Va.cs,List.mem_cons,List.not_mem_nil,or_false]at hu
 rcases hu with rfl|rfl|rfl|rfl <;> rfl
theorem Sta.one(a:Sta):∀u∈a.cs,u.oneCell'=true:=by
 intro u hu
 simp only[Sta.cs,List.mem_cons,List.not_mem_nil,or_false]at hu
 rcases hu with rfl|rfl <;> rfl
theorem Ru.one(a:Ru):∀u∈a.cs,u.oneCell'=true:=by
 intro u hu
 simp only[Ru.cs,List.mem_cons,List.not_mem_nil,or_false]at hu
 rcases hu with rfl|rfl|rfl|rfl|rfl|rfl|rfl|rfl|rfl|rfl|rfl|rfl|rfl|rfl|rfl|rfl <;> rfl
def ScR:Value->Mem->List (List Value)->Prop:=λv m' _=>∃s:Sc,v=s.v/\RepC m' s/\MkC s
theorem ZzQ:∀(v:Value)(m':Mem) (css:List (List Value)),ScR v m' css->Shape.fits (.agg [.int .i64,.slice,.slice]) v=true:=λv _ _ ⟨_,h,_⟩=>by rw[h];rfl
theorem Ztc{α:Type}{L:List α}{t:α}{P:Nat->α->Prop}(h:∀j v,L[j]?=some v->P j v)(ht:P L.length t):∀j v,(L++[t])[j]?=some v->P j v:=by
 intro j v hv
 rcases Nat.lt_or_ge j L.length with aG|bK
 ·rw[zA5 aG]at hv;exact h j v hv
 ·have hj:=(zA0 hv).1
  rw[zA1,List.length_singleton]at hj
  obtain rfl:j=L.length:=by omega
  simp at hv;subst hv;exact ht
theorem ZzR{i:Nat}{v:Va}(h:MkV i v):RepV v:=by
 have hm:=zA2 h.name
 refine⟨?_,?_⟩
 ·rcases List.mem_append.1 hm with hm|hm
  ·have:=Zk2 _ hm;omega
  ·have:=Zk3 _ hm;omega
 ·rcases h.kind with⟨_,_,h,_⟩|⟨_,_,h,_⟩
  ·rw[h,Zax];omega
  ·omega
set_option maxHeartbeats 2000000 in
theorem ZzS(x:SScr)(m:Mem)(hx:RepSC m x):CX Tryz.prog 7 #[.agg x.cs.toArray] m [] ScR:=by
 apply ZkL
 intro b m1 aB hb b1
 have dP:=hx.mono aB
 have tN:Int.tmod (x.n:Int) 11=((x.n % 11:Nat):Int):=rfl
 have mz:IntKind.i64.wrap (2+IntKind.i64.wrap (Int.tmod (x.n:Int) 11))=((2+x.n % 11:Nat):Int):=by rw[tN,Zal (n:=((x.n % 11:Nat):Int)) (by omega) (by omega),Zal (by omega) (by omega)];omega
 have tO:x.n % 11 < 11:=Nat.mod_lt _ (by omega)
 refine⟨_,rfl,by omega,λb2=>Zaj (Ziv m1) ZdK ?_⟩
 rintro a0 n0 c0 m2 aH ⟨a',c',my,fW⟩
 simp only[Value.slice.injEq]at my
 obtain⟨rfl,rfl,rfl⟩:=my
 rw[mz]
 generalize x.n % 11=u at tO
 have eZ:=mLt aB aH
 refine⟨λxs css tvs m' q=>∃(L:List Va)(a:Option Addr)(d:Nat),L.length<=4/\xs=[.int .i64 L.length]/\css=[[.int .i64 ((2+u:Nat):Int),.slice a L.length d,.slice none 0 0]]/\tvs=[.slice a L.length d]/\L.length<=d/\rowRd m' a (L.map Va.cs).flatten/\(∀j v,L[j]?=some v->MkV j v)/\q=4 - L.length,⟨4,[],none,0,by simp,rfl,rfl,rfl,by simp,.inl rfl,by simp,rfl⟩,?_⟩
 rintro z cs a n1 d m3 q aS ⟨L,a',d',zm,hz,cA,cS,xS,aD,jJ,rfl⟩
 simp only[List.cons.injEq,Value.slice.injEq,Value.int.injEq,true_and,and_true]at hz cA cS
 obtain⟨rfl,rfl,rfl⟩:=cS
 subst hz cA
 have tP:=mLt aH aS
 refine Zav (λaG=>?_) (λbK=>?_)
 ·have aT:L.length < 4:=by have:(L.length:Int) < (Zgj.length:Nat):=aG;have:Zgj.length=4:=rfl;omega
  obtain⟨s,hs⟩:=ZaL (l:=Zgj) (k:=L.length) aT
  obtain⟨b3,o3,hO,cQ⟩:=ZcX (fW.mono aS) hs
  refine⟨b3,o3,hO,⟨by omega,aG⟩,_,cQ,s,rfl,λ_ _ _=>ByR,Zan rfl ⟨_,rfl,ZzP x b L.length m3 (hb.mono tP) (dP.mono tP) (by omega),Zwp,?_⟩⟩
  rintro n4 m4 bM ⟨n,hn,kw⟩
  obtain rfl:n4=n:=by simpa using hn
  have hq:=ZCV ⟨n % 5,Nat.mod_lt _ (by omega)⟩
  obtain⟨r,hr,gK⟩:=(Option.any_eq_true ..).1 hq
  have hr:FloatKind.f64.format.div (FloatKind.f64.nearest ((n % 5:Nat):Int)) 4611686018427387904=some r:=hr
  have rR:Int.tmod (n:Int) 5=((n % 5:Nat):Int):=rfl
  refine⟨by omega,_,ZBt _,_,by rw[rR];exact Zwl _ hr,Zaa rfl (Zaa rfl (Zaa rfl λb5 j1=>Zaa rfl ?_))⟩
  have hw:IntKind.i64.wrap ((L.length:Int)+1)=((L.length+1:Nat):Int):=by rw[Zal (by omega) (by omega)];rfl
  refine Zk4 Va.len Va.one j1 (⟨s,true,.empty,r⟩:Va) (aD.mono bM) 48 (by omega) (by omega) (.inl rfl) λa6 c6 m6 iI jv qA=>Zaa rfl λM _ _ _ hM=>⟨rfl,4 - (L.length+1),by omega,L++[⟨s,true,.empty,r⟩],a6,c6,by rw[zA1];exact aT,by rw[hw,zA1];rfl,by rw[zA1];rfl,by rw[zA1];rfl,by rw[zA1];exact qA,jv.mono hM,Ztc jJ ⟨by rw[zA5 aT];exact hs,.inl ⟨aT,rfl,rfl,gK⟩⟩,by rw[zA1];rfl⟩
 have hL:L.length=4:=by have:¬(L.length:Int) < (Zgj.length:Nat):=bK;have:Zgj.length=4:=rfl;omega
 refine Zaj (Zoi m3) ZdK ?_
 rintro a5 n5 c5 m4 bM ⟨a',c',gS,gH⟩
 simp only[Value.slice.injEq]at gS
 obtain⟨rfl,rfl,rfl⟩:=gS
 have jU:=mLt tP bM
 refine⟨λxs css tvs m' q=>∃(W:List Va)(a:Option Addr)(d i:Nat),i<=2/\W.length=4+i/\xs=[.int .i64 i]/\css=[[.int .i64 ((2+u:Nat):Int),.slice a W.length d,.slice none 0 0]]/\tvs=[.slice a W.length d]/\W.length<=d/\rowRd m' a (W.map Va.cs).flatten/\(∀j v,W[j]?=some v->MkV j v)/\q=2 - i,⟨2,L,a,d,0,by omega,by omega,rfl,rfl,rfl,xS,aD.mono bM,jJ,rfl⟩,?_⟩
 rintro z cs a7 n7 d7 m5 q cV ⟨W,a',d',i,jd,xU,hz,cA,cS,vH,lJ,mJ,rfl⟩
 simp only[List.cons.injEq,Value.slice.injEq,Value.int.injEq,true_and,and_true]at hz cA cS
 obtain⟨rfl,rfl,rfl⟩:=cS
 subst hz cA
 have tQ:=mLt jU cV
 refine Zav (λaG=>?_) (λbK=>?_)
 ·have aT:i < 2:=by have:(i:Int) < (Zdi.length:Nat):=aG;have:Zdi.length=2:=rfl;omega
  obtain⟨s,hs⟩:=ZaL (l:=Zdi) (k:=i) aT
  obtain⟨b3,o3,hO,cQ⟩:=ZcX (gH.mono cV) hs
  have tR:IntKind.i64.wrap ((i:Int)+4)=((i+4:Nat):Int):=by rw[Zal (by omega) (by omega)];rfl
  have hw:IntKind.i64.wrap ((i:Int)+1)=((i+1:Nat):Int):=by rw[Zal (by omega) (by omega)];rfl
  rw[tR,hw]
  refine⟨b3,o3,hO,⟨by omega,aG⟩,_,cQ,s,rfl,λ_ _ _=>ByR,Zan rfl λb4 iX=>⟨_,rfl,ZzP x b (i+4) m5 (hb.mono tQ) (dP.mono tQ) (by omega),Zwp,?_⟩⟩
  rintro n4 m6 iI ⟨n,hn,kw⟩
  obtain rfl:n4=n:=by simpa using hn
  have rR:Int.tmod (n:Int) 5=((n % 5:Nat):Int):=rfl
  have h5:n % 5 < 5:=Nat.mod_lt _ (by omega)
  obtain⟨s1,qr,nt⟩:=ZCW (n % 5) h5
  refine⟨by omega,by rw[rR];exact⟨by omega,by omega⟩,λV _ _ _=>Zan (by rw[rR,zA8];exact qr) ⟨s1,rfl,λV2 xV _ _ b5 j1=>Zaa rfl ?_⟩⟩
  refine Zk4 Va.len Va.one j1 (⟨s,false,s1,0⟩:Va) (lJ.mono xV) 48 (by omega) (by omega) (.inl rfl) λa6 c6 m7 ju jv qA=>Zaa rfl λM _ _ _ _ hM=>⟨rfl,rfl,2 - (i+1),by omega,W++[⟨s,false,s1,0⟩],a6,c6,i+1,by omega,by rw[zA1];simp;omega,rfl,by rw[zA1];rfl,by rw[zA1];rfl,by rw[zA1];exact qA,jv.mono hM,Ztc mJ ⟨by rw[xU,zA4 (show Zgj.length<=4+i by show 4<=_;omega)];show Zdi[4+i - 4]?=_;rw[show 4+i - 4=i by omega];exact hs,.inr ⟨by omega,rfl,nt,rfl⟩⟩,rfl⟩
 have hW:W.length=6:=by have:¬(i:Int) < (Zdi.length:Nat):=bK;have:Zdi.length=2:=rfl;omega
 have fO:=hx.sl
 have zn:=hx.sd
 have hN:(if(4:Int) < (x.sl.length:Int)then(4:Int)else(x.sl.length:Int))=((min 4 x.sl.length:Nat):Int):=by split <;> omega
 simp only[hN,zA8,Nat.sub_zero]
 generalize rM:min 4 x.sl.length=N
 refine⟨⟨by omega,by omega⟩,λxs css tvs m' q=>∃(S:List Sta)(a:Option Addr)(e:Nat),S.length<=N/\xs=[.int .i64 S.length]/\css=[[.int .i64 ((2+u:Nat):Int),.slice a7 W.length d7,.slice a S.length e]]/\tvs=[.slice a S.length e]/\S.length<=e/\rowRd m' a (S.map Sta.cs).flatten/\(∀y∈S,RepS m' y)/\(∀j y,S[j]?=some y->MkS N j y)/\q=N - S.length,⟨N,[],none,0,by simp,rfl,rfl,rfl,by simp,.inl rfl,by simp,by simp,rfl⟩,?_⟩
 rintro z cs a8 n8 d8 m6 q iI ⟨S,a',d',zo,hz,cA,cS,xW,nK,nL,qB,rfl⟩
 simp only[List.cons.injEq,Value.slice.injEq,Value.int.injEq,true_and,and_true]at hz cA cS
 obtain⟨rfl,rfl,rfl⟩:=cS
 subst hz cA
 have pB:=mLt tQ iI
 have oR:=dP.mono pB
 have vI:∀v∈W,RepV v:=λv hv=>by
  obtain⟨j,hj⟩:=List.getElem?_of_mem hv
  exact ZzR (mJ j v hj)
 refine Zav (λaG=>?_) (λbK=>?_)
 ·have aT:S.length < N:=by omega
  obtain⟨y,hy⟩:=ZaL (l:=x.sl) (k:=S.length) (by omega)
  obtain⟨b3,o3,hO,jP⟩:=Zao SSta.len oR.row hy (by omega)
  have oD:=oR.all y (zA2 hy)
  refine⟨b3,o3,hO,⟨by omega,aG⟩,_,jP 0 _ rfl,Zaj (Zqf m6) ZdK ?_⟩
  rintro a9 n9 c9 m7 ju ⟨a',c',nM,oE⟩
  simp only[Value.slice.injEq]at nM
  obtain⟨rfl,rfl,rfl⟩:=nM
  obtain⟨s,hs⟩:=ZaL (l:=Zv0) (k:=S.length) (by show S.length < 4;omega)
  obtain⟨b4,o4,kL,cQ⟩:=ZcX oE hs
  have ij:=oD.l
  have zp:=oD.d
  have xX:(if(5:Int) < (slN (.slice y.a y.l.length y.d):Nat)then(5:Int)else(slN (.slice y.a y.l.length y.d):Nat))=((min 5 y.l.length:Nat):Int):=by
   show(if(5:Int) < (y.l.length:Int)then(5:Int)else(y.l.length:Int))=_
   split <;> omega
  have xY:=oD.mono ju
  refine⟨b4,o4,kL,⟨by omega,by show(S.length:Int) < (4:Nat);omega⟩,_,cQ,s,rfl,λb5=>Zaa rfl (Zaa rfl ?_)⟩
  simp only[xX,zA8,Nat.sub_zero]
  generalize rG:min 5 y.l.length=K
  have xZ:=Zky s (zA2 hs)
  refine⟨⟨by omega,by show((K:Nat):Int)<=(y.d:Nat);omega⟩,λxs css tvs m' q=>∃(T:List Ru)(a:Option Addr)(e:Nat),T.length<=K/\xs=[.int .i64 T.length]/\css=[[.string s,.slice a T.length e]]/\tvs=[.slice a T.length e]/\rowRd m' a (T.map Ru.cs).flatten/\(∀r∈T,RepR m' r)/\(∀r∈T,MkR N r)/\q=K - T.length,⟨K,[],none,0,by simp,rfl,rfl,rfl,.inl rfl,by simp,by simp,rfl⟩,?_⟩
  rintro z cs a10 n10 d10 m8 q iO ⟨T,a',d',zq,hz,cA,cS,nN,nO,qC,rfl⟩
  simp only[List.cons.injEq,Value.slice.injEq,Value.int.injEq,true_and,and_true]at hz cA cS
  obtain⟨rfl,rfl,rfl⟩:=cS
  subst hz cA
  refine Zav (λdU=>?_) (λeI=>?_)
  ·have lK:T.length < K:=by omega
   obtain⟨r,hr⟩:=ZaL (l:=y.l) (k:=T.length) (by omega)
   have vJ:=xY.mono iO
   obtain⟨b6,o6,js,ia⟩:=Zao SRul.len vJ.row hr (by omega)
   have hw:IntKind.i64.wrap ((T.length:Int)+1)=((T.length+1:Nat):Int):=by rw[Zal (by omega) (by omega)];rfl
   refine⟨b6,o6,js,⟨by omega,dU⟩,_,_,_,_,_,_,ia,λb7=>Zaa rfl ⟨λ_ _ _=>RuR N,Zan rfl ⟨_,rfl,ZxJ r N m8 (vJ.all r (zA2 hr)) (by omega),ZzN,?_⟩⟩⟩
   rintro k1 k2 k3 k4 k5 k6 k7 k8 k9 k10 ka kb kc ks kd ke kf kg kh ki m9 ky ⟨w,hv,mq,tM⟩ b10 j5
   simp only[Ru.cs,Value.agg.injEq,Array.mk.injEq,List.cons.injEq,Value.int.injEq,Value.bool.injEq,Value.string.injEq,Value.slice.injEq,true_and,and_true]at hv
   obtain⟨rfl,rfl,rfl,rfl,rfl,rfl,rfl,rfl,rfl,rfl,⟨rfl,rfl,rfl⟩,rfl,rfl,⟨rfl,rfl,rfl⟩,rfl,rfl⟩:=hv
   refine Zaa rfl ?_
   refine Zk4 Ru.len Ru.one j5 w (nN.mono ky) 168 (by omega) (by omega) (.inl rfl) λa5 c5 m5 cV cG _=>Zaa rfl λM _ ic iN j0=>⟨trivial,trivial,K - (T.length+1),by omega,T++[w],a5,c5,by rw[zA1];exact lK,by rw[hw,zA1];rfl,by rw[zA1];rfl,by rw[zA1];rfl,cG.mono j0,?_,?_,by rw[zA1];rfl⟩
   ·intro z hz
    rcases List.mem_append.1 hz with hz|hz
    ·exact(nO z hz).mono (mLt ky ic)
    ·rw[List.mem_singleton]at hz;subst hz;exact mq.mono ic
   ·intro z hz
    rcases List.mem_append.1 hz with hz|hz
    ·exact qC z hz
    ·rw[List.mem_singleton]at hz;subst hz;exact tM
  ·have hw:IntKind.i64.wrap ((S.length:Int)+1)=((S.length+1:Nat):Int):=by rw[Zal (by omega) (by omega)];rfl
   have vK:=mLt ju iO
   refine Zan rfl (Zaa rfl λb6 iZ=>Zaa rfl ?_)
   refine Zk4 Sta.len Sta.one iZ (⟨s,a10,d10,T⟩:Sta) (nK.mono vK) 40 (by omega) (by omega) (.inl rfl) λa5 c5 m5 cV cG tS=>Zaa rfl ⟨trivial,trivial,N - (S.length+1),by omega,S++[⟨s,a10,d10,T⟩],a5,c5,by rw[zA1];exact aT,by rw[hw,zA1];rfl,by rw[zA1];rfl,by rw[zA1];rfl,by rw[zA1];exact tS,cG,?_,Ztc qB ⟨hs,by show T.length<=5;omega,qC⟩,by rw[zA1];rfl⟩
   have eJ:=mLt (Mem.le_add iZ (⟨s,a10,d10,T⟩:Sta).cs) cV
   intro z hz
   rcases List.mem_append.1 hz with hz|hz
   ·exact(nL z hz).mono (mLt vK eJ)
   ·rw[List.mem_singleton]at hz;subst hz
    exact⟨by show s.size<=_;omega,by show T.length<=few;unfold few;omega,nN.mono eJ,λr hr=>(nO r hr).mono eJ⟩
 ·have vL:S.length=N:=by omega
  have lb:=mLt aB pB
  have qD:W.length<=few:=by unfold few;omega
  have hn:I64 ((2+u:Nat):Int):=by unfold I64;omega
  have vM:m5.le m6:=iI
  refine Zan rfl (Zaa rfl (Zab (λh0=>λb3 gZ=>Zaa rfl (Zaa rfl ?_)) (λh0=>Zaa rfl (ZaH lb ⟨⟨((2+u:Nat):Int),a7,d7,W,a8,d8,S⟩,rfl,⟨hn,qD,lJ.mono vM,vI,by show S.length<=few;unfold few;omega,nK,nL,vH,xW⟩,⟨by show 2<=((2+u:Nat):Int)/\((2+u:Nat):Int)<=12;omega,hW,mJ,?_,?_⟩⟩))))
  ·have eJ:=Mem.le_add gZ [Value.string ⟨#[97]⟩,.slice none 0 0]
   refine ZaH (mLt lb eJ) ⟨⟨((2+u:Nat):Int),a7,d7,W,some ⟨b3,0,none⟩,1,[⟨⟨#[97]⟩,none,0,[]⟩]⟩,rfl,⟨hn,qD,(lJ.mono vM).mono eJ,vI,by show 1<=few;unfold few;omega,Zdn,?_,vH,by show 1<=1;omega⟩,⟨by show 2<=((2+u:Nat):Int)/\((2+u:Nat):Int)<=12;omega,hW,mJ,by show 1<=1/\1<=4;omega,?_⟩⟩
   ·intro y hy
    rw[List.mem_singleton]at hy;subst hy
    exact⟨by show(ByteArray.mk #[97]).size<=_;decide,by show 0<=few;omega,.inl rfl,by simp⟩
   ·intro j y hy
    have:j=0:=by have:=(zA0 hy).1;simp at this;omega
    subst this
    simp at hy;subst hy
    exact⟨rfl,by show 0<=5;omega,by simp⟩
  ·have:¬((S.length:Int)=0):=by simpa[slN]using h0
   show 1<=S.length/\S.length<=4
   omega
  ·intro j y hy
   show MkS S.length j y
   rw[vL];exact qB j y hy
end Go.Proofs.YtdopppmkbkkmiaaGreatDoor