/- Part of the proof: functions of the program. No condition. -/
import Derived.Test.YtpjepnkiiojgfaaGreatPC25MJ
import Derived.Test.YtpjepnkiiojgfaaGreatPEnv
import Derived.Test.YtpjepnkiiojgfaaGreatMc
import Derived.Test.YtpjepnkiiojgfaaGreatPVM
set_option linter.unusedVariables false
set_option linter.unusedSimpArgs false
set_option linter.unusedSectionVars false
noncomputable section
namespace Go.Proofs.YtpjepnkiiojgfaaGreat
open Go Go.Eng Go.Rx Go.Proofs Go.RowKit
set_option maxRecDepth 100000
structure SAct where
 k:Nat
 n:Nat
 pa:Option Addr
 pl:List Nat
 pd:Nat
 ea:Option Addr
 el:List (Nat×Nat×Nat)
 ed:Nat
def SAct.cs(x:SAct):List Value:=[.int .u8 x.k,.int .u8 x.n,.slice x.pa x.pl.length x.pd,.slice x.ea x.el.length x.ed]
theorem SAct.len(x:SAct):x.cs.length=4:=rfl
structure RepSA (m:Mem)(x:SAct):Prop where
 k:x.k < 256
 n:x.n < 256
 p:BytU m x.pa x.pl
 pl:x.pl.length<=1000000000000000
 pd:x.pl.length<=x.pd
 e:SmE m x.ea x.el
 ed:x.el.length<=x.ed
theorem RepSA.mono{m m':Mem}{x:SAct}(h:RepSA m x)(hm:m.le m'):RepSA m' x:=⟨h.k,h.n,h.p.mono hm,h.pl,h.pd,h.e.mono hm,h.ed⟩
theorem SmE.take{m:Mem}{a:Option Addr}{l:List (Nat×Nat×Nat)}(h:SmE m a l)(n:Nat):SmE m a (l.take n):=
 ⟨by rw[List.length_take];have:=h.len;omega,λs hs=>h.byte s (List.mem_of_mem_take hs),λi s hi=>h.at' i s (by
  have aC:=(zA0 hi).1
  rw[List.length_take]at aC
  rw[List.getElem?_take_of_lt (by omega)]at hi;exact hi)⟩
def AcR(c:Int):Value->Mem->List (List Value)->Prop:=λv m' _=>∃a:Ac,v=.agg a.cs.toArray/\RepA m' a/\MkA c a
theorem ZxC{c:Int}:∀(v:Value)(m':Mem) (css:List (List Value)),AcR c v m' css->Shape.fits (.agg [.int .u8,.str,.slice,.int .u8,.any,.str,.int .i64,.slice]) v=true:=λv _ _ ⟨_,h,_⟩=>by rw[h];rfl
theorem Zt9{c:Int}{l:List Pt}(h:MkT c l):l.length<=few:=by have:=h.len;unfold few;omega
theorem ZxD(x:SAct)(c:Int)(m:Mem)(hx:RepSA m x)(hc : -1<=c/\c<=10000):CX Tryz.prog 86 #[.agg x.cs.toArray,.int .i64 c] m [] (AcR c):=by
 apply ZgV
 intro b m1 aE _ b1
 have s9:=hx.e.len
 have hN:(if(8:Int) < (x.el.length:Int)then(8:Int)else(x.el.length:Int))=((min 8 x.el.length:Nat):Int):=by split <;> omega
 simp only[hN,zA8,Nat.sub_zero]
 have hd:=hx.ed
 have fA:(x.el.take 8).length=min 8 x.el.length:=List.length_take ..
 have hM:=Zvl (x.el.take 8) x.ea x.ed m1 ((hx.e.mono aE).take 8) (by omega)
 rw[fA]at hM
 refine⟨⟨by omega,by omega⟩,Zan hM ZfP (ZyE λe1 m2 aK eE uY=>?_)⟩
 have ij:=uY.len
 refine Zan (ZkI e1 c m2 eE uY.all (by omega)) ZfP (ZyE λe m3 aQ hr he b2=>Zaa rfl ⟨by omega,?_⟩)
 have hE:MkE c 20 e:=he.toMk (by omega)
 have dQ:=mLt aE (mLt aK aQ)
 have lu:=hx.mono dQ
 refine Zab (λh2=>?_) (λh2=>Zab (λh3=>?_) (λh3=>?_))
 ·refine⟨λk _ _=>if k=0 then Zxw ZeI else TmR c,_,rfl,Zmn m3,ZcT,?_⟩
  rintro a5 n5 c5 m5 cO ⟨a',c',fN,eX⟩
  simp only[Value.slice.injEq]at fN
  obtain⟨rfl,rfl,rfl⟩:=fN
  have aC:x.n % 2 < 2:=Nat.mod_lt _ (by omega)
  obtain⟨s,hs⟩:=Zaq (l:=ZeI) (k:=x.n % 2) aC
  have ju:=zA2 hs
  obtain⟨b6,o6,iL,cG⟩:=ZcS eX hs
  have bE:s.size<=1000000000000000:=by have:=ZjH s ju;omega
  have hu:Int.tmod (x.n:Int) 2=((x.n % 2:Nat):Int):=rfl
  refine⟨by omega,b6,o6,iL,by rw[hu];exact⟨by omega,by show((x.n % 2:Nat):Int) < (2:Nat);omega⟩,_,by rw[hu,zA8];exact cG,s,rfl,_,rfl,Ziv x.pl x.pa x.pd e c m5 (lu.p.mono cO) hx.pd hx.pl (hr.mono' cO) hE hc,Zt7,?_⟩
  rintro a7 n7 c7 m7 fD ⟨L,aL,dL,pM,aB,aO,hT⟩ M gm _ fw
  simp only[Value.slice.injEq]at pM
  obtain⟨rfl,rfl,rfl⟩:=pM
  exact ZaH (mLt dQ gm) ⟨⟨2,s,a7,c7,L,E0⟩,rfl,⟨by show(0:Int)<=2/\(2:Int) < 256;omega,bE,Zt9 hT,aB.mono fw,λp hp=>(aO p hp).mono fw,Zyy M⟩,.set s ju _ _ L hT⟩
 ·refine⟨λ_ _ _=>Zxw Zix,_,rfl,Zhs m3,ZcT,?_⟩
  rintro a5 n5 c5 m5 cO ⟨a',c',fN,eX⟩
  simp only[Value.slice.injEq]at fN
  obtain⟨rfl,rfl,rfl⟩:=fN
  have aC:x.n % 4 < 4:=Nat.mod_lt _ (by omega)
  obtain⟨s,hs⟩:=Zaq (l:=Zix) (k:=x.n % 4) aC
  have ju:=zA2 hs
  obtain⟨b6,o6,iL,cG⟩:=ZcS eX hs
  have bE:s.size<=1000000000000000:=by have:=ZjF s ju;omega
  have hu:Int.tmod (x.n:Int) 4=((x.n % 4:Nat):Int):=rfl
  refine⟨by omega,b6,o6,iL,by rw[hu];exact⟨by omega,by show((x.n % 4:Nat):Int) < (4:Nat);omega⟩,_,by rw[hu,zA8];exact cG,s,rfl,Zaa rfl λM gm fy=>?_⟩
  exact ZaH (mLt dQ gm) ⟨⟨3,s,none,0,[],e⟩,rfl,⟨by show(0:Int)<=3/\(3:Int) < 256;omega,bE,by simp,.inl rfl,by simp,hr.mono' gm⟩,.let_ s ju e hE⟩
 ·refine Zan (Ziv x.pl x.pa x.pd e c m3 lu.p hx.pd hx.pl hr hE hc) Zt7 ?_
  rintro a7 n7 c7 m7 fD ⟨L,aL,dL,pM,aB,aO,hT⟩
  simp only[Value.slice.injEq]at pM
  obtain⟨rfl,rfl,rfl⟩:=pM
  exact ZaH (mLt dQ fD) ⟨⟨1,.empty,a7,c7,L,E0⟩,rfl,⟨by show(0:Int)<=1/\(1:Int) < 256;omega,by show ByteArray.empty.size<=_;rw[ZaL];omega,Zt9 hT,aB,aO,Zyy m7⟩,.send _ _ L hT⟩
structure SRul where
 k:Nat
 n:Nat
 t:Nat
 g:Nat
 ra:Option Addr
 rl:List (Nat×Nat×Nat)
 rd:Nat
 aa:Option Addr
 al:List SAct
 ad:Nat
def SRul.cs(x:SRul):List Value:=[.int .u8 x.k,.int .u8 x.n,.int .u8 x.t,.int .u8 x.g,.slice x.ra x.rl.length x.rd,.slice x.aa x.al.length x.ad]
theorem SRul.len(x:SRul):x.cs.length=6:=rfl
structure RepSR (m:Mem)(x:SRul):Prop where
 k:x.k < 256
 n:x.n < 256
 t:x.t < 256
 g:x.g < 256
 r:Sm m x.ra x.rl
 rd:x.rl.length<=x.rd
 al:x.al.length<=1000000000000000
 ad:x.al.length<=x.ad
 row:rowRd m x.aa (x.al.map SAct.cs).flatten
 all:∀a∈x.al,RepSA m a
theorem RepSR.mono{m m':Mem}{x:SRul}(h:RepSR m x)(hm:m.le m'):RepSR m' x:=⟨h.k,h.n,h.t,h.g,h.r.mono hm,h.rd,h.al,h.ad,h.row.mono hm,λa ha=>(h.all a ha).mono hm⟩
def RuR(n:Nat):Value->Mem->List (List Value)->Prop:=λv m' _=>∃r:Ru,v=.agg r.cs.toArray/\RepR m' r/\MkR n r
theorem ZxE{n:Nat}:∀(v:Value)(m':Mem) (css:List (List Value)),RuR n v m' css->Shape.fits (.agg [.int .u8,.bool,.bool,.int .u8,.int .u64,.int .u64,.int .u64,.int .u64,.int .i64,.int .i64,.slice,.str,.int .i64,.slice,.str,.int .i64]) v=true:=λv _ _ ⟨_,h,_⟩=>by rw[h];rfl
theorem Ac.one(a:Ac):∀u∈a.cs,u.oneCell'=true:=by
 intro u hu
 simp only[Ac.cs,List.mem_cons,List.not_mem_nil,or_false]at hu
 rcases hu with rfl|rfl|rfl|rfl|rfl|rfl|rfl|rfl <;> rfl
structure Ru0 (m:Mem)(r:Ru):Prop where
 kind:ZyB r
 t:Rep m r.t
 acts:r.acts=[]/\r.aa=none/\r.ac=0
 go:r.go=.empty/\r.code=0
theorem ZyH(m:Mem):Rep m T0:=by
 simp only[T0,Rep]
 exact⟨by simp,.inl trivial,⟨by omega,by omega,by omega,by omega,by omega,by omega,by omega⟩⟩
theorem ZxF{r:Ru}(h:ZyB r):(0<=r.k/\r.k < 256)/\r.s.size<=1000000000000000/\I64 r.n:=by
 unfold I64
 rcases h with⟨h1,_,_,h2,h3⟩|⟨_,⟨h1,h2,h3,h4⟩|⟨h1,h2,h3⟩|⟨h1,h2,h3,h4⟩⟩
 ·rw[h2,ZaL];omega
 ·omega
 ·rw[h2,ZaL];omega
 ·rw[h2,ZaL];omega
theorem Zoj{t:T}(h:t.light=true):t.groups=(t.gr:Nat):=by unfold T.groups;rw[h];rfl
theorem ZBu:∀j < 6,∃s:ByteArray,[Value.string ⟨#[97]⟩,.string ⟨#[98]⟩,.string ⟨#[97,98]⟩,.string ⟨#[98,97]⟩,.string ⟨#[97,97,98]⟩,.string ⟨#[99]⟩][j*1]?=some (.string s)/\1<=s.size/\s.size<=3:=by
 intro j hj
 have:j=0\/j=1\/j=2\/j=3\/j=4\/j=5:=by omega
 rcases this with rfl|rfl|rfl|rfl|rfl|rfl <;> exact⟨_,rfl,by decide,by decide⟩
set_option maxHeartbeats 2000000 in
theorem Zvt(x:SRul)(p:Nat)(m:Mem)(hx:RepSR m x)(hp:1<=p/\p<=4):CX Tryz.prog 44 #[.agg x.cs.toArray,.int .i64 p] m [] (RuR p):=by
 apply Zjv
 intro b m1 aE _ b1 b2
 have eL:=hx.mono aE
 have sV:Int.tmod (x.k:Int) 8=((x.k % 8:Nat):Int):=rfl
 have sU:x.k % 8 < 8:=Nat.mod_lt _ (by omega)
 refine⟨λxs css _ M=>∃r:Ru,xs=[.int .i64 (Zdp r)]/\css=[r.cs]/\Ru0 M r,⟨_,rfl,by omega,?_⟩,?_⟩
 ·simp only[sV]
  generalize x.k % 8=k at sU
  refine⟨λxs _ _ m'=>xs=[.bool (decide (k<=2))]/\m1.le m',Zab (λh=>⟨trivial,?_,Mem.le_refl _⟩) (λh=>Zab (λh2=>⟨trivial,?_,Mem.le_refl _⟩) (λh2=>⟨trivial,?_,Mem.le_refl _⟩)),?_⟩
  ·have:k=0:=by simp at h;omega
   rw[h,this];rfl
  ·have:k=1:=by simp at h2;omega
   rw[h2,this];rfl
  ·have h0:¬k=0:=by simp at h;omega
   have h1:¬k=1:=by simp at h2;omega
   refine Zap ?_
   rw[Bool.eq_iff_iff];simp;omega
  rintro c2 m2 aK ⟨sQ,_⟩
  obtain rfl:c2=decide (k<=2):=by simpa using sQ
  refine ZaG (λhk=>?_) (λhk=>?_)
  ·have hM:=ZsU x.rl x.ra x.rd m2 (eL.r.mono aK) hx.rd
   refine⟨λ_ _ _=>Zno (λt=>t.check=0/\t.nodes.length<=26),_,rfl,by omega,_,rfl,by omega,_,rfl,hM,Ze1,Zpi λt m3 aQ fC ht M _ fw=>?_⟩
   have hl:t.nodes.length<=10000:=by omega
   refine Zco (ZkJ t M (fC.mono fw) hl) λm4 bZ=>⟨trivial,⟨1,Int.tmod (x.n:Int) 5 == 4,Int.tmod (x.n:Int) 7 == 6,t,.empty,0,none,0,[],.empty,0⟩,?_,rfl,⟨.inl ⟨rfl,ht.1,ht.2,rfl,rfl⟩,fC.mono (mLt fw bZ),⟨rfl,rfl,rfl⟩,rfl,rfl⟩⟩
   have hg:=Zoj (Zjb hl)
   show[Value.int .i64 _]=[Value.int .i64 (if(1:Int)=1 then t.groups else _)]
   rw[if_pos rfl,hg]
  ·refine⟨λxs _ _ m'=>xs=[.bool (decide (k<=4))]/\m2.le m',Zab (λh=>⟨trivial,?_,Mem.le_refl _⟩) (λh=>⟨trivial,?_,Mem.le_refl _⟩),?_⟩
   ·have:k=3:=by simp at h;omega
    rw[h,this];rfl
   ·have:¬k=3:=by simp at h;omega
    refine Zap ?_
    rw[Bool.eq_iff_iff];simp;omega
   rintro c3 m3 aQ ⟨uZ,_⟩
   obtain rfl:c3=decide (k<=4):=by simpa using uZ
   refine ZaG (λrC=>λb5 jt=>?_) (λrC=>Zab (λh5=>⟨trivial,⟨3,false,false,T0,.empty,0,none,0,[],.empty,0⟩,rfl,rfl,⟨.inr ⟨⟨rfl,rfl,rfl⟩,.inr (.inl ⟨rfl,rfl,rfl⟩)⟩,ZyH _,⟨rfl,rfl,rfl⟩,rfl,rfl⟩⟩) (λh5=>⟨_,rfl,by omega,trivial,?_⟩))
   ·have u2:Int.tmod (x.n:Int) 6=((x.n % 6:Nat):Int):=rfl
    have h6:x.n % 6 < 6:=Nat.mod_lt _ (by omega)
    obtain⟨s,hs,pF,lZ⟩:=ZBu (x.n % 6) h6
    refine⟨_,rfl,by omega,by rw[u2];exact⟨by omega,by omega⟩,Zal (by rw[u2,zA8];exact hs) ⟨s,rfl,λM _ _=>⟨trivial,⟨2,false,false,T0,s,0,none,0,[],.empty,0⟩,rfl,rfl,⟨.inr ⟨⟨rfl,rfl,rfl⟩,.inl ⟨rfl,pF,lZ,rfl⟩⟩,ZyH _,⟨rfl,rfl,rfl⟩,rfl,rfl⟩⟩⟩⟩
   ·have jF:Int.tmod (x.t:Int) 8=((x.t % 8:Nat):Int):=rfl
    have h8:x.t % 8 < 8:=Nat.mod_lt _ (by omega)
    have hw:IntKind.i64.wrap (1+IntKind.i64.wrap (Int.tmod (x.t:Int) 8))=((1+x.t % 8:Nat):Int):=by rw[jF,Zak (n:=((x.t % 8:Nat):Int)) (by omega) (by omega),Zak (by omega) (by omega)];omega
    exact⟨⟨4,false,false,T0,.empty,IntKind.i64.wrap (1+IntKind.i64.wrap (Int.tmod (x.t:Int) 8)),none,0,[],.empty,0⟩,rfl,rfl,⟨.inr ⟨⟨rfl,rfl,rfl⟩,.inr (.inr ⟨rfl,rfl,by show 1<=IntKind.i64.wrap (1+IntKind.i64.wrap (Int.tmod (x.t:Int) 8));rw[hw];omega,by show IntKind.i64.wrap (1+IntKind.i64.wrap (Int.tmod (x.t:Int) 8))<=8;rw[hw];omega⟩)⟩,ZyH _,⟨rfl,rfl,rfl⟩,rfl,rfl⟩⟩
 rintro cn cs m2 aK ⟨r,kJ,jv,hR⟩
 simp only[List.cons.injEq,Value.int.injEq,true_and,and_true]at kJ jv
 subst kJ jv
 have iZ:=hx.al
 have yH:=hx.ad
 have hN:(if(3:Int) < (x.al.length:Int)then(3:Int)else(x.al.length:Int))=((min 3 x.al.length:Nat):Int):=by split <;> omega
 simp only[hN,zA8,Nat.sub_zero]
 generalize qT:min 3 x.al.length=N
 have cS : -1<=Zdp r/\Zdp r<=10000:=by
  refine⟨Zqs r,?_⟩
  unfold Zdp
  rcases hR.kind with⟨h1,h2,h3,_⟩|⟨_,⟨h1,_⟩|⟨h1,_⟩|⟨h1,_⟩⟩ <;> rw[h1]
  ·rw[if_pos rfl,Zoj (Zjb (by omega))]
   have:r.t.gr<=r.t.nodes.length:=List.countP_le_length
   omega
  ·rw[if_neg (by decide),if_pos rfl];omega
  ·rw[if_neg (by decide),if_neg (by decide)];omega
  ·rw[if_neg (by decide),if_neg (by decide)];omega
 have gX:=eL.mono aK
 refine⟨⟨by omega,by omega⟩,λxs css tvs m' q=>∃(L:List Ac)(a:Option Addr)(d:Nat),L.length<=N/\xs=[.int .i64 L.length]/\css=[({ r with acts:=L,aa:=a,ac:=d }:Ru).cs]/\tvs=[.slice a L.length d]/\rowRd m' a (L.map Ac.cs).flatten/\(∀y∈L,RepA m' y)/\(∀y∈L,MkA (Zdp r) y)/\q=N - L.length,⟨N,[],none,0,by simp,rfl,?_,rfl,.inl rfl,by simp,by simp,rfl⟩,?_⟩
 ·show[r.cs]=[_]
  unfold Ru.cs
  rw[hR.acts.1,hR.acts.2.1,hR.acts.2.2]
 rintro z cs a n1 d m3 q aQ ⟨L,a',d',yI,hz,bN,cH,aB,aO,iw,rfl⟩
 simp only[List.cons.injEq,Value.slice.injEq,Value.int.injEq,true_and,and_true]at hz bN cH
 obtain⟨rfl,rfl,rfl⟩:=cH
 subst hz bN
 have dQ:=mLt aE (mLt aK aQ)
 refine ZaG (λaC=>?_) (λbL=>?_)
 ·have aI:L.length < N:=by omega
  obtain⟨y,hy⟩:=Zaq (l:=x.al) (k:=L.length) (by omega)
  obtain⟨b3,o3,fu,gq⟩:=Zai SAct.len (gX.mono aQ).row hy (by omega)
  have hw:IntKind.i64.wrap ((L.length:Int)+1)=((L.length+1:Nat):Int):=by rw[Zak (by omega) (by omega)];rfl
  refine⟨b3,o3,fu,⟨by omega,aC⟩,_,_,_,_,gq,λb4=>Zaa rfl ⟨λ_ _ _=>AcR (Zdp r),Zal rfl ⟨_,rfl,ZxD y (Zdp r) m3 ((gX.mono aQ).all y (zA2 hy)) cS,ZxC,?_⟩⟩⟩
  rintro n s a3 n3 c3 n5 v s1 n6 a4 n7 c4 m4 bZ ⟨w,hv,kX,td⟩ b5 jt
  simp only[Ac.cs,Value.agg.injEq,Array.mk.injEq,List.cons.injEq,Value.int.injEq,Value.string.injEq,Value.slice.injEq,true_and,and_true]at hv
  obtain⟨rfl,rfl,⟨rfl,rfl,rfl⟩,rfl,rfl,rfl,rfl,rfl,rfl,rfl⟩:=hv
  refine Zaa rfl ?_
  refine ZgX Ac.len Ac.one jt w (aB.mono bZ) 112 (by omega) (by omega) (.inl rfl) λa5 c5 m5 cO bP=>Zaa rfl λM _ fy fw gJ=>⟨trivial,N - (L.length+1),by omega,L++[w],a5,c5,by rw[zA1];exact aI,by rw[hw,zA1];rfl,?_,by rw[zA1];rfl,bP.mono gJ,?_,?_,by rw[zA1];rfl⟩
  ·unfold Ru.cs;rw[zA1];rfl
  ·intro z hz
   rcases List.mem_append.1 hz with hz|hz
   ·exact(aO z hz).mono (mLt bZ fy)
   ·rw[List.mem_singleton]at hz;subst hz;exact kX.mono fy
  ·intro z hz
   rcases List.mem_append.1 hz with hz|hz
   ·exact iw z hz
   ·rw[List.mem_singleton]at hz;subst hz;exact td
 ·have xh:Int.tmod (x.g:Int) 8=((x.g % 8:Nat):Int):=rfl
  have s6:IntKind.i64.wrap (Int.tmod (x.g:Int) 8)=((x.g % 8:Nat):Int):=by rw[xh,Zak (by omega) (by omega)]
  have hg:x.g % 8 < 8:=Nat.mod_lt _ (by omega)
  have fl:=ZxF hR.kind
  have base:∀{M:Mem},m3.le M->∀(go:ByteArray)(code:Int),go.size<=16->(0<=code/\code<=255)->RepR M { r with acts:=L,aa:=a,ac:=d,go:=go,code:=code }:=λ{M} hM go code h1 h2=>
   ⟨fl.1,hR.t.mono (mLt aQ hM),fl.2.1,fl.2.2,by show L.length<=few;unfold few;omega,aB.mono hM,λy hy=>(aO y hy).mono hM,by show go.size<=_;omega,by show I64 code;unfold I64;omega⟩
  refine⟨λ_ css _ M=>∃r':Ru,css=[r'.cs]/\RepR M r'/\MkR p r',⟨_,rfl,by omega,?_⟩,?_⟩
  rw[s6]
  generalize x.g % 8=g at hg
  refine ZaG (λh6=>?_) (λh6=>⟨by omega,Zaa rfl ⟨trivial,trivial,?_⟩⟩)
  ·refine⟨λ_ _ _=>Zxw ZeM,_,rfl,ZjG m3,ZcT,?_⟩
   rintro a5 n5 c5 m5 cO ⟨a',c',fN,eX⟩
   simp only[Value.slice.injEq]at fN
   obtain⟨rfl,rfl,rfl⟩:=fN
   have xl:g % p < p:=Nat.mod_lt _ (by omega)
   obtain⟨s,hs⟩:=Zaq (l:=ZeM) (k:=g % p) (by show g % p < 4;omega)
   have ju:=zA2 hs
   obtain⟨b6,o6,iL,cG⟩:=ZcS eX hs
   have hu:Int.tmod (g:Int) (p:Int)=((g % p:Nat):Int):=rfl
   refine⟨by omega,b6,o6,iL,by rw[hu];exact⟨by omega,by show((g % p:Nat):Int) < (4:Nat);omega⟩,_,by rw[hu,zA8];exact cG,s,rfl,Zaa rfl λM gm _=>⟨trivial,trivial,{ r with acts:=L,aa:=a,ac:=d,go:=s,code:=0 },?_,base gm s 0 (by have:=ZfJ s ju;omega) (by omega),hR.kind,by show L.length<=3;omega,iw,.inl ⟨⟨g % p,xl,hs⟩,rfl⟩⟩⟩
   show[_]=[_]
   unfold Ru.cs ZaF
   rw[hR.go.2];rfl
  ·have gG:Int.tmod (IntKind.i64.wrap ((g:Int)*41)) 256=((g*41 % 256:Nat):Int):=by
    rw[show((g:Int)*41)=((g*41:Nat):Int) by omega,Zak (by omega) (by omega)];rfl
   rw[gG]
   have pL:g*41 % 256 < 256:=Nat.mod_lt _ (by omega)
   refine⟨{ r with acts:=L,aa:=a,ac:=d,go:=.empty,code:=((g*41 % 256:Nat):Int) },?_,base (Mem.le_refl _) _ _ (by rw[ZaL];omega) (by omega),hR.kind,by show L.length<=3;omega,iw,.inr ⟨rfl,by show 0<=((g*41 % 256:Nat):Int)/\((g*41 % 256:Nat):Int)<=255;omega⟩⟩
   show[_]=[_]
   unfold Ru.cs ZaF
   rw[hR.go.1];rfl
  ·rintro cs m5 cO ⟨r',bN,hr',hk'⟩
   obtain rfl:cs=r'.cs:=by simpa using bN
   exact Zaa rfl (ZaH (mLt dQ cO) ⟨r',rfl,hr',hk'⟩)
theorem ZjI{α:Type}{cs:α->List Value}{n:Nat}(hn:∀x,(cs x).length=n)(h1:∀x,∀u∈cs x,u.oneCell'=true){m3:Mem}{b3:Nat}(hf:m3.free b3){a:Option Addr}{ts:List α}(t:α)(aB:rowRd m3 a (ts.map cs).flatten)(sz:Nat)(bE:(ts.length+1)*sz<=140737488355328)(hl:ts.length<=1000000){P Q:Prop}(hp:P\/Q){K:Option Addr->Nat->Mem->Prop}
  (k:∀(a':Option Addr)(c':Nat)(m4:Mem),(m3.add b3 (cs t)).le m4->rowRd m4 a' ((ts++[t]).map cs).flatten->ts.length+1<=c'->K a' c' m4):
  (P\/Q)/\∃xs ys:List Value,xs.length=ts.length*n/\ys.length=1*n/\rowRd (m3.add b3 (cs t)) a xs/\rowRd (m3.add b3 (cs t)) (some ⟨b3,0,none⟩) ys/\(∀u:Value,u∈ys->u.oneCell'=true)/\(ts.length+1)*sz<=140737488355328/\ts.length+1<=9223372036854775807/\
   ∀(a':Option Addr)(c':Nat)(m4:Mem),(m3.add b3 (cs t)).le m4->rowRd m4 a' (List.append xs ys)->ts.length+1<=c'->K a' c' m4:=
 ⟨hp,(ts.map cs).flatten,cs t,ZaY hn ts,by rw[hn,Nat.one_mul],aB.mono (Mem.le_add hf _),Zbi,h1 t,bE,by omega,λa' c' m4 hm hr hc=>k a' c' m4 hm (by rw[ZjE];exact hr) hc⟩
structure SSta where
 a:Option Addr
 l:List SRul
 d:Nat
def SSta.cs(x:SSta):List Value:=[.slice x.a x.l.length x.d]
theorem SSta.len(x:SSta):x.cs.length=1:=rfl
structure RepSS (m:Mem)(x:SSta):Prop where
 l:x.l.length<=1000000000000000
 d:x.l.length<=x.d
 row:rowRd m x.a (x.l.map SRul.cs).flatten
 all:∀r∈x.l,RepSR m r
theorem RepSS.mono{m m':Mem}{x:SSta}(h:RepSS m x)(hm:m.le m'):RepSS m' x:=⟨h.l,h.d,h.row.mono hm,λa ha=>(h.all a ha).mono hm⟩
structure SScr where
 n:Nat
 va:Option Addr
 vl:List Nat
 vd:Nat
 sa:Option Addr
 sl:List SSta
 sd:Nat
def SScr.cs(x:SScr):List Value:=[.int .u8 x.n,.slice x.va x.vl.length x.vd,.slice x.sa x.sl.length x.sd]
theorem SScr.len(x:SScr):x.cs.length=3:=rfl
structure RepSC (m:Mem)(x:SScr):Prop where
 n:x.n < 256
 v:BytU m x.va x.vl
 vl:x.vl.length<=1000000000000000
 sl:x.sl.length<=1000000000000000
 sd:x.sl.length<=x.sd
 row:rowRd m x.sa (x.sl.map SSta.cs).flatten
 all:∀s∈x.sl,RepSS m s
theorem RepSC.mono{m m':Mem}{x:SScr}(h:RepSC m x)(hm:m.le m'):RepSC m' x:=⟨h.n,h.v.mono hm,h.vl,h.sl,h.sd,h.row.mono hm,λa ha=>(h.all a ha).mono hm⟩
def ByR:Value->Mem->List (List Value)->Prop:=λv _ _=>∃n:Nat,v=.int .i64 n/\n < 256
theorem Zua:∀(v:Value)(m':Mem) (css:List (List Value)),ByR v m' css->Shape.fits (.int .i64) v=true:=λv _ _ ⟨_,h,_⟩=>by rw[h];rfl
theorem ZxG(x:SScr)(b:Nat)(i:Nat)(m:Mem)(hb:m.reads b 0 x.cs)(hx:RepSC m x)(hi:i<=1000):CX Tryz.prog 43 #[.int .i64 i,.pointer (some ⟨b,0,none⟩)] m [] ByR:=by
 apply ZgS
 have h1:=hb 1 _ rfl
 refine⟨_,h1,Zaa rfl (Zab (λh=>ZaH (Mem.le_refl _) ⟨0,rfl,by omega⟩) (λh=>⟨_,h1,_,h1,Zaa rfl ⟨?_,Zaa rfl ?_⟩⟩))⟩
 ·show(x.vl.length:Int)≠0
  have:¬((x.vl.length:Int)=0):=by simpa[slN]using h
  exact this
 have h0:x.vl.length≠0:=by
  intro e
  have:¬((x.vl.length:Int)=0):=by simpa[slN]using h
  omega
 have aC:i % x.vl.length < x.vl.length:=Nat.mod_lt _ (by omega)
 obtain⟨n,hn⟩:=Zaq aC
 obtain⟨jg,b1,o1,fH,eE⟩:=hx.v.get hn
 have ls:Int.tmod (i:Int) ((slN (.slice x.va x.vl.length x.vd):Nat):Int)=((i % x.vl.length:Nat):Int):=rfl
 refine⟨b1,o1,fH,by rw[ls];exact⟨by omega,by show((i % x.vl.length:Nat):Int) < (x.vl.length:Nat);omega⟩,_,by rw[ls,zA8];exact eE,_,rfl,ZaH (Mem.le_refl _) ⟨n,?_,jg⟩⟩
 rw[Zak (by omega) (by omega)]
theorem Zzm(n:Int):ConvIs Tryz.prog 3 49 (.int .i64 n) (.float .f64 (FloatKind.f64.nearest n)):=λw=>by
 simp[convert,Tryz.underlying3,Tryz.underlying49,Conv.intToFloat]
theorem ZAy:∀n:Fin 5,((FloatKind.f64.format.div (FloatKind.f64.nearest (n:Nat)) 4611686018427387904).any Zi4)=true:=by decide +kernel
theorem ZAz:∀j < 5,∃s:ByteArray,[Value.string ⟨#[]⟩,.string ⟨#[97]⟩,.string ⟨#[98,98]⟩,.string ⟨#[49]⟩,.string ⟨#[48,46,53]⟩][j*1]?=some (.string s)/\s.size<=3:=by
 intro j hj
 have:j=0\/j=1\/j=2\/j=3\/j=4:=by omega
 rcases this with rfl|rfl|rfl|rfl|rfl <;> exact⟨_,rfl,by decide⟩
theorem Va.one(a:Va):∀u∈a.cs,u.oneCell'=true:=by
 intro u hu
 simp only[Va.cs,List.mem_cons,List.not_mem_nil,or_false]at hu
 rcases hu with rfl|rfl|rfl|rfl <;> rfl
theorem Sta.one(a:Sta):∀u∈a.cs,u.oneCell'=true:=by
 intro u hu
 simp only[Sta.cs,List.mem_cons,List.not_mem_nil,or_false]at hu
 rcases hu with rfl|rfl <;> rfl
theorem Ru.one(a:Ru):∀u∈a.cs,u.oneCell'=true:=by
 intro u hu
 simp only[Ru.cs,List.mem_cons,List.not_mem_nil,or_false]at hu
 rcases hu with rfl|rfl|rfl|rfl|rfl|rfl|rfl|rfl|rfl|rfl|rfl|rfl|rfl|rfl|rfl|rfl <;> rfl
def ScR:Value->Mem->List (List Value)->Prop:=λv m' _=>∃s:Sc,v=s.v/\RepC m' s/\MkC s
theorem ZxH:∀(v:Value)(m':Mem) (css:List (List Value)),ScR v m' css->Shape.fits (.agg [.int .i64,.slice,.slice]) v=true:=λv _ _ ⟨_,h,_⟩=>by rw[h];rfl
theorem Zq8{α:Type}{L:List α}{t:α}{P:Nat->α->Prop}(h:∀j v,L[j]?=some v->P j v)(ht:P L.length t):∀j v,(L++[t])[j]?=some v->P j v:=by
 intro j v hv
 rcases Nat.lt_or_ge j L.length with aC|bL
 ·rw[zA5 aC]at hv;exact h j v hv
 ·have hj:=(zA0 hv).1
  rw[zA1,List.length_singleton]at hj
  obtain rfl:j=L.length:=by omega
  simp at hv;subst hv;exact ht
theorem ZxI{i:Nat}{v:Va}(h:MkV i v):RepV v:=by
 have hm:=zA2 h.name
 refine⟨?_,?_⟩
 ·rcases List.mem_append.1 hm with hm|hm
  ·have:=ZjF _ hm;omega
  ·have:=ZjH _ hm;omega
 ·rcases h.kind with⟨_,_,h,_⟩|⟨_,_,h,_⟩
  ·rw[h,ZaL];omega
  ·omega
set_option maxHeartbeats 2000000 in
theorem ZxJ(x:SScr)(m:Mem)(hx:RepSC m x):CX Tryz.prog 10 #[.agg x.cs.toArray] m [] ScR:=by
 apply Zjw
 intro b m1 aE hb b1
 have eL:=hx.mono aE
 have te:Int.tmod (x.n:Int) 11=((x.n % 11:Nat):Int):=rfl
 have lU:IntKind.i64.wrap (2+IntKind.i64.wrap (Int.tmod (x.n:Int) 11))=((2+x.n % 11:Nat):Int):=by rw[te,Zak (n:=((x.n % 11:Nat):Int)) (by omega) (by omega),Zak (by omega) (by omega)];omega
 have tf:x.n % 11 < 11:=Nat.mod_lt _ (by omega)
 refine⟨_,rfl,by omega,λb2=>Zan (Zhs m1) ZcT ?_⟩
 rintro a0 n0 c0 m2 aK ⟨a',c',nk,eX⟩
 simp only[Value.slice.injEq]at nk
 obtain⟨rfl,rfl,rfl⟩:=nk
 rw[lU]
 generalize x.n % 11=u at tf
 have cR:=mLt aE aK
 refine⟨λxs css tvs m' q=>∃(L:List Va)(a:Option Addr)(d:Nat),L.length<=4/\xs=[.int .i64 L.length]/\css=[[.int .i64 ((2+u:Nat):Int),.slice a L.length d,.slice none 0 0]]/\tvs=[.slice a L.length d]/\L.length<=d/\rowRd m' a (L.map Va.cs).flatten/\(∀j v,L[j]?=some v->MkV j v)/\q=4 - L.length,⟨4,[],none,0,by simp,rfl,rfl,rfl,by simp,.inl rfl,by simp,rfl⟩,?_⟩
 rintro z cs a n1 d m3 q aQ ⟨L,a',d',yJ,hz,bN,cH,xm,aB,iw,rfl⟩
 simp only[List.cons.injEq,Value.slice.injEq,Value.int.injEq,true_and,and_true]at hz bN cH
 obtain⟨rfl,rfl,rfl⟩:=cH
 subst hz bN
 have oA:=mLt aK aQ
 refine ZaG (λaC=>?_) (λbL=>?_)
 ·have aI:L.length < 4:=by have:(L.length:Int) < (Zix.length:Nat):=aC;have:Zix.length=4:=rfl;omega
  obtain⟨s,hs⟩:=Zaq (l:=Zix) (k:=L.length) aI
  obtain⟨b3,o3,fu,cG⟩:=ZcS (eX.mono aQ) hs
  refine⟨b3,o3,fu,⟨by omega,aC⟩,_,cG,s,rfl,λ_ _ _=>ByR,Zal rfl ⟨_,rfl,ZxG x b L.length m3 (hb.mono oA) (eL.mono oA) (by omega),Zua,?_⟩⟩
  rintro n4 m4 bZ ⟨n,hn,jg⟩
  obtain rfl:n4=n:=by simpa using hn
  have hq:=ZAy ⟨n % 5,Nat.mod_lt _ (by omega)⟩
  obtain⟨r,hr,fE⟩:=(Option.any_eq_true ..).1 hq
  have hr:FloatKind.f64.format.div (FloatKind.f64.nearest ((n % 5:Nat):Int)) 4611686018427387904=some r:=hr
  have qX:Int.tmod (n:Int) 5=((n % 5:Nat):Int):=rfl
  refine⟨by omega,_,Zzm _,_,by rw[qX];exact Zt6 _ hr,Zaa rfl (Zaa rfl (Zaa rfl λb5 jt=>Zaa rfl ?_))⟩
  have hw:IntKind.i64.wrap ((L.length:Int)+1)=((L.length+1:Nat):Int):=by rw[Zak (by omega) (by omega)];rfl
  refine ZjI Va.len Va.one jt (⟨s,true,.empty,r⟩:Va) (aB.mono bZ) 48 (by omega) (by omega) (.inl rfl) λa6 c6 m6 eY j7 tg=>Zaa rfl λM _ _ _ hM=>⟨rfl,4 - (L.length+1),by omega,L++[⟨s,true,.empty,r⟩],a6,c6,by rw[zA1];exact aI,by rw[hw,zA1];rfl,by rw[zA1];rfl,by rw[zA1];rfl,by rw[zA1];exact tg,j7.mono hM,Zq8 iw ⟨by rw[zA5 aI];exact hs,.inl ⟨aI,rfl,rfl,fE⟩⟩,by rw[zA1];rfl⟩
 have hL:L.length=4:=by have:¬(L.length:Int) < (Zix.length:Nat):=bL;have:Zix.length=4:=rfl;omega
 refine Zan (Zmn m3) ZcT ?_
 rintro a5 n5 c5 m4 bZ ⟨a',c',fN,fC⟩
 simp only[Value.slice.injEq]at fN
 obtain⟨rfl,rfl,rfl⟩:=fN
 have im:=mLt oA bZ
 refine⟨λxs css tvs m' q=>∃(W:List Va)(a:Option Addr)(d i:Nat),i<=2/\W.length=4+i/\xs=[.int .i64 i]/\css=[[.int .i64 ((2+u:Nat):Int),.slice a W.length d,.slice none 0 0]]/\tvs=[.slice a W.length d]/\W.length<=d/\rowRd m' a (W.map Va.cs).flatten/\(∀j v,W[j]?=some v->MkV j v)/\q=2 - i,⟨2,L,a,d,0,by omega,by omega,rfl,rfl,rfl,xm,aB.mono bZ,iw,rfl⟩,?_⟩
 rintro z cs a7 n7 d7 m5 q cO ⟨W,a',d',i,ii,pN,hz,bN,cH,u4,j8,lw,rfl⟩
 simp only[List.cons.injEq,Value.slice.injEq,Value.int.injEq,true_and,and_true]at hz bN cH
 obtain⟨rfl,rfl,rfl⟩:=cH
 subst hz bN
 have pO:=mLt im cO
 refine ZaG (λaC=>?_) (λbL=>?_)
 ·have aI:i < 2:=by have:(i:Int) < (ZeI.length:Nat):=aC;have:ZeI.length=2:=rfl;omega
  obtain⟨s,hs⟩:=Zaq (l:=ZeI) (k:=i) aI
  obtain⟨b3,o3,fu,cG⟩:=ZcS (fC.mono cO) hs
  have ti:IntKind.i64.wrap ((i:Int)+4)=((i+4:Nat):Int):=by rw[Zak (by omega) (by omega)];rfl
  have hw:IntKind.i64.wrap ((i:Int)+1)=((i+1:Nat):Int):=by rw[Zak (by omega) (by omega)];rfl
  rw[ti,hw]
  refine⟨b3,o3,fu,⟨by omega,aC⟩,_,cG,s,rfl,λ_ _ _=>ByR,Zal rfl λb4 fM=>⟨_,rfl,ZxG x b (i+4) m5 (hb.mono pO) (eL.mono pO) (by omega),Zua,?_⟩⟩
  rintro n4 m6 eY ⟨n,hn,jg⟩
  obtain rfl:n4=n:=by simpa using hn
  have qX:Int.tmod (n:Int) 5=((n % 5:Nat):Int):=rfl
  have h5:n % 5 < 5:=Nat.mod_lt _ (by omega)
  obtain⟨s1,pF,lZ⟩:=ZAz (n % 5) h5
  refine⟨by omega,by rw[qX];exact⟨by omega,by omega⟩,λV _ _ _=>Zal (by rw[qX,zA8];exact pF) ⟨s1,rfl,λV2 xn _ _ b5 jt=>Zaa rfl ?_⟩⟩
  refine ZjI Va.len Va.one jt (⟨s,false,s1,0⟩:Va) (j8.mono xn) 48 (by omega) (by omega) (.inl rfl) λa6 c6 m7 fD j7 tg=>Zaa rfl λM _ _ _ _ hM=>⟨rfl,rfl,2 - (i+1),by omega,W++[⟨s,false,s1,0⟩],a6,c6,i+1,by omega,by rw[zA1];simp;omega,rfl,by rw[zA1];rfl,by rw[zA1];rfl,by rw[zA1];exact tg,j7.mono hM,Zq8 lw ⟨by rw[pN,zA4 (show Zix.length<=4+i by show 4<=_;omega)];show ZeI[4+i - 4]?=_;rw[show 4+i - 4=i by omega];exact hs,.inr ⟨by omega,rfl,lZ,rfl⟩⟩,rfl⟩
 have hW:W.length=6:=by have:¬(i:Int) < (ZeI.length:Nat):=bL;have:ZeI.length=2:=rfl;omega
 have eR:=hx.sl
 have u5:=hx.sd
 have hN:(if(4:Int) < (x.sl.length:Int)then(4:Int)else(x.sl.length:Int))=((min 4 x.sl.length:Nat):Int):=by split <;> omega
 simp only[hN,zA8,Nat.sub_zero]
 generalize qT:min 4 x.sl.length=N
 refine⟨⟨by omega,by omega⟩,λxs css tvs m' q=>∃(S:List Sta)(a:Option Addr)(e:Nat),S.length<=N/\xs=[.int .i64 S.length]/\css=[[.int .i64 ((2+u:Nat):Int),.slice a7 W.length d7,.slice a S.length e]]/\tvs=[.slice a S.length e]/\S.length<=e/\rowRd m' a (S.map Sta.cs).flatten/\(∀y∈S,RepS m' y)/\(∀j y,S[j]?=some y->MkS N j y)/\q=N - S.length,⟨N,[],none,0,by simp,rfl,rfl,rfl,by simp,.inl rfl,by simp,by simp,rfl⟩,?_⟩
 rintro z cs a8 n8 d8 m6 q eY ⟨S,a',d',yK,hz,bN,cH,xo,mw,my,pP,rfl⟩
 simp only[List.cons.injEq,Value.slice.injEq,Value.int.injEq,true_and,and_true]at hz bN cH
 obtain⟨rfl,rfl,rfl⟩:=cH
 subst hz bN
 have lx:=mLt pO eY
 have nI:=eL.mono lx
 have u6:∀v∈W,RepV v:=λv hv=>by
  obtain⟨j,hj⟩:=List.getElem?_of_mem hv
  exact ZxI (lw j v hj)
 refine ZaG (λaC=>?_) (λbL=>?_)
 ·have aI:S.length < N:=by omega
  obtain⟨y,hy⟩:=Zaq (l:=x.sl) (k:=S.length) (by omega)
  obtain⟨b3,o3,fu,gq⟩:=Zai SSta.len nI.row hy (by omega)
  have ng:=nI.all y (zA2 hy)
  refine⟨b3,o3,fu,⟨by omega,aC⟩,_,gq 0 _ rfl,Zan (ZjG m6) ZcT ?_⟩
  rintro a9 n9 c9 m7 fD ⟨a',c',j9,nh⟩
  simp only[Value.slice.injEq]at j9
  obtain⟨rfl,rfl,rfl⟩:=j9
  obtain⟨s,hs⟩:=Zaq (l:=ZeM) (k:=S.length) (by show S.length < 4;omega)
  obtain⟨b4,o4,lr,cG⟩:=ZcS nh hs
  have fO:=ng.l
  have yM:=ng.d
  have xp:(if(5:Int) < (slN (.slice y.a y.l.length y.d):Nat)then(5:Int)else(slN (.slice y.a y.l.length y.d):Nat))=((min 5 y.l.length:Nat):Int):=by
   show(if(5:Int) < (y.l.length:Int)then(5:Int)else(y.l.length:Int))=_
   split <;> omega
  have xq:=ng.mono fD
  refine⟨b4,o4,lr,⟨by omega,by show(S.length:Int) < (4:Nat);omega⟩,_,cG,s,rfl,λb5=>Zaa rfl (Zaa rfl ?_)⟩
  simp only[xp,zA8,Nat.sub_zero]
  generalize qM:min 5 y.l.length=K
  have xr:=ZfJ s (zA2 hs)
  refine⟨⟨by omega,by show((K:Nat):Int)<=(y.d:Nat);omega⟩,λxs css tvs m' q=>∃(T:List Ru)(a:Option Addr)(e:Nat),T.length<=K/\xs=[.int .i64 T.length]/\css=[[.string s,.slice a T.length e]]/\tvs=[.slice a T.length e]/\rowRd m' a (T.map Ru.cs).flatten/\(∀r∈T,RepR m' r)/\(∀r∈T,MkR N r)/\q=K - T.length,⟨K,[],none,0,by simp,rfl,rfl,rfl,.inl rfl,by simp,by simp,rfl⟩,?_⟩
  rintro z cs a10 n10 d10 m8 q eZ ⟨T,a',d',yN,hz,bN,cH,mA,mB,pQ,rfl⟩
  simp only[List.cons.injEq,Value.slice.injEq,Value.int.injEq,true_and,and_true]at hz bN cH
  obtain⟨rfl,rfl,rfl⟩:=cH
  subst hz bN
  refine ZaG (λdO=>?_) (λdX=>?_)
  ·have kj:T.length < K:=by omega
   obtain⟨r,hr⟩:=Zaq (l:=y.l) (k:=T.length) (by omega)
   have u9:=xq.mono eZ
   obtain⟨b6,o6,iL,gE⟩:=Zai SRul.len u9.row hr (by omega)
   have hw:IntKind.i64.wrap ((T.length:Int)+1)=((T.length+1:Nat):Int):=by rw[Zak (by omega) (by omega)];rfl
   refine⟨b6,o6,iL,⟨by omega,dO⟩,_,_,_,_,_,_,gE,λb7=>Zaa rfl ⟨λ_ _ _=>RuR N,Zal rfl ⟨_,rfl,Zvt r N m8 (u9.all r (zA2 hr)) (by omega),ZxE,?_⟩⟩⟩
   rintro k1 k2 k3 k4 k5 k6 k7 k8 k9 k10 ka kb kc ks kd ke kf kg kh ki m9 gT ⟨w,hv,kX,td⟩ b10 gU
   simp only[Ru.cs,Value.agg.injEq,Array.mk.injEq,List.cons.injEq,Value.int.injEq,Value.bool.injEq,Value.string.injEq,Value.slice.injEq,true_and,and_true]at hv
   obtain⟨rfl,rfl,rfl,rfl,rfl,rfl,rfl,rfl,rfl,rfl,⟨rfl,rfl,rfl⟩,rfl,rfl,⟨rfl,rfl,rfl⟩,rfl,rfl⟩:=hv
   refine Zaa rfl ?_
   refine ZjI Ru.len Ru.one gU w (mA.mono gT) 168 (by omega) (by omega) (.inl rfl) λa5 c5 m5 cO bP _=>Zaa rfl λM _ fy fw gJ=>⟨trivial,trivial,K - (T.length+1),by omega,T++[w],a5,c5,by rw[zA1];exact kj,by rw[hw,zA1];rfl,by rw[zA1];rfl,by rw[zA1];rfl,bP.mono gJ,?_,?_,by rw[zA1];rfl⟩
   ·intro z hz
    rcases List.mem_append.1 hz with hz|hz
    ·exact(mB z hz).mono (mLt gT fy)
    ·rw[List.mem_singleton]at hz;subst hz;exact kX.mono fy
   ·intro z hz
    rcases List.mem_append.1 hz with hz|hz
    ·exact pQ z hz
    ·rw[List.mem_singleton]at hz;subst hz;exact td
  ·have hw:IntKind.i64.wrap ((S.length:Int)+1)=((S.length+1:Nat):Int):=by rw[Zak (by omega) (by omega)];rfl
   have qY:=mLt fD eZ
   refine Zal rfl (Zaa rfl λb6 gR=>Zaa rfl ?_)
   refine ZjI Sta.len Sta.one gR (⟨s,a10,d10,T⟩:Sta) (mw.mono qY) 40 (by omega) (by omega) (.inl rfl) λa5 c5 m5 cO bP xt=>Zaa rfl ⟨trivial,trivial,N - (S.length+1),by omega,S++[⟨s,a10,d10,T⟩],a5,c5,by rw[zA1];exact aI,by rw[hw,zA1];rfl,by rw[zA1];rfl,by rw[zA1];rfl,by rw[zA1];exact xt,bP,?_,Zq8 pP ⟨hs,by show T.length<=5;omega,pQ⟩,by rw[zA1];rfl⟩
   have ew:=mLt (Mem.le_add gR (⟨s,a10,d10,T⟩:Sta).cs) cO
   intro z hz
   rcases List.mem_append.1 hz with hz|hz
   ·exact(my z hz).mono (mLt qY ew)
   ·rw[List.mem_singleton]at hz;subst hz
    exact⟨by show s.size<=_;omega,by show T.length<=few;unfold few;omega,mA.mono ew,λr hr=>(mB r hr).mono ew⟩
 ·have xu:S.length=N:=by omega
  have gC:=mLt aE lx
  have pR:W.length<=few:=by unfold few;omega
  have hn:I64 ((2+u:Nat):Int):=by unfold I64;omega
  have vb:m5.le m6:=eY
  refine Zal rfl (Zaa rfl (Zab (λh0=>λb3 gA=>Zaa rfl (Zaa rfl ?_)) (λh0=>Zaa rfl (ZaH gC ⟨⟨((2+u:Nat):Int),a7,d7,W,a8,d8,S⟩,rfl,⟨hn,pR,j8.mono vb,u6,by show S.length<=few;unfold few;omega,mw,my,u4,xo⟩,⟨by show 2<=((2+u:Nat):Int)/\((2+u:Nat):Int)<=12;omega,hW,lw,?_,?_⟩⟩))))
  ·have ew:=Mem.le_add gA [Value.string ⟨#[97]⟩,.slice none 0 0]
   refine ZaH (mLt gC ew) ⟨⟨((2+u:Nat):Int),a7,d7,W,some ⟨b3,0,none⟩,1,[⟨⟨#[97]⟩,none,0,[]⟩]⟩,rfl,⟨hn,pR,(j8.mono vb).mono ew,u6,by show 1<=few;unfold few;omega,Zbi,?_,u4,by show 1<=1;omega⟩,⟨by show 2<=((2+u:Nat):Int)/\((2+u:Nat):Int)<=12;omega,hW,lw,by show 1<=1/\1<=4;omega,?_⟩⟩
   ·intro y hy
    rw[List.mem_singleton]at hy;subst hy
    exact⟨by show(ByteArray.mk #[97]).size<=_;decide,by show 0<=few;omega,.inl rfl,by simp⟩
   ·intro j y hy
    have:j=0:=by have:=(zA0 hy).1;simp at this;omega
    subst this
    simp at hy;subst hy
    exact⟨rfl,by show 0<=5;omega,by simp⟩
  ·have:¬((S.length:Int)=0):=by simpa[slN]using h0
   show 1<=S.length/\S.length<=4
   omega
  ·intro j y hy
   show MkS S.length j y
   rw[xu];exact pP j y hy
end Go.Proofs.YtpjepnkiiojgfaaGreat
namespace Go.Proofs.YtpjepnkiiojgfaaGreat
open Go Go.Eng Go.Proofs Go.RowKit
open Go.Value (int slice agg bool string tuple func)
open Go.IntKind (u8 u64 i64)
set_option maxRecDepth 100000
def Zok:Env:={ EB with
 frzNew:=[1] }
theorem ZlH(aA:Int)(aD:Value)(aG:ByteArray)(aF:Int)(aS:Option Addr)(aM aZ:Nat)(m:Mem)(R:RT)(h:
 lV [int u8 aA,aD,string aG,int i64 aF,slice aS aM aZ] λxL=>fzM m xL λb m'=>kB Tryz.prog 94 [agg (Array.mk xL)] m' λb m'=>br (!b) (rtM m m' R (int i64 20001)) (kI Tryz.prog 95 [agg
 (Array.mk xL)] m' λn m'=>rtM m m' R (int i64 n))):CX Tryz.prog 60 #[.agg #[.int .u8 aA,aD,.string aG,.int .i64 aF,.slice aS aM aZ]] m [] R:=
 Zae (E:=Zok) Zao mix Tryz.func60 (by kernel_rfl) (Eq.mp (by kernel_rfl) h)
def Zol:Env:={ EB with
 loops:=(λi=>bif Nat.beq i 3 then⟨[(3,.int .i64),(22,.int .i64)],[],[],false⟩ else bif Nat.beq i 6 then⟨[(3,.int .i64),(29,.int .i64)],[],[],false⟩ else bif Nat.beq i 12 then⟨[(3,.int .i64),(49,.int .i64)],[],[],false⟩ else bif Nat.beq i 16 then⟨[(3,.int .i64),(66,.int .i64)],[],[],false⟩ else⟨[],[],[],false⟩)
 dr:=(λi=>bif Nat.beq i 14 then[⟨0,[],[],none,[],[]⟩,⟨1,[9],[],none,[],[]⟩,⟨2,[9],[],none,[1],[]⟩,⟨3,[],[],none,[1,2],[]⟩,⟨4,[],[],none,[1,2,3],[]⟩,⟨5,[9],[],none,[],[]⟩,⟨6,[9],[],none,[5],[]⟩,⟨7,[],[],none,[5,6],[]⟩,⟨8,[],[],none,[1,2,3,4,5,6,7],[]⟩,⟨9,[],[],none,[0,1,2,3,4,5,6,7,8],[]⟩,⟨10,[],[],none,[0,1,2,3,4,5,6,7,8,9],[]⟩]else[])
 frzNew:=[1]
 cuts:=(λi=>bif Nat.beq i 11 then some ⟨[(3,.int .i64)],[],[],false⟩ else none) }
theorem ZlI(aA:Int)(aW:Option Addr)(aP aX:Nat)(aN:Option Addr)(aJ aV:Nat)(m:Mem)(R:RT)(h:
 lV [int i64 aA,slice aW aP aX,slice aN aJ aV] λxL=>fzM m xL λb m'=>∃(I:IT),lE [some (Box.mk b xL 32 3 true true)] λxL=>inI I [int i64 (i64.wrap ((↑aP:Int)+(↑aJ
 : Int))),int i64 0] [] [] m'/\∀(n ae:Int)(ad:Mem)(a3:Nat),m'.le ad->I [int i64 n,int i64 ae] [] [] ad a3->br (decide (ae < (↑aJ:Int))) (atA aN λb o=>Zad ae aJ/\∃v ab:Value,lV [v,ab] λa4=>ad.reads b (o+Int.toNat ae*2) a4/\∀(b:Nat),lE (some (Box.mk b a4 36 2 false true)::xL) λa5=>chk (v.oneCell'&&(ab.oneCell'&&true)) (chk (ZbM ab) (∃
 (ak:IT),inI ak [int i64 n,int i64 0] [] [] ad/\∀(n af:Int)(m':Mem)(a6:Nat),ad.le m'->ak [int i64 n,int i64 af] [] [] m' a6->br (decide (af < (↑(slN ab):Int))) (chk (ZbM ab) (atA (slA ab) λb o
 => Zad af (slN ab)/\∃v a7 a8 al am an ao ap aq ar au a9 ba ac bb bc:Value,lV [agg (Array.mk [al,am,an,ao,ap,aq,ar,au])] λxL=>lV [v,a7,a8,al,am,an,ao,ap,aq,ar,au,a9,ba,ac,bb,bc] λbd=>m'.reads b (o
 + Int.toNat af*16) bd/\∀(b:Nat),lE (some (Box.mk b bd 47 16 false true)::a5) λai=>chk (v.oneCell'&&(a7.oneCell'&&(a8.oneCell'&&(al.oneCell'&&(am.oneCell' &&
 (an.oneCell'&&(ao.oneCell'&&(ap.oneCell'&&(aq.oneCell'&&(ar.oneCell'&&(au.oneCell'&&(a9.oneCell'&&(ba.oneCell'&&(ac.oneCell'&&(bb.oneCell' &&
 (bc.oneCell'&&true)))))))))))))))) (kI Tryz.prog 58 xL m' λbe m'=>∃(J:JT),(kB Tryz.prog 59 xL m' λb m'=>br (!b) (Zac ai/\J [int i64 20001] [] [] m') (Zac ai/\J [int i64 (i64.wrap (n
 + i64.wrap ((1:Int)+if(20000:Int) < be then(20000:Int)else be)))] [] [] m'))/\∀(n:Int)(aj:Mem),m'.le aj->J [int i64 n] [] [] aj->chk (ZbM ac) (∃(I:IT),inI I [int i64 n,int i64 0]
 [] [] aj/\∀(n ag:Int)(m':Mem)(bf:Nat),aj.le m'->I [int i64 n,int i64 ag] [] [] m' bf->br (decide (ag < (↑(slN ac):Int))) (chk (ZbM ac) (atA (slA ac) λb o=>Zad ag (slN ac)/\∃v av aa bg bh bi bj bk:Value,lV [bg,bh,bi,bj,bk] λxL=>m'.reads b (o+Int.toNat ag*8) (v::av::aa::xL)/\∀(b:Nat),
 chk (v.oneCell'&&(av.oneCell'&&(aa.oneCell'&&(bg.oneCell'&&(bh.oneCell'&&(bi.oneCell'&&(bj.oneCell'&&(bk.oneCell'&&true)))))))) (∃(f:Fx),∃(R_1:RT),
 R_1=f 3 [agg (Array.mk xL)] m'/\CX Tryz.prog 60 (Array.mk [agg (Array.mk xL)]) m' [] R_1/\ZbC (Shape.int i64) R_1/\∀(bl:Int)(aw:Mem),m'.le aw->R_1 (int i64 bl) aw []->chk (ZbM aa) (∀(M:Mem),
 m'.le M->aw.le M->chk (ZbM aa) (∃(ax:IT),inI ax [int i64 (i64.wrap (n+i64.wrap (i64.wrap ((1:Int)+bl)+(↑(slN aa):Int)))),int i64 0] [] [] M/\∀(n ah:Int)(m':Mem)
 (bm:Nat),M.le m'->ax [int i64 n,int i64 ah] [] [] m' bm->br (decide (ah < (↑(slN aa):Int))) (chk (ZbM aa) (atA (slA aa) λbq o=>Zad ah (slN aa)/\∃bn bo bp ay az a0 a1 a2:Value,m'.reads bq (o+Int.toNat ah*8) [bn,bo,bp,ay,az,a0,a1,a2]/\∀(bt:Nat),chk (bn.oneCell'&&(bo.oneCell' &&
 (bp.oneCell'&&(ay.oneCell'&&(az.oneCell'&&(a0.oneCell'&&(a1.oneCell'&&(a2.oneCell'&&true)))))))) (br (decide (n > (20000:Int))) (rtM m m' R (bool (decide (n<=(20000:
 Int))))) (kI Tryz.prog 60 [agg (Array.mk [ay,az,a0,a1,a2])] m' λbs m'=>Zac (some (Box.mk b (v::av::aa::xL) 54 8 false true)::ai)/\nxI bm ax [int i64 (i64.wrap (n+bs)),int i64
 (i64.wrap (ah+(1:Int)))] [] [] m')))) (Zac ai/\nxI bf I [int i64 n,int i64 (i64.wrap (ag+(1:Int)))] [] [] m')))))) (br (decide (n > (20000:Int))) (rtM m m' R (bool (decide (n<=(20000:
 Int))))) (Zac a5/\nxI a6 ak [int i64 n,int i64 (i64.wrap (af+(1:Int)))] [] [] m')))))) (Zac xL/\nxI a3 I [int i64 n,int i64 (i64.wrap (ae+(1:Int)))] [] [] m')))) (rtM m ad R (bool
 (decide (n<=(20000:Int)))))):CX Tryz.prog 19 #[.agg #[.int .i64 aA,.slice aW aP aX,.slice aN aJ aV]] m [] R:=
 Zae (E:=Zol) Zao mix Tryz.func19 (by kernel_rfl) (Eq.mp (by kernel_rfl) h)
def ZlJ:Env:={ EB with
 frzNew:=[2] }
theorem ZjJ(aA:ByteArray)(aW:Option Addr)(aP aX c0b c0o:Nat)(m:Mem)(R:RT)(h:
 fzM m [string aA,slice aW aP aX] λb m'=>∃(v:Value),m' c0b c0o=some v/\chk (Zfh v) (rtM m m' R (bool (ByteArray.toList aA == ByteArray.toList (ZbX v))))):CX Tryz.prog 51 #[.agg #[.string aA,.slice aW aP aX],.pointer (some ⟨c0b,c0o,none⟩)] m [] R:=
 Zae (E:=ZlJ) Zao mix Tryz.func51 (by kernel_rfl) (Eq.mp (by kernel_rfl) h)
def Za4:Env:={ EB with
 loops:=(λi=>bif Nat.beq i 2 then⟨[(8,.int .i64)],[],[],false⟩ else⟨[],[],[],false⟩) }
theorem Za2(p0a:Option Addr)(p0n p0c p1g:Nat)(p1fi p1ca:List Value)(m:Mem)(R:RT)(h:
 ∃(I:IT),inI I [int i64 0] [] [] m/\∀(n:Int)(m':Mem)(n_1:Nat),m.le m'->I [int i64 n] [] [] m' n_1->br (decide (n < (↑p0n:Int))) (atA p0a λb o=>Zad n p0n/\∃v v_1:Value,m'.reads b (o+Int.toNat n*2) [v,v_1]/\kB Tryz.prog p1g (List.append (List.append p1fi [agg (Array.mk [v,v_1])]) p1ca) m' λb m'=>br b (rtM m m' R (int i64 n)) (nxI n_1 I [int i64 (i64.wrap (n+(1
 : Int)))] [] [] m')) (rtM m m' R (int i64 (-1:Int)))):CX Tryz.prog 50 #[.slice p0a p0n p0c,.func (.func p1g) p1fi.toArray p1ca.toArray] m [] R:=
 Zae (E:=Za4) Zao mix Tryz.func50 (by kernel_rfl) (Eq.mp (by kernel_rfl) h)
def ZpF:Env:={ EB with
 joins:=(λi=>bif Nat.beq i 2 then some [(17,.bool)]else none)
 frzNew:=[2,3] }
theorem Zom(aA:Int)(aW:Option Addr)(aP aX:Nat)(aN:Option Addr)(aJ aV:Nat)(p1:ByteArray)(m:Mem)(R:RT)(h:
 lV [int i64 aA,slice aW aP aX,slice aN aJ aV] λxL=>fzM m xL λb m'=>lE [some (Box.mk b xL 32 3 true true)] λxL_1=>fzM m' [string p1] λb m'=>lE (some (Box.mk b [string p1] 9 1
 true true)::xL_1) λxL_2=>kI Tryz.prog 50 [slice aN aJ aV,func (Fn.func 51) (Array.mk []) (Array.mk [Value.pointer (some (Addr.mk b 0 none))])] m' λn m'=>∃(b:Bool),br (decide (n < (0:Int)))
 (Zac xL_2/\[bool true]=[bool b]) (kB Tryz.prog 19 [agg (Array.mk xL)] m' λb_1 m'=>Zac xL_2/\[bool !b_1]=[bool b])/\br b (rtM m m' R (tuple (Array.mk [int i64 0,bool false]))) (rtM m m' R (tuple
 (Array.mk [int i64 n,bool true])))):CX Tryz.prog 16 #[.agg #[.int .i64 aA,.slice aW aP aX,.slice aN aJ aV],.string p1] m [] R:=
 Zae (E:=ZpF) Zao mix Tryz.func16 (by kernel_rfl) (Eq.mp (by kernel_rfl) h)
def ZlK:Env:={ EB with
 loops:=(λi=>bif Nat.beq i 5 then⟨[(3,.slice),(20,.int .i64)],[],[(27,5)],false⟩ else bif Nat.beq i 10 then⟨[(3,.slice),(32,.int .i64)],[],[(27,5)],false⟩ else bif Nat.beq i 14 then⟨[(3,.slice),(45,.int .i64)],[],[(27,5)],false⟩ else bif Nat.beq i 18 then⟨[(3,.slice),(59,.int .i64)],[],[(27,5)],false⟩ else bif Nat.beq i 22 then⟨[(3,.slice),(74,.int .i64)],[],[(27,5)],false⟩ else⟨[],[],[],false⟩)
 tokOf:=(λi=>bif Nat.beq i 27 then 27 else bif Nat.beq i 41 then 27 else bif Nat.beq i 55 then 27 else bif Nat.beq i 70 then 27 else bif Nat.beq i 84 then 27 else 0)
 frzNew:=[1] }
theorem ZjK(aA:Int)(aW:Option Addr)(aP aX:Nat)(aN:Option Addr)(aJ aV:Nat)(m:Mem)(R:RT)(h:
 lV [int i64 aA,slice aW aP aX,slice aN aJ aV] λxL=>fzM m xL λb m'=>lE [some (Box.mk b xL 32 3 true true)] λcd=>kB Tryz.prog 19 [agg (Array.mk xL)] m' λb m'=>br (!b) (rtM m m' R
 (slice none 0 0)) (∀(b:Nat),lM (m'.add b [int i64 (-1:Int),int i64 (-1:Int),int i64 (-1:Int),int i64 (-1:Int),int i64 (-1:Int)]) λmL=>lE (some (Box.mk b [int i64 (-1:Int),int i64 (-1:
 Int),int i64 (-1:Int),int i64 (-1:Int),int i64 (-1:Int)] 27 5 true true)::cd) λxL=>m'.free b->∃(I:IT),inI I [slice (some (Addr.mk b 0 none)) 1 1,int i64 0] [] [slice none 0 0] mL/\∀(a:
 Option Addr) (n c:Nat) (ap:Int) (ce:Option Addr) (cf cg:Nat) (m':Mem) (a4:Nat),lX (slice ce cf cg) λyL=>lX (slice a n c) λaq=>lE (n+1) λaf=>lV [int i64 ap,int i64 (-1:Int),int i64 (-1:
 Int),int i64 (-1:Int),int i64 (-1:Int)] λch=>mL.le m'->I [aq,int i64 ap] [] [yL] m' a4->br (decide (ap < (↑aP:Int))) (∀(b:Nat),lM (m'.add b ch) λmL=>m'.free b->(Tok.mk yL 5 =
 Tok.mk aq 5\/aq=slice none 0 0\/c < af)/\∃(xs:List Value),∃(ys:List Value),xs.length=n*5/\ys.length=1*5/\rowRd mL a xs/\rowRd mL (some (Addr.mk b 0 none)) ys/\(∀(u:Value),u∈ys->
 u.oneCell'=true)/\af*40<=140737488355328/\af<=9223372036854775807/\∀(a':Option Addr)(c':Nat)(m':Mem),mL.le m'->rowRd m' a' (List.append xs ys)->Zac xL/\nxI a4 I [slice a' af c',int
 i64 (i64.wrap (ap+(1:Int)))] [] [slice a' af c'] m') (∃(I:IT),inI I [aq,int i64 0] [] [yL] m'/\∀(a:Option Addr)(n c:Nat)(ag:Int)(a5:Option Addr)(a6 a7:Nat)(ac:Mem)(a8:Nat),lX
 (slice a n c) λyL=>lE (n+1) λah=>lX (int i64 ag) λai=>lV [int i64 (-1:Int),ai,int i64 (-1:Int),int i64 (-1:Int),int i64 (-1:Int)] λa9=>m'.le ac->I [yL,ai] [] [slice a5 a6 a7] ac
 a8->br (decide (ag < (↑aJ:Int))) (atA aN λb o=>Zad ag aJ/\∃v aa:Value,ac.reads b (o+Int.toNat ag*2) [v,aa]/\∀(b:Nat),lE (some (Box.mk b [v,aa] 36 2 false true) ::
 xL) λci=>chk (v.oneCell'&&(aa.oneCell'&&true)) (∀(b:Nat),lM (ac.add b a9) λmL=>lE (some (Box.mk b a9 27 5 true true)::ci) λba=>ac.free b->(Tok.mk (slice a5 a6 a7) 5=Tok.mk
 yL 5\/yL=slice none 0 0\/c < ah)/\∃(xs:List Value),∃(ys:List Value),xs.length=n*5/\ys.length=1*5/\rowRd mL a xs/\rowRd mL (some (Addr.mk b 0 none)) ys/\(∀(u:Value),u∈ys->
 u.oneCell'=true)/\ah*40<=140737488355328/\ah<=9223372036854775807/\∀(a':Option Addr)(c':Nat)(m':Mem),mL.le m'->rowRd m' a' (List.append xs ys)->chk (ZbM aa) (∃(a0:IT),inI a0 [slice a'
 ah c',int i64 0] [] [slice a' ah c'] m'/\∀(a:Option Addr)(n c:Nat)(aj:Int)(cj:Option Addr)(ck cl:Nat)(ad:Mem)(bb:Nat),lX (slice cj ck cl) λyL=>lX (slice a n c) λar=>lE (n+1) λak=>
 lX (int i64 aj) λau=>lV [int i64 (-1:Int),ai,au,int i64 (-1:Int),int i64 (-1:Int)] λbc=>m'.le ad->a0 [ar,au] [] [yL] ad bb->br (decide (aj < (↑(slN aa):Int))) (chk (ZbM aa) (atA (slA aa)
 λb o=>Zad aj (slN aa)/\∃v bd be bf bg bh bi bj bk bl bm bn bo ab bp bq:Value,lV [v,bd,be,bf,bg,bh,bi,bj,bk,bl,bm,bn,bo,ab,bp,bq] λxL=>ad.reads b (o+Int.toNat aj*16) xL/\∀(b:Nat),lE (some
 (Box.mk b xL 47 16 false true)::ba) λxL=>chk (v.oneCell'&&(bd.oneCell'&&(be.oneCell'&&(bf.oneCell'&&(bg.oneCell'&&(bh.oneCell'&&(bi.oneCell' &&
 (bj.oneCell'&&(bk.oneCell'&&(bl.oneCell'&&(bm.oneCell'&&(bn.oneCell'&&(bo.oneCell'&&(ab.oneCell'&&(bp.oneCell'&&(bq.oneCell'&&true))))))))))))))))
 (∀(b:Nat),lM (ad.add b bc) λmL=>lE (some (Box.mk b bc 27 5 true true)::xL) λxL=>ad.free b->(Tok.mk yL 5=Tok.mk ar 5\/ar=slice none 0 0\/c < ak)/\∃(xs:List Value),∃(ys:List Value),
 xs.length=n*5/\ys.length=1*5/\rowRd mL a xs/\rowRd mL (some (Addr.mk b 0 none)) ys/\(∀(u:Value),u∈ys->u.oneCell'=true)/\ak*40<=140737488355328/\ak<=9223372036854775807/\∀(a'
 : Option Addr) (c':Nat) (m':Mem),mL.le m'->rowRd m' a' (List.append xs ys)->chk (ZbM ab) (∃(I:IT),inI I [slice a' ak c',int i64 0] [] [slice a' ak c'] m'/\∀(a:Option Addr)(n c:Nat)(al:Int) (cm
 : Option Addr) (cn co:Nat) (ae:Mem) (bs:Nat),lX (slice cm cn co) λyL=>lX (slice a n c) λav=>lE (n+1) λam=>lX (int i64 al) λa1=>lV [int i64 (-1:Int),ai,au,a1,int i64 (-1:Int)] λbt
 => m'.le ae->I [av,a1] [] [yL] ae bs->br (decide (al < (↑(slN ab):Int))) (chk (ZbM ab) (atA (slA ab) λb o=>Zad al (slN ab)/\∃v bu aw bv bw bx bz ca:Value,lV [v,bu,aw,bv,bw,bx,bz,ca] λcb=>ae.reads b (o+Int.toNat al*8) cb/\∀(b:Nat),chk (v.oneCell'&&(bu.oneCell'&&(aw.oneCell'&&(bv.oneCell'&&(bw.oneCell'&&(bx.oneCell'&&(bz.oneCell'&&(ca.oneCell'&&true)))))))) (∀(ax:Nat),lM (ae.add ax bt) λmL=>ae.free ax->(Tok.mk yL 5=Tok.mk av 5
 \/ av=slice none 0 0\/c < am)/\∃(xs:List Value),∃(ys:List Value),xs.length=n*5/\ys.length=1*5/\rowRd mL a xs/\rowRd mL (some (Addr.mk ax 0 none)) ys/\(∀(u:Value),u∈ys->
 u.oneCell'=true)/\am*40<=140737488355328/\am<=9223372036854775807/\∀(a':Option Addr)(c':Nat)(m':Mem),mL.le m'->rowRd m' a' (List.append xs ys)->chk (ZbM aw) (∃(a2:IT),inI a2 [slice a'
 am c',int i64 0] [] [slice a' am c'] m'/\∀(a:Option Addr)(n c:Nat)(ay:Int)(cp:Option Addr)(cq cr:Nat)(an:Mem)(cc:Nat),lX (slice cp cq cr) λyL=>lX (slice a n c) λaz=>lE (n+1) λao=>
 lV [int i64 (-1:Int),ai,au,a1,int i64 ay] λcs=>m'.le an->a2 [az,int i64 ay] [] [yL] an cc->br (decide (ay < (↑(slN aw):Int))) (∀(a3:Nat),lM (an.add a3 cs) λmL=>an.free a3->(Tok.mk
 yL 5=Tok.mk az 5\/az=slice none 0 0\/c < ao)/\∃(xs:List Value),∃(ys:List Value),xs.length=n*5/\ys.length=1*5/\rowRd mL a xs/\rowRd mL (some (Addr.mk a3 0 none)) ys/\(∀(u:Value),u
 ∈ ys->u.oneCell'=true)/\ao*40<=140737488355328/\ao<=9223372036854775807/\∀(a':Option Addr)(c':Nat)(m':Mem),mL.le m'->rowRd m' a' (List.append xs ys)->Zac (some (Box.mk ax bt 27 5 true
 true)::some (Box.mk b cb 54 8 false true)::xL)/\([none,none,none,none,none,none,none]:List (Option Tok))=[none,none,none,none,none,none,none]/\nxI cc a2 [slice a' ao c',int i64 (i64.wrap
 (ay+(1:Int)))] [] [slice a' ao c'] m') (Zac xL/\([none,none,none,none,none]:List (Option Tok))=[none,none,none,none,none]/\nxI bs I [az,int i64 (i64.wrap (al+(1:Int)))] [] [yL] an)))))
 (Zac ba/\([none,none,none]:List (Option Tok))=[none,none,none]/\nxI bb a0 [av,int i64 (i64.wrap (aj+(1:Int)))] [] [yL] ae))))) (Zac xL/\([none]:List (Option Tok))=[none]/\nxI a8 I [ar,
 int i64 (i64.wrap (ag+(1:Int)))] [] [yL] ad)))) (rtM m ac R yL)))):CX Tryz.prog 11 #[.agg #[.int .i64 aA,.slice aW aP aX,.slice aN aJ aV]] m [] R:=
 Zae (E:=ZlK) Zao mix Tryz.func11 (by kernel_rfl) (Eq.mp (by kernel_rfl) h)
def ZhX:Env:={ EB with
 loops:=(λi=>bif Nat.beq i 6 then⟨[(0,.slice),(23,.int .i64)],[],[(900,1)],false⟩ else⟨[],[],[],false⟩)
 tokOf:=(λi=>bif Nat.beq i 19 then 900 else 0)
 frzNew:=[3]
 thaw:=true
 lentC:=(λi=>bif Nat.beq i 29 then some [(900,1)]else none) }
theorem Zf3(bM:Int)(bV:Value)(bX:ByteArray)(cJ:Int)(dM:Option Addr)(dG dP:Nat)(t0a:Option Addr)(t0n t0c:Nat)(m:Mem)(Y:Nat->Prop)(R:RTY)(h:
 lV [string bX] λxL=>lE (t0n+1) λyL=>lV [int u8 bM,bV,string bX,int i64 cJ,slice dM dG dP] λxL_1=>lX (slice t0a t0n t0c) λyL_1=>fzM m xL_1 λb m'=>m.free b->(∀(b' o
 : Nat) (u:Value),m' b' o=some u->m b' o=some u\/b'=b)->br (bM == (9:Int)) (kB Tryz.prog 29 (yL_1::xL) m' λb m'=>br b (R yL_1 m' [] [yL_1]) (∀(b:Nat),lM (m'.add b xL) λmL=>m'.free  b->(Tok.mk yL_1 1=Tok.mk yL_1 1\/yL_1=slice none 0 0\/t0c < yL)/\∃(xs:List Value),∃(ys:List Value),xs.length=t0n*1/\ys.length=1*1/\rowRd mL t0a xs/\rowRd mL (some (Addr.mk b 0 none))
 ys/\(∀(u:Value),u∈ys->u.oneCell'=true)/\yL*16<=140737488355328/\yL<=9223372036854775807/\∀(a':Option Addr)(c':Nat)(m':Mem),mL.le m'->rowRd m' a' (List.append xs ys)->TokFact mL t0a
 a' yL c'->R (slice a' yL c') m' [] [slice a' yL c'])) (∃(I:IT),inI I [yL_1,int i64 0] [] [yL_1] m'/\∀(a:Option Addr)(n c:Nat)(n_1:Int)(a_1:Option Addr)(n_2 c_1:Nat)(m':Mem)(n_3:Nat),lX
 (slice a n c) λyL=>lX (slice a_1 n_2 c_1) λyL_2=>lE [Tok.mk yL_2 1] λxL=>True->I [yL,int i64 n_1] [] [yL_2] m' n_3->br (decide (n_1 < (↑dG:Int))) (atA dM λb_1 o=>Zad n_1 dG/\∃v v_1 v_2 v_3 v_4:Value,m'.reads b_1 (o+Int.toNat n_1*5) [v,v_1,v_2,v_3,v_4]/\∀(b_2:Nat),chk (v.oneCell'&&(v_1.oneCell' &&
 (v_2.oneCell'&&(v_3.oneCell'&&(v_4.oneCell'&&true))))) (∃(Y_1:Nat->Prop),∃(R:Value->Mem->List (List Value)->List Value->Prop),CXY Tryz.prog 142 (Array.mk [yL,agg (Array.mk [v,v_1,
 v_2,v_3,v_4])]) m' Y_1 [] xL R/\(∀(t:Tok),t∈xL->∀(b:Nat),Tok.blk t=some b->Y_1 b)/\(∀(b_3:Nat),Y_1 b_3->(∃(t:Tok),t∈xL/\Tok.blk t=some b_3)\/(Mem.free (Mem.off m Y) b_3/\Mem.k (Mem.off
 m Y) b_3=none)/\((∃(o:Nat),∃(v:Value),m' b_3 o=some v)\/∃(e:List (Value×Value)),Mem.k m' b_3=some e)/\b≠b_3/\True)/\(∀(v:Value)(m':Mem) (css:List (List Value)) (tvs:List Value),R v
 m' css tvs->Shape.fits Shape.slice v=true)/\∀(a:Option Addr)(n c:Nat)(m'_1:Mem),Mem.le (Mem.off m' Y_1) m'_1->(NewM m' m'_1 λb=>Y_1 b\/m'.free b)->∀(a_4:Option Addr)(c_2 d:Nat),R (slice
 a n c) m'_1 [] [slice a_4 c_2 d]->Zac [some (Box.mk b xL_1 52 5 true true)]/\([none]:List (Option Tok))=[none]/\nxI n_3 I [slice a n c,int i64 (i64.wrap (n_1+(1:Int)))] [] [slice a_4 c_2 d] m'_1))
 (R yL m' [] [yL_2]))):CXY Tryz.prog 142 #[.slice t0a t0n t0c,.agg #[.int .u8 bM,bV,.string bX,.int .i64 cJ,.slice dM dG dP]] m Y [] [⟨.slice t0a t0n t0c,1⟩] R:=
 Zkr (E:=ZhX) Zao mix Tryz.func142 [.v (.slice t0a t0n t0c),.v (.agg #[.int .u8 bM,bV,.string bX,.int .i64 cJ,.slice dM dG dP])] [] [900] [⟨.slice t0a t0n t0c,1⟩] (by decide) (by kernel_rfl) (Eq.mp (by kernel_rfl) h)
end Go.Proofs.YtpjepnkiiojgfaaGreat
namespace Go.Proofs.YtpjepnkiiojgfaaGreat
open Go Go.Eng Go.Rx Go.Proofs Go.RowKit
set_option maxRecDepth 100000
theorem ZcC{α:Type}{l:List α}{n:Nat}(h:n < l.length):∃c,l[n]?=some c:=⟨_,zA3 h⟩
theorem ZxK(k:Int)(m:Mem):CX Tryz.prog 104 #[.int .u8 k] m [] (Ret (.int .i64 (Znu k))):=by
 apply Zln
 refine Zab (λh=>Zaf (Mem.le_refl m) ?_) (λh=>⟨decide (k ≥ 2)&&decide (k<=7),Zab (λh2=>by rw[h2];rfl) (λh2=>by rw[h2];rfl),Zab (λh2=>Zaf (Mem.le_refl m) ?_) (λh2=>Zaf (Mem.le_refl m) ?_)⟩)
 all_goals
  show Value.int _ _=Value.int _ _
  congr 1
  unfold Znu
 ·have:k=1:=by simpa using h
  rw[if_pos this]
 ·have h1:¬k=1:=by simpa using h
  simp only[zA7,decide_eq_true_eq]at h2
  rw[if_neg h1,if_pos (by omega)]
 ·have h1:¬k=1:=by simpa using h
  simp only[Bool.and_eq_false_iff,decide_eq_false_iff_not]at h2
  rw[if_neg h1,if_neg (by omega)]
theorem ZjL(l l':List E)(a a':Option Addr)(c c':Nat)(m:Mem)(hl:l.length<=1000000000000000)(hr:l=[]\/∃b o,a=some ⟨b,o,none⟩/\RepEAt m b o l)(hr':l'=[]\/∃b o,a'=some ⟨b,o,none⟩/\RepEAt m b o l')
  (hp:∀x∈l,∀y∈l',∀m',m.le m'->RepE m' x->RepE m' y->CX Tryz.prog 160 #[x.v,y.v] m' [] (Ret (.bool (x.same y)))):
  CX Tryz.prog 162 #[.slice a l.length c,.slice a' l'.length c',.func (.func 160) #[] #[]] m [] (Ret (.bool (Zck l l'))):=by
 apply Zaz a l.length c a' l'.length c' _ [] []
 refine Zab (λh=>Zaf (Mem.le_refl _) ?_) (λh=>?_)
 ·have:¬l.length=l'.length:=by
   intro e;rw[e]at h;simp at h
  show Value.bool false=_
  rw[Zkw this]
 have gx:l.length=l'.length:=by
  have h2:((l.length:Int) == (l'.length:Int))=true:=by simpa using h
  have:=zA6 h2;omega
 refine⟨λxs _ _ m'' q=>∃i:Nat,i<=l.length/\xs=[.int .i64 i]/\Zck (l.take i) (l'.take i)=true/\m.le m''/\q=l.length - i,⟨l.length,0,by omega,rfl,by simp[Zck],Mem.le_refl _,by omega⟩,?_⟩
 rintro n m' q hm ⟨i,hi,hn,cY,bU,hq⟩
 obtain rfl:n=i:=by simpa using hn
 refine Zab (λaC=>?_) (λbL=>?_)
 ·have aI:i < l.length:=by simpa using aC
  obtain⟨x,hx⟩:∃x,l[i]?=some x:=⟨_,zA3 aI⟩
  obtain⟨y,hy⟩:∃y,l'[i]?=some y:=⟨_,zA3 (by omega)⟩
  have lG:x∈l:=zA2 hx
  have sS:y∈l':=zA2 hy
  rcases hr with h0|⟨b1,o1,ha,eT⟩
  ·rw[h0]at aI;simp at aI
  rcases hr' with h0|⟨b2,o2,ha',nF⟩
  ·rw[h0]at gx;simp at gx;rw[gx]at aI;simp at aI
  obtain⟨dJ,dW⟩:=(eT.mono' hm).get hx
  obtain⟨gq,jX⟩:=(nF.mono' hm).get hy
  refine⟨b1,o1,ha,⟨by omega,by omega⟩,_,_,_,_,_,dJ,λb3=>Zaa rfl ⟨b2,o2,ha',⟨by omega,by omega⟩,_,_,_,_,_,gq,λb4=>Zaa rfl ?_⟩⟩
  refine Zah (hp x lG y sS m' hm dW jX) λm1 aE=>Zab (λip=>?_) (λip=>?_)
  ·have hf:x.same y=false:=by simpa using ip
   refine Zaf (mLt hm aE) ?_
   show Value.bool false=_
   rw[Zns hx hy hf]
  ·have hf:x.same y=true:=by simpa using ip
   refine⟨l.length - (i+1),by omega,i+1,by omega,by rw[Zak (by omega) (by omega)];rfl,Zio hx hy cY hf,mLt hm aE,rfl⟩
 ·have hi':i=l.length:=by
   have:¬((i:Int) < (l.length:Int)):=by simpa using bL
   omega
  subst hi'
  refine Zaf hm ?_
  rw[List.take_length,gx,List.take_length]at cY
  show Value.bool true=_
  rw[cY]
theorem Zq9(t u:E)(m:Mem)(hr:RepE m t)(hu:RepE m u):CX Tryz.prog 160 #[t.v,u.v] m [] (Ret (.bool (t.same u))):=by
 apply Zlo
 intro b m1 aE _ b' m2 aK _
 have hm:=mLt aE aK
 refine⟨t.same u,?_,Zaf hm rfl⟩
 rw[Zqi]
 refine Zab (λh1=>?_) (λh1=>⟨by trivial,Zap (by rw[h1];rfl)⟩)
 refine Zah (Zq3 t.x u.x m2) λm3 aQ=>Zab (λh2=>Zab (λh3=>Zab (λh4=>?_) (λh4=>⟨by trivial,Zap (by rw[h1,h2,h3,h4];rfl)⟩)) (λh3=>⟨by trivial,Zap (by rw[h1,h2,h3];rfl)⟩)) (λh2=>⟨by trivial,Zap (by rw[h1,h2];rfl)⟩)
 have hM:=mLt hm aQ
 have hr':=Zeo (RepE.mono' hr hM)
 have hu':=Zeo (RepE.mono' hu hM)
 refine Zah (ZjL t.subs u.subs t.a u.a t.c u.c m3 hr'.1 hr'.2 hu'.2 λx hx y hy m' _ dJ gq=>?_) λm4 bZ=>⟨by trivial,Zap (by rw[h1,h2,h3,h4];rfl)⟩
 have bE:=ZgF hx
 exact Zq9 x y m' dJ gq
termination_by SizeOf.sizeOf t
decreasing_by exact bE
theorem Zra(t u:E)(m:Mem)(hr:RepE m t)(hu:RepE m u):CX Tryz.prog 140 #[t.v,u.v] m [] (Ret (.bool (t.light&&(u.light&&t.same u)))):=by
 apply Zlp
 intro b m1 aE _ b' m2 aK _
 have hm:=mLt aE aK
 refine⟨t.light&&(u.light&&t.same u),?_,Zaf hm rfl⟩
 refine Zah (ZcR t m2 (RepE.mono' hr hm)) λm3 aQ=>Zab (λh1=>?_) (λh1=>⟨by trivial,Zap (by rw[h1];rfl)⟩)
 refine Zah (ZcR u m3 (RepE.mono' hu (mLt hm aQ))) λm4 bZ=>Zab (λh2=>?_) (λh2=>⟨by trivial,Zap (by rw[h1,h2];rfl)⟩)
 have cO:=mLt (mLt hm aQ) bZ
 exact Zah (Zq9 t u m4 (RepE.mono' hr cO) (RepE.mono' hu cO)) λm6 eY=>⟨by trivial,Zap (by rw[h1,h2];rfl)⟩
def Zon(l:List E):Int:=l.foldl (λn x=>if x.k=10 then(if x.g > n then x.g else n)else n) (-1)
theorem Zrb(t:E)(m:Mem)(hr:RepE m t):CX Tryz.prog 76 #[t.v] m [] (Ret (.int .i64 t.most)):=by
 apply Zlr
 intro b m1 aE _ b2
 refine Zah (ZcR t m1 (RepE.mono' hr aE)) λm2 aK=>Zab (λhl=>?_) (λh=>Zaf (mLt aE aK) (by simp[Ret,E.most,h]))
 refine Zan (Zfb t m2) (λv m' css h=>by obtain⟨_,rfl,_⟩:=h;rfl) ?_
 rintro g fi ca m3 aQ ⟨b3,hv,gl⟩
 obtain⟨rfl,rfl,rfl⟩:=Zcp hv
 have bU:=mLt aE (mLt aK aQ)
 refine⟨_,ZdK t m3 b3 gl (RepE.mono' hr bU),λy hy=>?_,λ_ css _ m' q=>css=[[.int .i64 (Zon (t.nodes.take q))]],rfl,?_,?_⟩
 ·obtain⟨z,_,rfl⟩:=List.mem_map.1 hy;exact Zku z
 ·rintro n0 v0 s0 n3 a n7 c cs m4 q bZ hq bN b4
  obtain rfl:cs=[.int .i64 (Zon (t.nodes.take q))]:=by simpa using bN
  have hq':(List.map (λz:E=>[z.v]) t.nodes)[(q:Nat)]?=some [Value.agg #[.int .u8 n0,v0,.string s0,.int .i64 n3,.slice a n7 c]]:=hq
  rw[List.getElem?_map]at hq'
  obtain⟨z,hz,ic⟩:=Option.map_eq_some_iff.1 hq'
  simp only[E.v,List.cons.injEq,Value.agg.injEq,Array.mk.injEq,Value.int.injEq,Value.string.injEq,Value.slice.injEq,true_and,and_true]at ic
  obtain⟨rfl,rfl,rfl,rfl,rfl,rfl,rfl⟩:=ic
  have hs:Zon (t.nodes.take (q+1))=if z.k=10 then(if z.g > Zon (t.nodes.take q)then z.g else Zon (t.nodes.take q))else Zon (t.nodes.take q):=by
   rw[List.take_add_one,hz]
   unfold Zon
   rw[List.foldl_append];rfl
  refine Zaa rfl (Zab (λh=>Zal rfl (Zaa rfl ⟨by trivial,?_⟩)) (λh=>⟨by trivial,?_⟩))
  ·have hk:z.k=10:=by simpa using h
   show[[_]]=[[Value.int .i64 (Zon (t.nodes.take (q+1)))]]
   rw[hs,if_pos hk];rfl
  ·have hk:¬z.k=10:=by simpa using h
   show[[_]]=[[Value.int .i64 (Zon (t.nodes.take (q+1)))]]
   rw[hs,if_neg hk]
 ·rintro cs m4 bZ bN
  obtain rfl:cs=[.int .i64 (Zon (t.nodes.take t.nodes.length))]:=by simpa using bN
  refine Zal rfl (Zaf (mLt bU bZ) ?_)
  rw[List.take_length]
  show Value.int _ _=Value.int _ t.most
  unfold E.most;rw[hl];rfl
theorem Zd9(m:Mem)(b:Nat)(cs:List Value):(m.add b cs).reads b 0 cs:=λj u hu=>by rw[Mem.add_same,Nat.zero_add];exact hu
abbrev Yn(v:Value):Nat->Prop:=λb=>(Tok.mk v 1).blk=some b
theorem ZxL{m m':Mem}{Y Y1:Nat->Prop}(h:(m.off Y).le m')(hn:∀b,Y1 b->Y b\/(m.free b/\m.k b=none)):(m.off Y).le (m'.off Y1):=by
 have no:∀b,Y1 b->(∀o,m.off Y b o=none)/\(m.off Y).k b=none:=λb hb=>by
  by_cases hY:Y b
  ·exact⟨Mem.off_free hY,Mem.off_kn hY⟩
  ·rcases hn b hb with h1|⟨h1,h2⟩
   ·exact absurd h1 hY
   ·exact⟨λo=>by rw[Mem.off_at hY];exact h1 o,by rw[Mem.off_k hY];exact h2⟩
 refine⟨λb o v hv=>?_,λb e he=>?_⟩
 ·by_cases hb:Y1 b
  ·rw[(no b hb).1 o]at hv;cases hv
  ·rw[Mem.off_at hb];exact h.c b o v hv
 ·by_cases hb:Y1 b
  ·rw[(no b hb).2]at he;cases he
  ·rw[Mem.off_k hb];exact h.k b e he
theorem Zub{m m':Mem}(h:m.le m'){b:Nat}(hf:m'.free b/\m'.k b=none):m.free b/\m.k b=none:=by
 refine⟨λo=>?_,?_⟩
 ·cases e:m b o with
  | none=>rfl
  | some v=>have:=h.c b o v e;rw[hf.1 o]at this;cases this
 ·cases e:m.k b with
  | none=>rfl
  | some v=>have:=h.k b v e;rw[hf.2]at this;cases this
structure NmSt (m:Mem)(v0:Value)(m':Mem)(a:Option Addr)(c:Nat)(l:List ByteArray):Prop where
 row:rowRd m' a (Zb8 l)
 base:(m.off (Yn v0)).le (m'.off (Yn (.slice a l.length c)))
 new:∀b,Yn (.slice a l.length c) b->Yn v0 b\/(m.free b/\m.k b=none)
def NmR(v0:Value)(m:Mem)(l:List ByteArray):RTY:=λv m' css tvs=>∃a c,v=.slice a l.length c/\tvs=[.slice a l.length c]/\rowRd m' a (Zb8 l)/\∀b,Yn (.slice a l.length c) b->Yn v0 b\/(m.free b/\m.k b=none)
theorem Zvu{v0 m l}:∀(v:Value)(m':Mem) (css:List (List Value)) (tvs:List Value),NmR v0 m l v m' css tvs->Shape.fits .slice v=true:=λv _ _ _ ⟨_,_,e,_⟩=>by rw[e];rfl
theorem NmSt.step{m m' m'':Mem}{v0:Value}{a a':Option Addr}{c c':Nat}{l l':List ByteArray}(h:NmSt m v0 m' a c l)(bU:(m'.off (Yn (.slice a l.length c))).le m'')(hr:rowRd m'' a' (Zb8 l'))(hn:∀b,Yn (.slice a' l'.length c') b->Yn (.slice a l.length c) b\/(m'.free b/\m'.k b=none)):NmSt m v0 m'' a' c' l':=by
 refine⟨hr,mLt h.base (ZxL bU hn),λb hb=>?_⟩
 rcases hn b hb with h1|h1
 ·exact h.new b h1
 ·by_cases hY:Yn v0 b
  ·exact .inl hY
  ·have h2:=Zub h.base (b:=b) ⟨λo=>by
    by_cases eD:Yn (.slice a l.length c) b
    ·exact Mem.off_free eD o
    ·rw[Mem.off_at eD];exact h1.1 o,by
    by_cases eD:Yn (.slice a l.length c) b
    ·exact Mem.off_kn eD
    ·rw[Mem.off_k eD];exact h1.2⟩
   refine .inr ⟨λo=>?_,?_⟩
   ·have:=h2.1 o;rwa [Mem.off_at hY]at this
   ·have:=h2.2;rwa [Mem.off_k hY]at this
theorem Zea(l:List ByteArray):(Zb8 l).length=l.length:=by unfold Zb8;exact List.length_map _
theorem Zoo(t:E):∀(out:List ByteArray)(a:Option Addr)(c:Nat)(m:Mem),rowRd m a (Zb8 out)->RepE (m.off (Yn (.slice a out.length c))) t->(t.names out).length<=1000000->
  CXY Tryz.prog 142 #[.slice a out.length c,t.v] m (Yn (.slice a out.length c)) [] [⟨.slice a out.length c,1⟩] (NmR (.slice a out.length c) m (t.names out)):=by
 intro out a c m ho hr h1
 have fa:=Zqj t out
 have ve:RepE m t:=RepE.mono (Mem.off_le m _) t hr
 apply Zf3
 intro b m1 aE _ fW _
 refine Zab (λhk=>?_) (λhk=>?_)
 ·have tj:t.k=9:=by simpa using hk
  have hN:=Znt t out
  rw[if_pos tj]at hN
  have hE:(out.any λy=>eqS t.s y)=out.any λy=>y.toList == t.s.toList:=by
   congr 1;funext w;unfold eqS;exact Bool.beq_comm
  refine Zah (ZgN out a c t.s m1 (by omega) (ho.mono aE)) λm2 aK=>Zab (λh=>?_) (λh b2 hf=>?_)
  ·rw[hE]at h
   rw[hN,h,if_pos rfl]
   exact⟨a,c,rfl,rfl,ho.mono (mLt aE aK),λb hb=>.inl hb⟩
  ·rw[hE]at h
   rw[h,if_neg (by decide)]at hN
   have bU:m2.le (m2.add b2 [.string t.s]):=Mem.le_add hf _
   have cR:=mLt aE (mLt aK bU)
   rw[hN,zA1,List.length_singleton]at h1
   refine⟨.inl rfl,Zb8 out,[.string t.s],by rw[Zea];omega,rfl,ho.mono cR,.inr ⟨b2,0,rfl,Zd9 m2 b2 _⟩,λu hu=>?_,by omega,by omega,λa' c' m3 aQ aB hT=>?_⟩
   ·obtain rfl:u=.string t.s:=by simpa using hu
    rfl
   ·rw[hN]
    have e:(out++[t.s]).length=out.length+1:=by rw[zA1];rfl
    refine⟨a',c',by rw[e],by rw[e],by unfold Zb8 at aB ⊢;rw[List.map_append];exact aB,λb' hb'=>?_⟩
    rcases hT.2 with h|⟨bb,oo,ha',h⟩
    ·rw[h]at hb';simp[Yn,Tok.blk]at hb'
    ·subst ha'
     obtain rfl:bb=b':=by simpa[Yn,Tok.blk]using hb'
     rcases h with h|⟨_,h2,h3⟩
     ·left;rw[h];simp[Yn,Tok.blk]
     ·exact .inr (Zub cR ⟨h2,h3⟩)
 ·have tj:¬t.k=9:=by simpa using hk
  have hN:=Znt t out
  rw[if_neg tj]at hN
  rw[hN]at h1 ⊢
  have tq:=Zeo hr
  refine⟨λxs _ tks m' q=>∃(i:Nat)(a':Option Addr)(c':Nat),i<=t.subs.length/\xs=[.slice a' (ZbD (t.subs.take i) out).length c',.int .i64 i]/\tks=[.slice a' (ZbD (t.subs.take i) out).length c']/\NmSt m (.slice a out.length c) m' a' c' (ZbD (t.subs.take i) out)/\q=t.subs.length - i,
   ⟨_,0,a,c,by omega,by rw[List.take_zero];rfl,by rw[List.take_zero];rfl,by
    rw[List.take_zero]
    exact⟨ho.mono aE,ZxL (mLt (Mem.off_le m _) aE) λb hb=>.inl hb,λb hb=>.inl hb⟩,rfl⟩,?_⟩
  rintro a1 n1 c1 n a2 n2 c2 m2 q aK ⟨i,a',c',hi,hx,ht,hS,hq⟩
  simp only[List.cons.injEq,Value.slice.injEq,Value.int.injEq,and_true,true_and]at hx ht
  obtain⟨⟨ea,en,ec⟩,rfl⟩:=hx
  obtain⟨ea',en',ec'⟩:=ht
  subst a1 n1 c1 a2 n2 c2 q
  refine Zab (λaC=>?_) (λbL=>?_)
  ·have aI:i < t.subs.length:=by have:=zA6 aC;omega
   obtain⟨x,hx⟩:=ZcC aI
   have cI:=zA2 hx
   have bE:=ZgF cI
   rcases tq.2 with h|⟨b1,o1,ha,eT⟩
   ·rw[h]at aI;simp at aI
   obtain⟨dJ,dW⟩:=(eT.mono' hS.base).get hx
   have dJ:=dJ.mono (Mem.off_le m2 _)
   have hw:IntKind.i64.wrap ((i:Int)+1)=((i+1:Nat):Int):=by rw[Zak (by omega) (by omega)];rfl
   have mC:=Zpl hx out
   have px:=Zr6 (l:=t.subs) (i:=i+1) out
   refine⟨b1,o1,ha,⟨by omega,by omega⟩,_,_,_,_,_,dJ,λb2=>Zaa rfl ?_⟩
   refine⟨_,_,Zoo x (ZbD (t.subs.take i) out) a' c' m2 hS.row dW (by rw[<-mC];omega),λt' ht' bb dN=>?_,λbb dN=>.inl ⟨_,by simp,dN⟩,Zvu,?_⟩
   ·obtain rfl:t'=_:=by simpa using ht'
    exact dN
   ·rintro a3 n3 c3 m3 aQ _ a4 c4 d4 ⟨a5,c5,hv,cH,bP,mD⟩
    simp only[Value.slice.injEq]at hv
    obtain⟨e1,e2,e3⟩:=hv
    subst a3 n3 c3
    simp only[List.cons.injEq,Value.slice.injEq,and_true]at cH
    obtain⟨e1,e2,e3⟩:=cH
    subst a4 c4 d4
    rw[<-mC]at bP mD ⊢
    refine⟨rfl,rfl,t.subs.length - (i+1),by omega,i+1,a5,c5,by omega,by rw[hw],rfl,hS.step aQ bP mD,rfl⟩
  ·have hi':i=t.subs.length:=by have:=of_decide_eq_false bL;omega
   subst hi'
   rw[List.take_length]at hS ⊢
   exact⟨a',c',rfl,rfl,hS.row,hS.new⟩
termination_by SizeOf.sizeOf t
decreasing_by exact bE
theorem ZxM{P:Program}{g:FuncId}{args:Array Value}{m:Mem}{esz:Nat}{R:RTY}(h:CXY P g args m (Yn (.slice none 0 0)) [] [⟨.slice none 0 0,esz⟩] R):CX P g args m [] (λv m' css=>∃tvs,R v m' css tvs):=by
 have hY:∀b,¬Yn (.slice none 0 0) b:=λb hb=>by simp[Yn,Tok.blk]at hb
 have fI:m.le (m.off (Yn (.slice none 0 0))):=⟨λb o v hv=>by rw[Mem.off_at (hY b)];exact hv,λb e he=>by rw[Mem.off_k (hY b)];exact he⟩
 refine⟨h.1,λw h1 h2 h3=>(h.2 w h1 (by simp) (by simp) (λt ht=>?_) (λi j t t' b hi hj hb=>?_) (λb hb=>absurd hb (hY b))).mono ?_⟩
 ·obtain rfl:t=_:=by simpa using ht
  exact⟨.inl rfl,λb hb=>by simp[Tok.blk]at hb⟩
 ·intro _
  have hi:=zA2 hi
  obtain rfl:t=_:=by simpa using hi
  simp[Tok.blk]at hb
 ·rintro e w' ⟨v,m',css,tvs,a1,a2,a3,a4,a5,a6,a7,a8,a9,a10,a11⟩
  exact⟨v,m',css,a1,mLt fI a2,a3,a4.mono λb hb=>hb.resolve_left (hY b),⟨a5.os,a5.tape,a5.output,a5.size,λk hk _=>a5.block k hk (λhm=>hm.elim (by simp) (hY k)),a5.wr⟩,a6,a7,tvs,a11⟩
def ZxN(l:List ByteArray):Value->Mem->List (List Value)->Prop:=λv m' _=>∃a c,v=.slice a l.length c/\rowRd m' a (Zb8 l)
theorem Zop{l}:∀(v:Value)(m':Mem) (css:List (List Value)),ZxN l v m' css->Shape.fits .slice v=true:=λv _ _ ⟨_,_,e,_⟩=>by rw[e];rfl
theorem Zvv(t:E)(m:Mem)(hr:RepE m t):CX Tryz.prog 109 #[t.v] m [] (ZxN t.vars):=by
 apply Zlq
 intro b m1 aE _
 refine Zah (ZcR t m1 (RepE.mono' hr aE)) λm2 aK=>Zab (λh=>Zaf (mLt aE aK) ?_) (λh=>?_)
 ·have hl:t.light=false:=by simpa using h
  have:t.vars=[]:=by unfold E.vars;rw[hl];rfl
  rw[this]
  exact⟨none,0,rfl,.inl rfl⟩
 ·have hl:t.light=true:=by simpa using h
  have hv:t.vars=t.names []:=by unfold E.vars;rw[hl];rfl
  have h1:(t.names []).length<=1000000:=by
   have h2:=ZdZ t []
   have h3:=zA6 (show decide (t.nodes.length<=10000)=true from hl)
   simp only[List.length_nil]at h2
   omega
  rw[hv]
  have fI:m2.le (m2.off (Yn (.slice none 0 0))):=⟨λb o v hv=>by rw[Mem.off_at (λhb=>by simp[Yn,Tok.blk]at hb)];exact hv,λb e he=>by rw[Mem.off_k (λhb=>by simp[Yn,Tok.blk]at hb)];exact he⟩
  have key:=ZxM (Zoo t [] none 0 m2 (.inl rfl) (RepE.mono' hr (mLt aE (mLt aK fI))) h1)
  refine Zan key (λv m' css ⟨_,_,_,e,_⟩=>by rw[e];rfl) ?_
  rintro a n c m3 aQ ⟨tvs,a',c',hv',_,aB,_⟩
  simp only[Value.slice.injEq]at hv'
  obtain⟨rfl,rfl,rfl⟩:=hv'
  exact ZaH (mLt aE (mLt aK aQ)) ⟨_,_,rfl,aB⟩
theorem ZpG(l:List Sta)(a:Option Addr)(c:Nat)(g:Nat)(ca:List Value)(p:Sta->Bool)(m:Mem)(hl:l.length<=1000000000000000)(hr:rowRd m a (l.map Sta.cs).flatten)
  (hp:∀x∈l,∀m',m.le m'->CX Tryz.prog g (.agg x.cs.toArray::ca).toArray m' [] (Ret (.bool (p x)))):
  CX Tryz.prog 50 #[.slice a l.length c,.func (.func g) #[] ca.toArray] m [] (Ret (.int .i64 (if l.any p then(l.findIdx p:Nat)else(-1:Int)))):=by
 apply Za2 a l.length c g [] ca
 refine⟨λxs _ _ m'' q=>∃i:Nat,i<=l.length/\xs=[.int .i64 i]/\(∀x∈l.take i,p x=false)/\q=l.length - i,⟨l.length,0,by omega,rfl,by simp,by omega⟩,?_⟩
 rintro n m' q hm ⟨i,hi,hn,jC,hq⟩
 obtain rfl:n=i:=by simpa using hn
 refine Zab (λaC=>?_) (λbL=>?_)
 ·have aI:i < l.length:=by simpa using aC
  obtain⟨x,hx⟩:=ZcC aI
  have cI:x∈l:=zA2 hx
  obtain⟨b1,o1,ha,eL⟩:=Zai Sta.len (hr.mono hm) hx (by omega)
  refine⟨b1,o1,ha,⟨by omega,by omega⟩,_,_,eL,Zah (hp x cI m' hm) λm1 aE=>Zab (λip=>?_) (λip=>?_)⟩
  ·refine Zaf (mLt hm aE) ?_
   have fV:l.any p=true:=List.any_eq_true.2 ⟨x,cI,ip⟩
   have jY:l.findIdx p=i:=by
    rw[List.findIdx_eq aI]
    refine⟨by rw[(zA0 hx).2];exact ip,λj hj=>?_⟩
    exact jC _ (List.mem_of_getElem? (i:=j) (by rw[List.getElem?_take_of_lt hj];exact zA3 (by omega)))
   simp[Ret,fV,jY]
  ·refine⟨l.length - (i+1),by omega,i+1,by omega,by rw[Zak (by omega) (by omega)];rfl,?_,rfl⟩
   intro y hy
   rw[List.take_add_one,hx]at hy
   rcases List.mem_append.1 hy with hy|hy
   ·exact jC y hy
   ·simp at hy;rw[hy];exact ip
 ·have hi':i=l.length:=by
   have:¬((i:Int) < (l.length:Int)):=by simpa using bL
   omega
  subst hi'
  refine Zaf hm ?_
  have fV:l.any p=false:=by
   rw[List.any_eq_false]
   rw[List.take_length]at jC
   exact λx hx=>by simp[jC x hx]
  simp[Ret,fV]
theorem Zoq(e:E)(m:Mem)(he:RepE m e):CX Tryz.prog 60 #[e.v] m [] (Ret (.int .i64 (nE e))):=by
 apply ZlH
 intro b m1 aE _
 refine Zah (ZcR e m1 (RepE.mono' he aE)) λm2 aK=>Zab (λh=>Zaf (mLt aE aK) ?_) (λh=>?_)
 ·have hl:e.light=false:=by simpa using h
  unfold nE;rw[hl];rfl
 ·have hl:e.light=true:=by simpa using h
  exact Zco (Zvh e m2 (RepE.mono' he (mLt aE aK))) λm3 aQ=>Zaf (mLt aE (mLt aK aQ)) (by unfold nE;rw[hl];rfl)
end Go.Proofs.YtpjepnkiiojgfaaGreat
end
