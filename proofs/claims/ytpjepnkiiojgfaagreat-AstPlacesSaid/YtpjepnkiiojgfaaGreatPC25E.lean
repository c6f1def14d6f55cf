/- Part of the proof: functions of the program. No condition. -/
import Derived.Test.YtpjepnkiiojgfaaGreatPC25MJ
import Derived.Test.YtpjepnkiiojgfaaGreatPEnv
import Derived.Test.YtpjepnkiiojgfaaGreatMc
import Derived.Test.YtpjepnkiiojgfaaGreatPVM
set_option linter.unusedVariables false
set_option linter.unusedSimpArgs false
set_option linter.unusedSectionVars false
noncomputable section
namespace Go.Proofs.YtpjepnkiiojgfaaGreat
open Go Go.Eng Go.Rx Go.Proofs Go.RowKit
set_option maxRecDepth 100000
structure SAct where
 k:Nat
 n:Nat
 pa:Option Addr
 pl:List Nat
 pd:Nat
 ea:Option Addr
 el:List (Nat×Nat×Nat)
 ed:Nat
def SAct.cs(x:SAct):List Value:=[.int .u8 x.k,.int .u8 x.n,.slice x.pa x.pl.length x.pd,.slice x.ea x.el.length x.ed]
theorem SAct.len(x:SAct):x.cs.length=4:=rfl
structure RepSA (m:Mem)(x:SAct):Prop where
 k:x.k < 256
 n:x.n < 256
 p:BytU m x.pa x.pl
 pl:x.pl.length<=1000000000000000
 pd:x.pl.length<=x.pd
 e:SmE m x.ea x.el
 ed:x.el.length<=x.ed
theorem RepSA.mono{m m':Mem}{x:SAct}(h:RepSA m x)(hm:m.le m'):RepSA m' x:=⟨h.k,h.n,h.p.mono hm,h.pl,h.pd,h.e.mono hm,h.ed⟩
theorem SmE.take{m:Mem}{a:Option Addr}{l:List (Nat×Nat×Nat)}(h:SmE m a l)(n:Nat):SmE m a (l.take n):=
 ⟨by rw[List.length_take];have:=h.len;omega,λs hs=>h.byte s (List.mem_of_mem_take hs),λi s hi=>h.at' i s (by
  have aC:=(zA0 hi).1
  rw[List.length_take]at aC
  rw[List.getElem?_take_of_lt (by omega)]at hi;exact hi)⟩
def AcR(c:Int):Value->Mem->List (List Value)->Prop:=λv m' _=>∃a:Ac,v=.agg a.cs.toArray/\RepA m' a/\MkA c a
theorem Zup{c:Int}:∀(v:Value)(m':Mem) (css:List (List Value)),AcR c v m' css->Shape.fits (.agg [.int .u8,.str,.slice,.int .u8,.any,.str,.int .i64,.slice]) v=true:=λv _ _ ⟨_,h,_⟩=>by rw[h];rfl
theorem Zrs{c:Int}{l:List Pt}(h:MkT c l):l.length<=few:=by have:=h.len;unfold few;omega
theorem Zuq(x:SAct)(c:Int)(m:Mem)(hx:RepSA m x)(hc : -1<=c/\c<=10000):CX Tryz.prog 86 #[.agg x.cs.toArray,.int .i64 c] m [] (AcR c):=by
 apply Zf7
 intro b m1 aH _ b1
 have qX:=hx.e.len
 have hN:(if(8:Int) < (x.el.length:Int)then(8:Int)else(x.el.length:Int))=((min 8 x.el.length:Nat):Int):=by split <;> omega
 simp only[hN,zA8,Nat.sub_zero]
 have hd:=hx.ed
 have eE:(x.el.take 8).length=min 8 x.el.length:=List.length_take ..
 have hM:=Zsr (x.el.take 8) x.ea x.ed m1 ((hx.e.mono aH).take 8) (by omega)
 rw[eE]at hM
 refine⟨⟨by omega,by omega⟩,Zam hM Ze9 (Zvp λe1 m2 aK ep sN=>?_)⟩
 have ia:=sN.len
 refine Zam (Zjr e1 c m2 ep sN.all (by omega)) Ze9 (Zvp λe m3 aR hr he b2=>Zaa rfl ⟨by omega,?_⟩)
 have hE:MkE c 20 e:=he.toMk (by omega)
 have dh:=mLt aH (mLt aK aR)
 have jB:=hx.mono dh
 refine Zab (λh2=>?_) (λh2=>Zab (λh3=>?_) (λh3=>?_))
 ·refine⟨λk _ _=>if k=0 then Zu0 Zec else TmR c,_,rfl,Zk1 m3,ZcM,?_⟩
  rintro a5 n5 c5 m5 cE ⟨a',c',eO,dP⟩
  simp only[Value.slice.injEq]at eO
  obtain⟨rfl,rfl,rfl⟩:=eO
  have aC:x.n % 2 < 2:=Nat.mod_lt _ (by omega)
  obtain⟨s,hs⟩:=Zaw (l:=Zec) (k:=x.n % 2) aC
  have ic:=zA2 hs
  obtain⟨b6,o6,gB,bT⟩:=Zcx dP hs
  have aZ:s.size<=1000000000000000:=by have:=Zix s ic;omega
  have hu:Int.tmod (x.n:Int) 2=((x.n % 2:Nat):Int):=rfl
  refine⟨by omega,b6,o6,gB,by rw[hu];exact⟨by omega,by show((x.n % 2:Nat):Int) < (2:Nat);omega⟩,_,by rw[hu,zA8];exact bT,s,rfl,_,rfl,Zht x.pl x.pa x.pd e c m5 (jB.p.mono cE) hx.pd hx.pl (hr.mono' cE) hE hc,Zrq,?_⟩
  rintro a7 n7 c7 m7 ew ⟨L,aL,dL,nI,aA,aI,hT⟩ M gS _ fw
  simp only[Value.slice.injEq]at nI
  obtain⟨rfl,rfl,rfl⟩:=nI
  exact ZaA (mLt dh gS) ⟨⟨2,s,a7,c7,L,E0⟩,rfl,⟨by show(0:Int)<=2/\(2:Int) < 256;omega,aZ,Zrs hT,aA.mono fw,λp hp=>(aI p hp).mono fw,Zvj M⟩,.set s ic _ _ L hT⟩
 ·refine⟨λ_ _ _=>Zu0 Zhw,_,rfl,Zgz m3,ZcM,?_⟩
  rintro a5 n5 c5 m5 cE ⟨a',c',eO,dP⟩
  simp only[Value.slice.injEq]at eO
  obtain⟨rfl,rfl,rfl⟩:=eO
  have aC:x.n % 4 < 4:=Nat.mod_lt _ (by omega)
  obtain⟨s,hs⟩:=Zaw (l:=Zhw) (k:=x.n % 4) aC
  have ic:=zA2 hs
  obtain⟨b6,o6,gB,bT⟩:=Zcx dP hs
  have aZ:s.size<=1000000000000000:=by have:=Ziw s ic;omega
  have hu:Int.tmod (x.n:Int) 4=((x.n % 4:Nat):Int):=rfl
  refine⟨by omega,b6,o6,gB,by rw[hu];exact⟨by omega,by show((x.n % 4:Nat):Int) < (4:Nat);omega⟩,_,by rw[hu,zA8];exact bT,s,rfl,Zaa rfl λM gS eD=>?_⟩
  exact ZaA (mLt dh gS) ⟨⟨3,s,none,0,[],e⟩,rfl,⟨by show(0:Int)<=3/\(3:Int) < 256;omega,aZ,by simp,.inl rfl,by simp,hr.mono' gS⟩,.let_ s ic e hE⟩
 ·refine Zam (Zht x.pl x.pa x.pd e c m3 jB.p hx.pd hx.pl hr hE hc) Zrq ?_
  rintro a7 n7 c7 m7 ew ⟨L,aL,dL,nI,aA,aI,hT⟩
  simp only[Value.slice.injEq]at nI
  obtain⟨rfl,rfl,rfl⟩:=nI
  exact ZaA (mLt dh ew) ⟨⟨1,.empty,a7,c7,L,E0⟩,rfl,⟨by show(0:Int)<=1/\(1:Int) < 256;omega,by show ByteArray.empty.size<=_;rw[ZaD];omega,Zrs hT,aA,aI,Zvj m7⟩,.send _ _ L hT⟩
structure SRul where
 k:Nat
 n:Nat
 t:Nat
 g:Nat
 ra:Option Addr
 rl:List (Nat×Nat×Nat)
 rd:Nat
 aa:Option Addr
 al:List SAct
 ad:Nat
def SRul.cs(x:SRul):List Value:=[.int .u8 x.k,.int .u8 x.n,.int .u8 x.t,.int .u8 x.g,.slice x.ra x.rl.length x.rd,.slice x.aa x.al.length x.ad]
theorem SRul.len(x:SRul):x.cs.length=6:=rfl
structure RepSR (m:Mem)(x:SRul):Prop where
 k:x.k < 256
 n:x.n < 256
 t:x.t < 256
 g:x.g < 256
 r:Sm m x.ra x.rl
 rd:x.rl.length<=x.rd
 al:x.al.length<=1000000000000000
 ad:x.al.length<=x.ad
 row:rowRd m x.aa (x.al.map SAct.cs).flatten
 all:∀a∈x.al,RepSA m a
theorem RepSR.mono{m m':Mem}{x:SRul}(h:RepSR m x)(hm:m.le m'):RepSR m' x:=⟨h.k,h.n,h.t,h.g,h.r.mono hm,h.rd,h.al,h.ad,h.row.mono hm,λa ha=>(h.all a ha).mono hm⟩
def RuR(n:Nat):Value->Mem->List (List Value)->Prop:=λv m' _=>∃r:Ru,v=.agg r.cs.toArray/\RepR m' r/\MkR n r
theorem Zur{n:Nat}:∀(v:Value)(m':Mem) (css:List (List Value)),RuR n v m' css->Shape.fits (.agg [.int .u8,.bool,.bool,.int .u8,.int .u64,.int .u64,.int .u64,.int .u64,.int .i64,.int .i64,.slice,.str,.int .i64,.slice,.str,.int .i64]) v=true:=λv _ _ ⟨_,h,_⟩=>by rw[h];rfl
theorem Ac.one(a:Ac):∀u∈a.cs,u.oneCell'=true:=by
 intro u hu
 simp only[Ac.cs,List.mem_cons,List.not_mem_nil,or_false]at hu
 rcases hu with rfl|rfl|rfl|rfl|rfl|rfl|rfl|rfl <;> rfl
structure Ru0 (m:Mem)(r:Ru):Prop where
 kind:Zvm r
 t:Rep m r.t
 acts:r.acts=[]/\r.aa=none/\r.ac=0
 go:r.go=.empty/\r.code=0
theorem Zvr(m:Mem):Rep m T0:=by
 simp only[T0,Rep]
 exact⟨by simp,.inl trivial,⟨by omega,by omega,by omega,by omega,by omega,by omega,by omega⟩⟩
theorem Zus{r:Ru}(h:Zvm r):(0<=r.k/\r.k < 256)/\r.s.size<=1000000000000000/\I64 r.n:=by
 unfold I64
 rcases h with⟨h1,_,_,h2,h3⟩|⟨_,⟨h1,h2,h3,h4⟩|⟨h1,h2,h3⟩|⟨h1,h2,h3,h4⟩⟩
 ·rw[h2,ZaD];omega
 ·omega
 ·rw[h2,ZaD];omega
 ·rw[h2,ZaD];omega
theorem ZmB{t:T}(h:t.light=true):t.groups=(t.gr:Nat):=by unfold T.groups;rw[h];rfl
theorem Zyc:∀j < 6,∃s:ByteArray,[Value.string ⟨#[97]⟩,.string ⟨#[98]⟩,.string ⟨#[97,98]⟩,.string ⟨#[98,97]⟩,.string ⟨#[97,97,98]⟩,.string ⟨#[99]⟩][j*1]?=some (.string s)/\1<=s.size/\s.size<=3:=by
 intro j hj
 have:j=0\/j=1\/j=2\/j=3\/j=4\/j=5:=by omega
 rcases this with rfl|rfl|rfl|rfl|rfl|rfl <;> exact⟨_,rfl,by decide,by decide⟩
set_option maxHeartbeats 2000000 in
theorem Zsz(x:SRul)(p:Nat)(m:Mem)(hx:RepSR m x)(hp:1<=p/\p<=4):CX Tryz.prog 44 #[.agg x.cs.toArray,.int .i64 p] m [] (RuR p):=by
 apply Zim
 intro b m1 aH _ b1 b2
 have dx:=hx.mono aH
 have qO:Int.tmod (x.k:Int) 8=((x.k % 8:Nat):Int):=rfl
 have qN:x.k % 8 < 8:=Nat.mod_lt _ (by omega)
 refine⟨λxs css _ M=>∃r:Ru,xs=[.int .i64 (ZcZ r)]/\css=[r.cs]/\Ru0 M r,⟨_,rfl,by omega,?_⟩,?_⟩
 ·simp only[qO]
  generalize x.k % 8=k at qN
  refine⟨λxs _ _ m'=>xs=[.bool (decide (k<=2))]/\m1.le m',Zab (λh=>⟨trivial,?_,Mem.le_refl _⟩) (λh=>Zab (λh2=>⟨trivial,?_,Mem.le_refl _⟩) (λh2=>⟨trivial,?_,Mem.le_refl _⟩)),?_⟩
  ·have:k=0:=by simp at h;omega
   rw[h,this];rfl
  ·have:k=1:=by simp at h2;omega
   rw[h2,this];rfl
  ·have h0:¬k=0:=by simp at h;omega
   have h1:¬k=1:=by simp at h2;omega
   refine ZaB ?_
   rw[Bool.eq_iff_iff];simp;omega
  rintro c2 m2 aK ⟨np,_⟩
  obtain rfl:c2=decide (k<=2):=by simpa using np
  refine Zat (λhk=>?_) (λhk=>?_)
  ·have hM:=Zqn x.rl x.ra x.rd m2 (dx.r.mono aK) hx.rd
   refine⟨λ_ _ _=>ZlS (λt=>t.check=0/\t.nodes.length<=26),_,rfl,by omega,_,rfl,by omega,_,rfl,hM,Zet,Znw λt m3 aR eG ht M _ fw=>?_⟩
   have hl:t.nodes.length<=10000:=by omega
   refine Zb3 (Zjs t M (eG.mono fw) hl) λm4 bU=>⟨trivial,⟨1,Int.tmod (x.n:Int) 5 == 4,Int.tmod (x.n:Int) 7 == 6,t,.empty,0,none,0,[],.empty,0⟩,?_,rfl,⟨.inl ⟨rfl,ht.1,ht.2,rfl,rfl⟩,eG.mono (mLt fw bU),⟨rfl,rfl,rfl⟩,rfl,rfl⟩⟩
   have hg:=ZmB (Zh7 hl)
   show[Value.int .i64 _]=[Value.int .i64 (if(1:Int)=1 then t.groups else _)]
   rw[if_pos rfl,hg]
  ·refine⟨λxs _ _ m'=>xs=[.bool (decide (k<=4))]/\m2.le m',Zab (λh=>⟨trivial,?_,Mem.le_refl _⟩) (λh=>⟨trivial,?_,Mem.le_refl _⟩),?_⟩
   ·have:k=3:=by simp at h;omega
    rw[h,this];rfl
   ·have:¬k=3:=by simp at h;omega
    refine ZaB ?_
    rw[Bool.eq_iff_iff];simp;omega
   rintro c3 m3 aR ⟨sO,_⟩
   obtain rfl:c3=decide (k<=4):=by simpa using sO
   refine Zat (λpM=>λb5 ib=>?_) (λpM=>Zab (λh5=>⟨trivial,⟨3,false,false,T0,.empty,0,none,0,[],.empty,0⟩,rfl,rfl,⟨.inr ⟨⟨rfl,rfl,rfl⟩,.inr (.inl ⟨rfl,rfl,rfl⟩)⟩,Zvr _,⟨rfl,rfl,rfl⟩,rfl,rfl⟩⟩) (λh5=>⟨_,rfl,by omega,trivial,?_⟩))
   ·have sP:Int.tmod (x.n:Int) 6=((x.n % 6:Nat):Int):=rfl
    have h6:x.n % 6 < 6:=Nat.mod_lt _ (by omega)
    obtain⟨s,hs,nv,j1⟩:=Zyc (x.n % 6) h6
    refine⟨_,rfl,by omega,by rw[sP];exact⟨by omega,by omega⟩,Zah (by rw[sP,zA8];exact hs) ⟨s,rfl,λM _ _=>⟨trivial,⟨2,false,false,T0,s,0,none,0,[],.empty,0⟩,rfl,rfl,⟨.inr ⟨⟨rfl,rfl,rfl⟩,.inl ⟨rfl,nv,j1,rfl⟩⟩,Zvr _,⟨rfl,rfl,rfl⟩,rfl,rfl⟩⟩⟩⟩
   ·have io:Int.tmod (x.t:Int) 8=((x.t % 8:Nat):Int):=rfl
    have h8:x.t % 8 < 8:=Nat.mod_lt _ (by omega)
    have hw:IntKind.i64.wrap (1+IntKind.i64.wrap (Int.tmod (x.t:Int) 8))=((1+x.t % 8:Nat):Int):=by rw[io,Zai (n:=((x.t % 8:Nat):Int)) (by omega) (by omega),Zai (by omega) (by omega)];omega
    exact⟨⟨4,false,false,T0,.empty,IntKind.i64.wrap (1+IntKind.i64.wrap (Int.tmod (x.t:Int) 8)),none,0,[],.empty,0⟩,rfl,rfl,⟨.inr ⟨⟨rfl,rfl,rfl⟩,.inr (.inr ⟨rfl,rfl,by show 1<=IntKind.i64.wrap (1+IntKind.i64.wrap (Int.tmod (x.t:Int) 8));rw[hw];omega,by show IntKind.i64.wrap (1+IntKind.i64.wrap (Int.tmod (x.t:Int) 8))<=8;rw[hw];omega⟩)⟩,Zvr _,⟨rfl,rfl,rfl⟩,rfl,rfl⟩⟩
 rintro cn cs m2 aK ⟨r,i6,ig,hR⟩
 simp only[List.cons.injEq,Value.int.injEq,true_and,and_true]at i6 ig
 subst i6 ig
 have gX:=hx.al
 have wi:=hx.ad
 have hN:(if(3:Int) < (x.al.length:Int)then(3:Int)else(x.al.length:Int))=((min 3 x.al.length:Nat):Int):=by split <;> omega
 simp only[hN,zA8,Nat.sub_zero]
 generalize pg:min 3 x.al.length=N
 have cu : -1<=ZcZ r/\ZcZ r<=10000:=by
  refine⟨Zow r,?_⟩
  unfold ZcZ
  rcases hR.kind with⟨h1,h2,h3,_⟩|⟨_,⟨h1,_⟩|⟨h1,_⟩|⟨h1,_⟩⟩ <;> rw[h1]
  ·rw[if_pos rfl,ZmB (Zh7 (by omega))]
   have:r.t.gr<=r.t.nodes.length:=List.countP_le_length
   omega
  ·rw[if_neg (by decide),if_pos rfl];omega
  ·rw[if_neg (by decide),if_neg (by decide)];omega
  ·rw[if_neg (by decide),if_neg (by decide)];omega
 have fN:=dx.mono aK
 refine⟨⟨by omega,by omega⟩,λxs css tvs m' q=>∃(L:List Ac)(a:Option Addr)(d:Nat),L.length<=N/\xs=[.int .i64 L.length]/\css=[({ r with acts:=L,aa:=a,ac:=d }:Ru).cs]/\tvs=[.slice a L.length d]/\rowRd m' a (L.map Ac.cs).flatten/\(∀y∈L,RepA m' y)/\(∀y∈L,MkA (ZcZ r) y)/\q=N - L.length,⟨N,[],none,0,by simp,rfl,?_,rfl,.inl rfl,by simp,by simp,rfl⟩,?_⟩
 ·show[r.cs]=[_]
  unfold Ru.cs
  rw[hR.acts.1,hR.acts.2.1,hR.acts.2.2]
 rintro z cs a n1 d m3 q aR ⟨L,a',d',wj,hz,bE,bY,aA,aI,gm,rfl⟩
 simp only[List.cons.injEq,Value.slice.injEq,Value.int.injEq,true_and,and_true]at hz bE bY
 obtain⟨rfl,rfl,rfl⟩:=bY
 subst hz bE
 have dh:=mLt aH (mLt aK aR)
 refine Zat (λaC=>?_) (λbF=>?_)
 ·have aP:L.length < N:=by omega
  obtain⟨y,hy⟩:=Zaw (l:=x.al) (k:=L.length) (by omega)
  obtain⟨b3,o3,eu,iq⟩:=Zal SAct.len (fN.mono aR).row hy (by omega)
  have hw:IntKind.i64.wrap ((L.length:Int)+1)=((L.length+1:Nat):Int):=by rw[Zai (by omega) (by omega)];rfl
  refine⟨b3,o3,eu,⟨by omega,aC⟩,_,_,_,_,iq,λb4=>Zaa rfl ⟨λ_ _ _=>AcR (ZcZ r),Zah rfl ⟨_,rfl,Zuq y (ZcZ r) m3 ((fN.mono aR).all y (zA2 hy)) cu,Zup,?_⟩⟩⟩
  rintro n s a3 n3 c3 n5 v s1 n6 a4 n7 c4 m4 bU ⟨w,hv,jj,qY⟩ b5 ib
  simp only[Ac.cs,Value.agg.injEq,Array.mk.injEq,List.cons.injEq,Value.int.injEq,Value.string.injEq,Value.slice.injEq,true_and,and_true]at hv
  obtain⟨rfl,rfl,⟨rfl,rfl,rfl⟩,rfl,rfl,rfl,rfl,rfl,rfl,rfl⟩:=hv
  refine Zaa rfl ?_
  refine Zf9 Ac.len Ac.one ib w (aA.mono bU) 112 (by omega) (by omega) (.inl rfl) λa5 c5 m5 cE bH=>Zaa rfl λM _ eD fw gi=>⟨trivial,N - (L.length+1),by omega,L++[w],a5,c5,by rw[zA1];exact aP,by rw[hw,zA1];rfl,?_,by rw[zA1];rfl,bH.mono gi,?_,?_,by rw[zA1];rfl⟩
  ·unfold Ru.cs;rw[zA1];rfl
  ·intro z hz
   rcases List.mem_append.1 hz with hz|hz
   ·exact(aI z hz).mono (mLt bU eD)
   ·rw[List.mem_singleton]at hz;subst hz;exact jj.mono eD
  ·intro z hz
   rcases List.mem_append.1 hz with hz|hz
   ·exact gm z hz
   ·rw[List.mem_singleton]at hz;subst hz;exact qY
 ·have uS:Int.tmod (x.g:Int) 8=((x.g % 8:Nat):Int):=rfl
  have qU:IntKind.i64.wrap (Int.tmod (x.g:Int) 8)=((x.g % 8:Nat):Int):=by rw[uS,Zai (by omega) (by omega)]
  have hg:x.g % 8 < 8:=Nat.mod_lt _ (by omega)
  have eh:=Zus hR.kind
  have base:∀{M:Mem},m3.le M->∀(go:ByteArray)(code:Int),go.size<=16->(0<=code/\code<=255)->RepR M { r with acts:=L,aa:=a,ac:=d,go:=go,code:=code }:=λ{M} hM go code h1 h2=>
   ⟨eh.1,hR.t.mono (mLt aR hM),eh.2.1,eh.2.2,by show L.length<=few;unfold few;omega,aA.mono hM,λy hy=>(aI y hy).mono hM,by show go.size<=_;omega,by show I64 code;unfold I64;omega⟩
  refine⟨λ_ css _ M=>∃r':Ru,css=[r'.cs]/\RepR M r'/\MkR p r',⟨_,rfl,by omega,?_⟩,?_⟩
  rw[qU]
  generalize x.g % 8=g at hg
  refine Zat (λh6=>?_) (λh6=>⟨by omega,Zaa rfl ⟨trivial,trivial,?_⟩⟩)
  ·refine⟨λ_ _ _=>Zu0 Zs8,_,rfl,Zmw m3,ZcM,?_⟩
   rintro a5 n5 c5 m5 cE ⟨a',c',eO,dP⟩
   simp only[Value.slice.injEq]at eO
   obtain⟨rfl,rfl,rfl⟩:=eO
   have uT:g % p < p:=Nat.mod_lt _ (by omega)
   obtain⟨s,hs⟩:=Zaw (l:=Zs8) (k:=g % p) (by show g % p < 4;omega)
   have ic:=zA2 hs
   obtain⟨b6,o6,gB,bT⟩:=Zcx dP hs
   have hu:Int.tmod (g:Int) (p:Int)=((g % p:Nat):Int):=rfl
   refine⟨by omega,b6,o6,gB,by rw[hu];exact⟨by omega,by show((g % p:Nat):Int) < (4:Nat);omega⟩,_,by rw[hu,zA8];exact bT,s,rfl,Zaa rfl λM gS _=>⟨trivial,trivial,{ r with acts:=L,aa:=a,ac:=d,go:=s,code:=0 },?_,base gS s 0 (by have:=ZkR s ic;omega) (by omega),hR.kind,by show L.length<=3;omega,gm,.inl ⟨⟨g % p,uT,hs⟩,rfl⟩⟩⟩
   show[_]=[_]
   unfold Ru.cs Zay
   rw[hR.go.2];rfl
  ·have ft:Int.tmod (IntKind.i64.wrap ((g:Int)*41)) 256=((g*41 % 256:Nat):Int):=by
    rw[show((g:Int)*41)=((g*41:Nat):Int) by omega,Zai (by omega) (by omega)];rfl
   rw[ft]
   have nG:g*41 % 256 < 256:=Nat.mod_lt _ (by omega)
   refine⟨{ r with acts:=L,aa:=a,ac:=d,go:=.empty,code:=((g*41 % 256:Nat):Int) },?_,base (Mem.le_refl _) _ _ (by rw[ZaD];omega) (by omega),hR.kind,by show L.length<=3;omega,gm,.inr ⟨rfl,by show 0<=((g*41 % 256:Nat):Int)/\((g*41 % 256:Nat):Int)<=255;omega⟩⟩
   show[_]=[_]
   unfold Ru.cs Zay
   rw[hR.go.1];rfl
  ·rintro cs m5 cE ⟨r',bE,hr',hk'⟩
   obtain rfl:cs=r'.cs:=by simpa using bE
   exact Zaa rfl (ZaA (mLt dh cE) ⟨r',rfl,hr',hk'⟩)
theorem Ziy{α:Type}{cs:α->List Value}{n:Nat}(hn:∀x,(cs x).length=n)(h1:∀x,∀u∈cs x,u.oneCell'=true){m3:Mem}{b3:Nat}(hf:m3.free b3){a:Option Addr}{ts:List α}(t:α)(aA:rowRd m3 a (ts.map cs).flatten)(sz:Nat)(aZ:(ts.length+1)*sz<=140737488355328)(hl:ts.length<=1000000){P Q:Prop}(hp:P\/Q){K:Option Addr->Nat->Mem->Prop}
  (k:∀(a':Option Addr)(c':Nat)(m4:Mem),(m3.add b3 (cs t)).le m4->rowRd m4 a' ((ts++[t]).map cs).flatten->ts.length+1<=c'->K a' c' m4):
  (P\/Q)/\∃xs ys:List Value,xs.length=ts.length*n/\ys.length=1*n/\rowRd (m3.add b3 (cs t)) a xs/\rowRd (m3.add b3 (cs t)) (some ⟨b3,0,none⟩) ys/\(∀u:Value,u∈ys->u.oneCell'=true)/\(ts.length+1)*sz<=140737488355328/\ts.length+1<=9223372036854775807/\
   ∀(a':Option Addr)(c':Nat)(m4:Mem),(m3.add b3 (cs t)).le m4->rowRd m4 a' (List.append xs ys)->ts.length+1<=c'->K a' c' m4:=
 ⟨hp,(ts.map cs).flatten,cs t,ZaO hn ts,by rw[hn,Nat.one_mul],aA.mono (Mem.le_add hf _),Za1,h1 t,aZ,by omega,λa' c' m4 hm hr hc=>k a' c' m4 hm (by rw[Ziv];exact hr) hc⟩
structure SSta where
 a:Option Addr
 l:List SRul
 d:Nat
def SSta.cs(x:SSta):List Value:=[.slice x.a x.l.length x.d]
theorem SSta.len(x:SSta):x.cs.length=1:=rfl
structure RepSS (m:Mem)(x:SSta):Prop where
 l:x.l.length<=1000000000000000
 d:x.l.length<=x.d
 row:rowRd m x.a (x.l.map SRul.cs).flatten
 all:∀r∈x.l,RepSR m r
theorem RepSS.mono{m m':Mem}{x:SSta}(h:RepSS m x)(hm:m.le m'):RepSS m' x:=⟨h.l,h.d,h.row.mono hm,λa ha=>(h.all a ha).mono hm⟩
structure SScr where
 n:Nat
 va:Option Addr
 vl:List Nat
 vd:Nat
 sa:Option Addr
 sl:List SSta
 sd:Nat
def SScr.cs(x:SScr):List Value:=[.int .u8 x.n,.slice x.va x.vl.length x.vd,.slice x.sa x.sl.length x.sd]
theorem SScr.len(x:SScr):x.cs.length=3:=rfl
structure RepSC (m:Mem)(x:SScr):Prop where
 n:x.n < 256
 v:BytU m x.va x.vl
 vl:x.vl.length<=1000000000000000
 sl:x.sl.length<=1000000000000000
 sd:x.sl.length<=x.sd
 row:rowRd m x.sa (x.sl.map SSta.cs).flatten
 all:∀s∈x.sl,RepSS m s
theorem RepSC.mono{m m':Mem}{x:SScr}(h:RepSC m x)(hm:m.le m'):RepSC m' x:=⟨h.n,h.v.mono hm,h.vl,h.sl,h.sd,h.row.mono hm,λa ha=>(h.all a ha).mono hm⟩
def ByR:Value->Mem->List (List Value)->Prop:=λv _ _=>∃n:Nat,v=.int .i64 n/\n < 256
theorem Zrt:∀(v:Value)(m':Mem) (css:List (List Value)),ByR v m' css->Shape.fits (.int .i64) v=true:=λv _ _ ⟨_,h,_⟩=>by rw[h];rfl
theorem Zut(x:SScr)(b:Nat)(i:Nat)(m:Mem)(hb:m.reads b 0 x.cs)(hx:RepSC m x)(hi:i<=1000):CX Tryz.prog 43 #[.int .i64 i,.pointer (some ⟨b,0,none⟩)] m [] ByR:=by
 apply Zf4
 have h1:=hb 1 _ rfl
 refine⟨_,h1,Zaa rfl (Zab (λh=>ZaA (Mem.le_refl _) ⟨0,rfl,by omega⟩) (λh=>⟨_,h1,_,h1,Zaa rfl ⟨?_,Zaa rfl ?_⟩⟩))⟩
 ·show(x.vl.length:Int)≠0
  have:¬((x.vl.length:Int)=0):=by simpa[slN]using h
  exact this
 have h0:x.vl.length≠0:=by
  intro e
  have:¬((x.vl.length:Int)=0):=by simpa[slN]using h
  omega
 have aC:i % x.vl.length < x.vl.length:=Nat.mod_lt _ (by omega)
 obtain⟨n,hn⟩:=Zaw aC
 obtain⟨gQ,b1,o1,gu,ep⟩:=hx.v.get hn
 have jA:Int.tmod (i:Int) ((slN (.slice x.va x.vl.length x.vd):Nat):Int)=((i % x.vl.length:Nat):Int):=rfl
 refine⟨b1,o1,gu,by rw[jA];exact⟨by omega,by show((i % x.vl.length:Nat):Int) < (x.vl.length:Nat);omega⟩,_,by rw[jA,zA8];exact ep,_,rfl,ZaA (Mem.le_refl _) ⟨n,?_,gQ⟩⟩
 rw[Zai (by omega) (by omega)]
theorem Zv7(n:Int):ConvIs Tryz.prog 3 49 (.int .i64 n) (.float .f64 (FloatKind.f64.nearest n)):=λw=>by
 simp[convert,Tryz.underlying3,Tryz.underlying49,Conv.intToFloat]
theorem Zxm:∀n:Fin 5,((FloatKind.f64.format.div (FloatKind.f64.nearest (n:Nat)) 4611686018427387904).any Zh2)=true:=by decide +kernel
theorem Zxn:∀j < 5,∃s:ByteArray,[Value.string ⟨#[]⟩,.string ⟨#[97]⟩,.string ⟨#[98,98]⟩,.string ⟨#[49]⟩,.string ⟨#[48,46,53]⟩][j*1]?=some (.string s)/\s.size<=3:=by
 intro j hj
 have:j=0\/j=1\/j=2\/j=3\/j=4:=by omega
 rcases this with rfl|rfl|rfl|rfl|rfl <;> exact⟨_,rfl,by decide⟩
theorem Va.one(a:Va):∀u∈a.cs,u.oneCell'=true:=by
 intro u hu
 simp only[Va.cs,List.mem_cons,List.not_mem_nil,or_false]at hu
 rcases hu with rfl|rfl|rfl|rfl <;> rfl
theorem Sta.one(a:Sta):∀u∈a.cs,u.oneCell'=true:=by
 intro u hu
 simp only[Sta.cs,List.mem_cons,List.not_mem_nil,or_false]at hu
 rcases hu with rfl|rfl <;> rfl
theorem Ru.one(a:Ru):∀u∈a.cs,u.oneCell'=true:=by
 intro u hu
 simp only[Ru.cs,List.mem_cons,List.not_mem_nil,or_false]at hu
 rcases hu with rfl|rfl|rfl|rfl|rfl|rfl|rfl|rfl|rfl|rfl|rfl|rfl|rfl|rfl|rfl|rfl <;> rfl
def ScR:Value->Mem->List (List Value)->Prop:=λv m' _=>∃s:Sc,v=s.v/\RepC m' s/\MkC s
theorem Zuu:∀(v:Value)(m':Mem) (css:List (List Value)),ScR v m' css->Shape.fits (.agg [.int .i64,.slice,.slice]) v=true:=λv _ _ ⟨_,h,_⟩=>by rw[h];rfl
theorem ZoV{α:Type}{L:List α}{t:α}{P:Nat->α->Prop}(h:∀j v,L[j]?=some v->P j v)(ht:P L.length t):∀j v,(L++[t])[j]?=some v->P j v:=by
 intro j v hv
 rcases Nat.lt_or_ge j L.length with aC|bF
 ·rw[zA5 aC]at hv;exact h j v hv
 ·have hj:=(zA0 hv).1
  rw[zA1,List.length_singleton]at hj
  obtain rfl:j=L.length:=by omega
  simp at hv;subst hv;exact ht
theorem Zuv{i:Nat}{v:Va}(h:MkV i v):RepV v:=by
 have hm:=zA2 h.name
 refine⟨?_,?_⟩
 ·rcases List.mem_append.1 hm with hm|hm
  ·have:=Ziw _ hm;omega
  ·have:=Zix _ hm;omega
 ·rcases h.kind with⟨_,_,h,_⟩|⟨_,_,h,_⟩
  ·rw[h,ZaD];omega
  ·omega
set_option maxHeartbeats 2000000 in
theorem Zuw(x:SScr)(m:Mem)(hx:RepSC m x):CX Tryz.prog 10 #[.agg x.cs.toArray] m [] ScR:=by
 apply Zin
 intro b m1 aH hb b1
 have dx:=hx.mono aH
 have qZ:Int.tmod (x.n:Int) 11=((x.n % 11:Nat):Int):=rfl
 have jX:IntKind.i64.wrap (2+IntKind.i64.wrap (Int.tmod (x.n:Int) 11))=((2+x.n % 11:Nat):Int):=by rw[qZ,Zai (n:=((x.n % 11:Nat):Int)) (by omega) (by omega),Zai (by omega) (by omega)];omega
 have q6:x.n % 11 < 11:=Nat.mod_lt _ (by omega)
 refine⟨_,rfl,by omega,λb2=>Zam (Zgz m1) ZcM ?_⟩
 rintro a0 n0 c0 m2 aK ⟨a',c',mM,dP⟩
 simp only[Value.slice.injEq]at mM
 obtain⟨rfl,rfl,rfl⟩:=mM
 rw[jX]
 generalize x.n % 11=u at q6
 have dq:=mLt aH aK
 refine⟨λxs css tvs m' q=>∃(L:List Va)(a:Option Addr)(d:Nat),L.length<=4/\xs=[.int .i64 L.length]/\css=[[.int .i64 ((2+u:Nat):Int),.slice a L.length d,.slice none 0 0]]/\tvs=[.slice a L.length d]/\L.length<=d/\rowRd m' a (L.map Va.cs).flatten/\(∀j v,L[j]?=some v->MkV j v)/\q=4 - L.length,⟨4,[],none,0,by simp,rfl,rfl,rfl,by simp,.inl rfl,by simp,rfl⟩,?_⟩
 rintro z cs a n1 d m3 q aR ⟨L,a',d',wk,hz,bE,bY,uU,aA,gm,rfl⟩
 simp only[List.cons.injEq,Value.slice.injEq,Value.int.injEq,true_and,and_true]at hz bE bY
 obtain⟨rfl,rfl,rfl⟩:=bY
 subst hz bE
 have mg:=mLt aK aR
 refine Zat (λaC=>?_) (λbF=>?_)
 ·have aP:L.length < 4:=by have:(L.length:Int) < (Zhw.length:Nat):=aC;have:Zhw.length=4:=rfl;omega
  obtain⟨s,hs⟩:=Zaw (l:=Zhw) (k:=L.length) aP
  obtain⟨b3,o3,eu,bT⟩:=Zcx (dP.mono aR) hs
  refine⟨b3,o3,eu,⟨by omega,aC⟩,_,bT,s,rfl,λ_ _ _=>ByR,Zah rfl ⟨_,rfl,Zut x b L.length m3 (hb.mono mg) (dx.mono mg) (by omega),Zrt,?_⟩⟩
  rintro n4 m4 bU ⟨n,hn,gQ⟩
  obtain rfl:n4=n:=by simpa using hn
  have hq:=Zxm ⟨n % 5,Nat.mod_lt _ (by omega)⟩
  obtain⟨r,hr,eH⟩:=(Option.any_eq_true ..).1 hq
  have hr:FloatKind.f64.format.div (FloatKind.f64.nearest ((n % 5:Nat):Int)) 4611686018427387904=some r:=hr
  have pk:Int.tmod (n:Int) 5=((n % 5:Nat):Int):=rfl
  refine⟨by omega,_,Zv7 _,_,by rw[pk];exact Zrp _ hr,Zaa rfl (Zaa rfl (Zaa rfl λb5 ib=>Zaa rfl ?_))⟩
  have hw:IntKind.i64.wrap ((L.length:Int)+1)=((L.length+1:Nat):Int):=by rw[Zai (by omega) (by omega)];rfl
  refine Ziy Va.len Va.one ib (⟨s,true,.empty,r⟩:Va) (aA.mono bU) 48 (by omega) (by omega) (.inl rfl) λa6 c6 m6 eA iR q7=>Zaa rfl λM _ _ _ hM=>⟨rfl,4 - (L.length+1),by omega,L++[⟨s,true,.empty,r⟩],a6,c6,by rw[zA1];exact aP,by rw[hw,zA1];rfl,by rw[zA1];rfl,by rw[zA1];rfl,by rw[zA1];exact q7,iR.mono hM,ZoV gm ⟨by rw[zA5 aP];exact hs,.inl ⟨aP,rfl,rfl,eH⟩⟩,by rw[zA1];rfl⟩
 have hL:L.length=4:=by have:¬(L.length:Int) < (Zhw.length:Nat):=bF;have:Zhw.length=4:=rfl;omega
 refine Zam (Zk1 m3) ZcM ?_
 rintro a5 n5 c5 m4 bU ⟨a',c',eO,eG⟩
 simp only[Value.slice.injEq]at eO
 obtain⟨rfl,rfl,rfl⟩:=eO
 have gx:=mLt mg bU
 refine⟨λxs css tvs m' q=>∃(W:List Va)(a:Option Addr)(d i:Nat),i<=2/\W.length=4+i/\xs=[.int .i64 i]/\css=[[.int .i64 ((2+u:Nat):Int),.slice a W.length d,.slice none 0 0]]/\tvs=[.slice a W.length d]/\W.length<=d/\rowRd m' a (W.map Va.cs).flatten/\(∀j v,W[j]?=some v->MkV j v)/\q=2 - i,⟨2,L,a,d,0,by omega,by omega,rfl,rfl,rfl,uU,aA.mono bU,gm,rfl⟩,?_⟩
 rintro z cs a7 n7 d7 m5 q cE ⟨W,a',d',i,fM,uV,hz,bE,bY,sQ,iS,jC,rfl⟩
 simp only[List.cons.injEq,Value.slice.injEq,Value.int.injEq,true_and,and_true]at hz bE bY
 obtain⟨rfl,rfl,rfl⟩:=bY
 subst hz bE
 have nJ:=mLt gx cE
 refine Zat (λaC=>?_) (λbF=>?_)
 ·have aP:i < 2:=by have:(i:Int) < (Zec.length:Nat):=aC;have:Zec.length=2:=rfl;omega
  obtain⟨s,hs⟩:=Zaw (l:=Zec) (k:=i) aP
  obtain⟨b3,o3,eu,bT⟩:=Zcx (eG.mono cE) hs
  have q8:IntKind.i64.wrap ((i:Int)+4)=((i+4:Nat):Int):=by rw[Zai (by omega) (by omega)];rfl
  have hw:IntKind.i64.wrap ((i:Int)+1)=((i+1:Nat):Int):=by rw[Zai (by omega) (by omega)];rfl
  rw[q8,hw]
  refine⟨b3,o3,eu,⟨by omega,aC⟩,_,bT,s,rfl,λ_ _ _=>ByR,Zah rfl λb4 eN=>⟨_,rfl,Zut x b (i+4) m5 (hb.mono nJ) (dx.mono nJ) (by omega),Zrt,?_⟩⟩
  rintro n4 m6 eA ⟨n,hn,gQ⟩
  obtain rfl:n4=n:=by simpa using hn
  have pk:Int.tmod (n:Int) 5=((n % 5:Nat):Int):=rfl
  have h5:n % 5 < 5:=Nat.mod_lt _ (by omega)
  obtain⟨s1,nv,j1⟩:=Zxn (n % 5) h5
  refine⟨by omega,by rw[pk];exact⟨by omega,by omega⟩,λV _ _ _=>Zah (by rw[pk,zA8];exact nv) ⟨s1,rfl,λV2 uW _ _ b5 ib=>Zaa rfl ?_⟩⟩
  refine Ziy Va.len Va.one ib (⟨s,false,s1,0⟩:Va) (iS.mono uW) 48 (by omega) (by omega) (.inl rfl) λa6 c6 m7 ew iR q7=>Zaa rfl λM _ _ _ _ hM=>⟨rfl,rfl,2 - (i+1),by omega,W++[⟨s,false,s1,0⟩],a6,c6,i+1,by omega,by rw[zA1];simp;omega,rfl,by rw[zA1];rfl,by rw[zA1];rfl,by rw[zA1];exact q7,iR.mono hM,ZoV jC ⟨by rw[uV,zA4 (show Zhw.length<=4+i by show 4<=_;omega)];show Zec[4+i - 4]?=_;rw[show 4+i - 4=i by omega];exact hs,.inr ⟨by omega,rfl,j1,rfl⟩⟩,rfl⟩
 have hW:W.length=6:=by have:¬(i:Int) < (Zec.length:Nat):=bF;have:Zec.length=2:=rfl;omega
 have dS:=hx.sl
 have sR:=hx.sd
 have hN:(if(4:Int) < (x.sl.length:Int)then(4:Int)else(x.sl.length:Int))=((min 4 x.sl.length:Nat):Int):=by split <;> omega
 simp only[hN,zA8,Nat.sub_zero]
 generalize pg:min 4 x.sl.length=N
 refine⟨⟨by omega,by omega⟩,λxs css tvs m' q=>∃(S:List Sta)(a:Option Addr)(e:Nat),S.length<=N/\xs=[.int .i64 S.length]/\css=[[.int .i64 ((2+u:Nat):Int),.slice a7 W.length d7,.slice a S.length e]]/\tvs=[.slice a S.length e]/\S.length<=e/\rowRd m' a (S.map Sta.cs).flatten/\(∀y∈S,RepS m' y)/\(∀j y,S[j]?=some y->MkS N j y)/\q=N - S.length,⟨N,[],none,0,by simp,rfl,rfl,rfl,by simp,.inl rfl,by simp,by simp,rfl⟩,?_⟩
 rintro z cs a8 n8 d8 m6 q eA ⟨S,a',d',wl,hz,bE,bY,uX,ko,kp,nK,rfl⟩
 simp only[List.cons.injEq,Value.slice.injEq,Value.int.injEq,true_and,and_true]at hz bE bY
 obtain⟨rfl,rfl,rfl⟩:=bY
 subst hz bE
 have jD:=mLt nJ eA
 have lz:=dx.mono jD
 have sS:∀v∈W,RepV v:=λv hv=>by
  obtain⟨j,hj⟩:=List.getElem?_of_mem hv
  exact Zuv (jC j v hj)
 refine Zat (λaC=>?_) (λbF=>?_)
 ·have aP:S.length < N:=by omega
  obtain⟨y,hy⟩:=Zaw (l:=x.sl) (k:=S.length) (by omega)
  obtain⟨b3,o3,eu,iq⟩:=Zal SSta.len lz.row hy (by omega)
  have kX:=lz.all y (zA2 hy)
  refine⟨b3,o3,eu,⟨by omega,aC⟩,_,iq 0 _ rfl,Zam (Zmw m6) ZcM ?_⟩
  rintro a9 n9 c9 m7 ew ⟨a',c',kq,kY⟩
  simp only[Value.slice.injEq]at kq
  obtain⟨rfl,rfl,rfl⟩:=kq
  obtain⟨s,hs⟩:=Zaw (l:=Zs8) (k:=S.length) (by show S.length < 4;omega)
  obtain⟨b4,o4,jz,bT⟩:=Zcx kY hs
  have eP:=kX.l
  have wm:=kX.d
  have uY:(if(5:Int) < (slN (.slice y.a y.l.length y.d):Nat)then(5:Int)else(slN (.slice y.a y.l.length y.d):Nat))=((min 5 y.l.length:Nat):Int):=by
   show(if(5:Int) < (y.l.length:Int)then(5:Int)else(y.l.length:Int))=_
   split <;> omega
  have pm:=kX.mono ew
  refine⟨b4,o4,jz,⟨by omega,by show(S.length:Int) < (4:Nat);omega⟩,_,bT,s,rfl,λb5=>Zaa rfl (Zaa rfl ?_)⟩
  simp only[uY,zA8,Nat.sub_zero]
  generalize oS:min 5 y.l.length=K
  have uZ:=ZkR s (zA2 hs)
  refine⟨⟨by omega,by show((K:Nat):Int)<=(y.d:Nat);omega⟩,λxs css tvs m' q=>∃(T:List Ru)(a:Option Addr)(e:Nat),T.length<=K/\xs=[.int .i64 T.length]/\css=[[.string s,.slice a T.length e]]/\tvs=[.slice a T.length e]/\rowRd m' a (T.map Ru.cs).flatten/\(∀r∈T,RepR m' r)/\(∀r∈T,MkR N r)/\q=K - T.length,⟨K,[],none,0,by simp,rfl,rfl,rfl,.inl rfl,by simp,by simp,rfl⟩,?_⟩
  rintro z cs a10 n10 d10 m8 q dG ⟨T,a',d',wo,hz,bE,bY,kr,kt,nL,rfl⟩
  simp only[List.cons.injEq,Value.slice.injEq,Value.int.injEq,true_and,and_true]at hz bE bY
  obtain⟨rfl,rfl,rfl⟩:=bY
  subst hz bE
  refine Zat (λcY=>?_) (λdg=>?_)
  ·have iT:T.length < K:=by omega
   obtain⟨r,hr⟩:=Zaw (l:=y.l) (k:=T.length) (by omega)
   have sT:=pm.mono dG
   obtain⟨b6,o6,gB,eK⟩:=Zal SRul.len sT.row hr (by omega)
   have hw:IntKind.i64.wrap ((T.length:Int)+1)=((T.length+1:Nat):Int):=by rw[Zai (by omega) (by omega)];rfl
   refine⟨b6,o6,gB,⟨by omega,cY⟩,_,_,_,_,_,_,eK,λb7=>Zaa rfl ⟨λ_ _ _=>RuR N,Zah rfl ⟨_,rfl,Zsz r N m8 (sT.all r (zA2 hr)) (by omega),Zur,?_⟩⟩⟩
   rintro k1 k2 k3 k4 k5 k6 k7 k8 k9 k10 ka kb kc ks kd ke kf kg kh ki m9 fI ⟨w,hv,jj,qY⟩ b10 fJ
   simp only[Ru.cs,Value.agg.injEq,Array.mk.injEq,List.cons.injEq,Value.int.injEq,Value.bool.injEq,Value.string.injEq,Value.slice.injEq,true_and,and_true]at hv
   obtain⟨rfl,rfl,rfl,rfl,rfl,rfl,rfl,rfl,rfl,rfl,⟨rfl,rfl,rfl⟩,rfl,rfl,⟨rfl,rfl,rfl⟩,rfl,rfl⟩:=hv
   refine Zaa rfl ?_
   refine Ziy Ru.len Ru.one fJ w (kr.mono fI) 168 (by omega) (by omega) (.inl rfl) λa5 c5 m5 cE bH _=>Zaa rfl λM _ eD fw gi=>⟨trivial,trivial,K - (T.length+1),by omega,T++[w],a5,c5,by rw[zA1];exact iT,by rw[hw,zA1];rfl,by rw[zA1];rfl,by rw[zA1];rfl,bH.mono gi,?_,?_,by rw[zA1];rfl⟩
   ·intro z hz
    rcases List.mem_append.1 hz with hz|hz
    ·exact(kt z hz).mono (mLt fI eD)
    ·rw[List.mem_singleton]at hz;subst hz;exact jj.mono eD
   ·intro z hz
    rcases List.mem_append.1 hz with hz|hz
    ·exact nL z hz
    ·rw[List.mem_singleton]at hz;subst hz;exact qY
  ·have hw:IntKind.i64.wrap ((S.length:Int)+1)=((S.length+1:Nat):Int):=by rw[Zai (by omega) (by omega)];rfl
   have po:=mLt ew dG
   refine Zah rfl (Zaa rfl λb6 fG=>Zaa rfl ?_)
   refine Ziy Sta.len Sta.one fG (⟨s,a10,d10,T⟩:Sta) (ko.mono po) 40 (by omega) (by omega) (.inl rfl) λa5 c5 m5 cE bH u0=>Zaa rfl ⟨trivial,trivial,N - (S.length+1),by omega,S++[⟨s,a10,d10,T⟩],a5,c5,by rw[zA1];exact aP,by rw[hw,zA1];rfl,by rw[zA1];rfl,by rw[zA1];rfl,by rw[zA1];exact u0,bH,?_,ZoV nK ⟨hs,by show T.length<=5;omega,nL⟩,by rw[zA1];rfl⟩
   have db:=mLt (Mem.le_add fG (⟨s,a10,d10,T⟩:Sta).cs) cE
   intro z hz
   rcases List.mem_append.1 hz with hz|hz
   ·exact(kp z hz).mono (mLt po db)
   ·rw[List.mem_singleton]at hz;subst hz
    exact⟨by show s.size<=_;omega,by show T.length<=few;unfold few;omega,kr.mono db,λr hr=>(kt r hr).mono db⟩
 ·have u2:S.length=N:=by omega
  have eW:=mLt aH jD
  have nM:W.length<=few:=by unfold few;omega
  have hn:I64 ((2+u:Nat):Int):=by unfold I64;omega
  have sU:m5.le m6:=eA
  refine Zah rfl (Zaa rfl (Zab (λh0=>λb3 fj=>Zaa rfl (Zaa rfl ?_)) (λh0=>Zaa rfl (ZaA eW ⟨⟨((2+u:Nat):Int),a7,d7,W,a8,d8,S⟩,rfl,⟨hn,nM,iS.mono sU,sS,by show S.length<=few;unfold few;omega,ko,kp,sQ,uX⟩,⟨by show 2<=((2+u:Nat):Int)/\((2+u:Nat):Int)<=12;omega,hW,jC,?_,?_⟩⟩))))
  ·have db:=Mem.le_add fj [Value.string ⟨#[97]⟩,.slice none 0 0]
   refine ZaA (mLt eW db) ⟨⟨((2+u:Nat):Int),a7,d7,W,some ⟨b3,0,none⟩,1,[⟨⟨#[97]⟩,none,0,[]⟩]⟩,rfl,⟨hn,nM,(iS.mono sU).mono db,sS,by show 1<=few;unfold few;omega,Za1,?_,sQ,by show 1<=1;omega⟩,⟨by show 2<=((2+u:Nat):Int)/\((2+u:Nat):Int)<=12;omega,hW,jC,by show 1<=1/\1<=4;omega,?_⟩⟩
   ·intro y hy
    rw[List.mem_singleton]at hy;subst hy
    exact⟨by show(ByteArray.mk #[97]).size<=_;decide,by show 0<=few;omega,.inl rfl,by simp⟩
   ·intro j y hy
    have:j=0:=by have:=(zA0 hy).1;simp at this;omega
    subst this
    simp at hy;subst hy
    exact⟨rfl,by show 0<=5;omega,by simp⟩
  ·have:¬((S.length:Int)=0):=by simpa[slN]using h0
   show 1<=S.length/\S.length<=4
   omega
  ·intro j y hy
   show MkS S.length j y
   rw[u2];exact nK j y hy
end Go.Proofs.YtpjepnkiiojgfaaGreat
namespace Go.Proofs.YtpjepnkiiojgfaaGreat
open Go Go.Eng Go.Proofs Go.RowKit
open Go.Value (int slice agg bool string tuple func)
open Go.IntKind (u8 u64 i64)
set_option maxRecDepth 100000
def ZmC:Env:={ EB with
 frzNew:=[1] }
theorem Zkp(aB:Int)(aD:Value)(aG:ByteArray)(aF:Int)(aQ:Option Addr)(aN aV:Nat)(m:Mem)(R:RT)(h:
 lV [int u8 aB,aD,string aG,int i64 aF,slice aQ aN aV] λxL=>fzM m xL λb m'=>kB Tryz.prog 94 [agg (Array.mk xL)] m' λb m'=>br (!b) (rtM m m' R (int i64 20001)) (kI Tryz.prog 95 [agg
 (Array.mk xL)] m' λn m'=>rtM m m' R (int i64 n))):CX Tryz.prog 60 #[.agg #[.int .u8 aB,aD,.string aG,.int .i64 aF,.slice aQ aN aV]] m [] R:=
 Zae (E:=ZmC) Zav mix Tryz.func60 (by kernel_rfl) (Eq.mp (by kernel_rfl) h)
def ZmD:Env:={ EB with
 loops:=(λi=>bif Nat.beq i 3 then⟨[(3,.int .i64),(22,.int .i64)],[],[],false⟩ else bif Nat.beq i 6 then⟨[(3,.int .i64),(29,.int .i64)],[],[],false⟩ else bif Nat.beq i 12 then⟨[(3,.int .i64),(49,.int .i64)],[],[],false⟩ else bif Nat.beq i 16 then⟨[(3,.int .i64),(66,.int .i64)],[],[],false⟩ else⟨[],[],[],false⟩)
 dr:=(λi=>bif Nat.beq i 14 then[⟨0,[],[],none,[],[]⟩,⟨1,[9],[],none,[],[]⟩,⟨2,[9],[],none,[1],[]⟩,⟨3,[],[],none,[1,2],[]⟩,⟨4,[],[],none,[1,2,3],[]⟩,⟨5,[9],[],none,[],[]⟩,⟨6,[9],[],none,[5],[]⟩,⟨7,[],[],none,[5,6],[]⟩,⟨8,[],[],none,[1,2,3,4,5,6,7],[]⟩,⟨9,[],[],none,[0,1,2,3,4,5,6,7,8],[]⟩,⟨10,[],[],none,[0,1,2,3,4,5,6,7,8,9],[]⟩]else[])
 frzNew:=[1]
 cuts:=(λi=>bif Nat.beq i 11 then some ⟨[(3,.int .i64)],[],[],false⟩ else none) }
theorem Zkq(aB:Int)(bA:Option Addr)(aX bD:Nat)(aW:Option Addr)(aO aY:Nat)(m:Mem)(R:RT)(h:
 lV [int i64 aB,slice bA aX bD,slice aW aO aY] λxL=>fzM m xL λb m'=>∃(I:IT),lE [some (Box.mk b xL 32 3 true true)] λxL=>inI I [int i64 (i64.wrap ((↑aX:Int)+(↑aO
 : Int))),int i64 0] [] [] m'/\∀(n ae:Int)(ad:Mem)(a3:Nat),m'.le ad->I [int i64 n,int i64 ae] [] [] ad a3->br (decide (ae < (↑aO:Int))) (atA aW λb o=>Zad ae aO/\∃v ab:Value,lV [v,ab] λa4=>ad.reads b (o+Int.toNat ae*2) a4/\∀(b:Nat),lE (some (Box.mk b a4 36 2 false true)::xL) λa5=>chk (v.oneCell'&&(ab.oneCell'&&true)) (chk (Zbr ab) (∃
 (ak:IT),inI ak [int i64 n,int i64 0] [] [] ad/\∀(n af:Int)(m':Mem)(a6:Nat),ad.le m'->ak [int i64 n,int i64 af] [] [] m' a6->br (decide (af < (↑(slN ab):Int))) (chk (Zbr ab) (atA (slA ab) λb o
 => Zad af (slN ab)/\∃v a7 a8 al am an ao ap aq ar au a9 ba ac bb bc:Value,lV [agg (Array.mk [al,am,an,ao,ap,aq,ar,au])] λxL=>lV [v,a7,a8,al,am,an,ao,ap,aq,ar,au,a9,ba,ac,bb,bc] λbd=>m'.reads b (o
 + Int.toNat af*16) bd/\∀(b:Nat),lE (some (Box.mk b bd 47 16 false true)::a5) λai=>chk (v.oneCell'&&(a7.oneCell'&&(a8.oneCell'&&(al.oneCell'&&(am.oneCell' &&
 (an.oneCell'&&(ao.oneCell'&&(ap.oneCell'&&(aq.oneCell'&&(ar.oneCell'&&(au.oneCell'&&(a9.oneCell'&&(ba.oneCell'&&(ac.oneCell'&&(bb.oneCell' &&
 (bc.oneCell'&&true)))))))))))))))) (kI Tryz.prog 58 xL m' λbe m'=>∃(J:JT),(kB Tryz.prog 59 xL m' λb m'=>br (!b) (Zac ai/\J [int i64 20001] [] [] m') (Zac ai/\J [int i64 (i64.wrap (n
 + i64.wrap ((1:Int)+if(20000:Int) < be then(20000:Int)else be)))] [] [] m'))/\∀(n:Int)(aj:Mem),m'.le aj->J [int i64 n] [] [] aj->chk (Zbr ac) (∃(I:IT),inI I [int i64 n,int i64 0]
 [] [] aj/\∀(n ag:Int)(m':Mem)(bf:Nat),aj.le m'->I [int i64 n,int i64 ag] [] [] m' bf->br (decide (ag < (↑(slN ac):Int))) (chk (Zbr ac) (atA (slA ac) λb o=>Zad ag (slN ac)/\∃v av aa bg bh bi bj bk:Value,lV [bg,bh,bi,bj,bk] λxL=>m'.reads b (o+Int.toNat ag*8) (v::av::aa::xL)/\∀(b:Nat),
 chk (v.oneCell'&&(av.oneCell'&&(aa.oneCell'&&(bg.oneCell'&&(bh.oneCell'&&(bi.oneCell'&&(bj.oneCell'&&(bk.oneCell'&&true)))))))) (∃(f:Fx),∃(R_1:RT),
 R_1=f 3 [agg (Array.mk xL)] m'/\CX Tryz.prog 60 (Array.mk [agg (Array.mk xL)]) m' [] R_1/\ZbD (Shape.int i64) R_1/\∀(bl:Int)(aw:Mem),m'.le aw->R_1 (int i64 bl) aw []->chk (Zbr aa) (∀(M:Mem),
 m'.le M->aw.le M->chk (Zbr aa) (∃(ax:IT),inI ax [int i64 (i64.wrap (n+i64.wrap (i64.wrap ((1:Int)+bl)+(↑(slN aa):Int)))),int i64 0] [] [] M/\∀(n ah:Int)(m':Mem)
 (bm:Nat),M.le m'->ax [int i64 n,int i64 ah] [] [] m' bm->br (decide (ah < (↑(slN aa):Int))) (chk (Zbr aa) (atA (slA aa) λbq o=>Zad ah (slN aa)/\∃bn bo bp ay az a0 a1 a2:Value,m'.reads bq (o+Int.toNat ah*8) [bn,bo,bp,ay,az,a0,a1,a2]/\∀(bt:Nat),chk (bn.oneCell'&&(bo.oneCell' &&
 (bp.oneCell'&&(ay.oneCell'&&(az.oneCell'&&(a0.oneCell'&&(a1.oneCell'&&(a2.oneCell'&&true)))))))) (br (decide (n > (20000:Int))) (rtM m m' R (bool (decide (n<=(20000:
 Int))))) (kI Tryz.prog 60 [agg (Array.mk [ay,az,a0,a1,a2])] m' λbs m'=>Zac (some (Box.mk b (v::av::aa::xL) 54 8 false true)::ai)/\nxI bm ax [int i64 (i64.wrap (n+bs)),int i64
 (i64.wrap (ah+(1:Int)))] [] [] m')))) (Zac ai/\nxI bf I [int i64 n,int i64 (i64.wrap (ag+(1:Int)))] [] [] m')))))) (br (decide (n > (20000:Int))) (rtM m m' R (bool (decide (n<=(20000:
 Int))))) (Zac a5/\nxI a6 ak [int i64 n,int i64 (i64.wrap (af+(1:Int)))] [] [] m')))))) (Zac xL/\nxI a3 I [int i64 n,int i64 (i64.wrap (ae+(1:Int)))] [] [] m')))) (rtM m ad R (bool
 (decide (n<=(20000:Int)))))):CX Tryz.prog 19 #[.agg #[.int .i64 aB,.slice bA aX bD,.slice aW aO aY]] m [] R:=
 Zae (E:=ZmD) Zav mix Tryz.func19 (by kernel_rfl) (Eq.mp (by kernel_rfl) h)
def Zkr:Env:={ EB with
 loops:=(λi=>bif Nat.beq i 5 then⟨[(3,.slice),(20,.int .i64)],[],[(27,5)],false⟩ else bif Nat.beq i 10 then⟨[(3,.slice),(32,.int .i64)],[],[(27,5)],false⟩ else bif Nat.beq i 14 then⟨[(3,.slice),(45,.int .i64)],[],[(27,5)],false⟩ else bif Nat.beq i 18 then⟨[(3,.slice),(59,.int .i64)],[],[(27,5)],false⟩ else bif Nat.beq i 22 then⟨[(3,.slice),(74,.int .i64)],[],[(27,5)],false⟩ else⟨[],[],[],false⟩)
 tokOf:=(λi=>bif Nat.beq i 27 then 27 else bif Nat.beq i 41 then 27 else bif Nat.beq i 55 then 27 else bif Nat.beq i 70 then 27 else bif Nat.beq i 84 then 27 else 0)
 frzNew:=[1] }
theorem Ziz(aB:Int)(bA:Option Addr)(aX bD:Nat)(aW:Option Addr)(aO aY:Nat)(m:Mem)(R:RT)(h:
 lV [int i64 aB,slice bA aX bD,slice aW aO aY] λxL=>fzM m xL λb m'=>lE [some (Box.mk b xL 32 3 true true)] λcd=>kB Tryz.prog 19 [agg (Array.mk xL)] m' λb m'=>br (!b) (rtM m m' R
 (slice none 0 0)) (∀(b:Nat),lM (m'.add b [int i64 (-1:Int),int i64 (-1:Int),int i64 (-1:Int),int i64 (-1:Int),int i64 (-1:Int)]) λmL=>lE (some (Box.mk b [int i64 (-1:Int),int i64 (-1:
 Int),int i64 (-1:Int),int i64 (-1:Int),int i64 (-1:Int)] 27 5 true true)::cd) λxL=>m'.free b->∃(I:IT),inI I [slice (some (Addr.mk b 0 none)) 1 1,int i64 0] [] [slice none 0 0] mL/\∀(a:
 Option Addr) (n c:Nat) (ap:Int) (ce:Option Addr) (cf cg:Nat) (m':Mem) (a4:Nat),lX (slice ce cf cg) λyL=>lX (slice a n c) λaq=>lE (n+1) λaf=>lV [int i64 ap,int i64 (-1:Int),int i64 (-1:
 Int),int i64 (-1:Int),int i64 (-1:Int)] λch=>mL.le m'->I [aq,int i64 ap] [] [yL] m' a4->br (decide (ap < (↑aX:Int))) (∀(b:Nat),lM (m'.add b ch) λmL=>m'.free b->(Tok.mk yL 5 =
 Tok.mk aq 5\/aq=slice none 0 0\/c < af)/\∃(xs:List Value),∃(ys:List Value),xs.length=n*5/\ys.length=1*5/\rowRd mL a xs/\rowRd mL (some (Addr.mk b 0 none)) ys/\(∀(u:Value),u∈ys->
 u.oneCell'=true)/\af*40<=140737488355328/\af<=9223372036854775807/\∀(a':Option Addr)(c':Nat)(m':Mem),mL.le m'->rowRd m' a' (List.append xs ys)->Zac xL/\nxI a4 I [slice a' af c',int
 i64 (i64.wrap (ap+(1:Int)))] [] [slice a' af c'] m') (∃(I:IT),inI I [aq,int i64 0] [] [yL] m'/\∀(a:Option Addr)(n c:Nat)(ag:Int)(a5:Option Addr)(a6 a7:Nat)(ac:Mem)(a8:Nat),lX
 (slice a n c) λyL=>lE (n+1) λah=>lX (int i64 ag) λai=>lV [int i64 (-1:Int),ai,int i64 (-1:Int),int i64 (-1:Int),int i64 (-1:Int)] λa9=>m'.le ac->I [yL,ai] [] [slice a5 a6 a7] ac
 a8->br (decide (ag < (↑aO:Int))) (atA aW λb o=>Zad ag aO/\∃v aa:Value,ac.reads b (o+Int.toNat ag*2) [v,aa]/\∀(b:Nat),lE (some (Box.mk b [v,aa] 36 2 false true) ::
 xL) λci=>chk (v.oneCell'&&(aa.oneCell'&&true)) (∀(b:Nat),lM (ac.add b a9) λmL=>lE (some (Box.mk b a9 27 5 true true)::ci) λba=>ac.free b->(Tok.mk (slice a5 a6 a7) 5=Tok.mk
 yL 5\/yL=slice none 0 0\/c < ah)/\∃(xs:List Value),∃(ys:List Value),xs.length=n*5/\ys.length=1*5/\rowRd mL a xs/\rowRd mL (some (Addr.mk b 0 none)) ys/\(∀(u:Value),u∈ys->
 u.oneCell'=true)/\ah*40<=140737488355328/\ah<=9223372036854775807/\∀(a':Option Addr)(c':Nat)(m':Mem),mL.le m'->rowRd m' a' (List.append xs ys)->chk (Zbr aa) (∃(a0:IT),inI a0 [slice a'
 ah c',int i64 0] [] [slice a' ah c'] m'/\∀(a:Option Addr)(n c:Nat)(aj:Int)(cj:Option Addr)(ck cl:Nat)(ad:Mem)(bb:Nat),lX (slice cj ck cl) λyL=>lX (slice a n c) λar=>lE (n+1) λak=>
 lX (int i64 aj) λau=>lV [int i64 (-1:Int),ai,au,int i64 (-1:Int),int i64 (-1:Int)] λbc=>m'.le ad->a0 [ar,au] [] [yL] ad bb->br (decide (aj < (↑(slN aa):Int))) (chk (Zbr aa) (atA (slA aa)
 λb o=>Zad aj (slN aa)/\∃v bd be bf bg bh bi bj bk bl bm bn bo ab bp bq:Value,lV [v,bd,be,bf,bg,bh,bi,bj,bk,bl,bm,bn,bo,ab,bp,bq] λxL=>ad.reads b (o+Int.toNat aj*16) xL/\∀(b:Nat),lE (some
 (Box.mk b xL 47 16 false true)::ba) λxL=>chk (v.oneCell'&&(bd.oneCell'&&(be.oneCell'&&(bf.oneCell'&&(bg.oneCell'&&(bh.oneCell'&&(bi.oneCell' &&
 (bj.oneCell'&&(bk.oneCell'&&(bl.oneCell'&&(bm.oneCell'&&(bn.oneCell'&&(bo.oneCell'&&(ab.oneCell'&&(bp.oneCell'&&(bq.oneCell'&&true))))))))))))))))
 (∀(b:Nat),lM (ad.add b bc) λmL=>lE (some (Box.mk b bc 27 5 true true)::xL) λxL=>ad.free b->(Tok.mk yL 5=Tok.mk ar 5\/ar=slice none 0 0\/c < ak)/\∃(xs:List Value),∃(ys:List Value),
 xs.length=n*5/\ys.length=1*5/\rowRd mL a xs/\rowRd mL (some (Addr.mk b 0 none)) ys/\(∀(u:Value),u∈ys->u.oneCell'=true)/\ak*40<=140737488355328/\ak<=9223372036854775807/\∀(a'
 : Option Addr) (c':Nat) (m':Mem),mL.le m'->rowRd m' a' (List.append xs ys)->chk (Zbr ab) (∃(I:IT),inI I [slice a' ak c',int i64 0] [] [slice a' ak c'] m'/\∀(a:Option Addr)(n c:Nat)(al:Int) (cm
 : Option Addr) (cn co:Nat) (ae:Mem) (bs:Nat),lX (slice cm cn co) λyL=>lX (slice a n c) λav=>lE (n+1) λam=>lX (int i64 al) λa1=>lV [int i64 (-1:Int),ai,au,a1,int i64 (-1:Int)] λbt
 => m'.le ae->I [av,a1] [] [yL] ae bs->br (decide (al < (↑(slN ab):Int))) (chk (Zbr ab) (atA (slA ab) λb o=>Zad al (slN ab)/\∃v bu aw bv bw bx bz ca:Value,lV [v,bu,aw,bv,bw,bx,bz,ca] λcb=>ae.reads b (o+Int.toNat al*8) cb/\∀(b:Nat),chk (v.oneCell'&&(bu.oneCell'&&(aw.oneCell'&&(bv.oneCell'&&(bw.oneCell'&&(bx.oneCell'&&(bz.oneCell'&&(ca.oneCell'&&true)))))))) (∀(ax:Nat),lM (ae.add ax bt) λmL=>ae.free ax->(Tok.mk yL 5=Tok.mk av 5
 \/ av=slice none 0 0\/c < am)/\∃(xs:List Value),∃(ys:List Value),xs.length=n*5/\ys.length=1*5/\rowRd mL a xs/\rowRd mL (some (Addr.mk ax 0 none)) ys/\(∀(u:Value),u∈ys->
 u.oneCell'=true)/\am*40<=140737488355328/\am<=9223372036854775807/\∀(a':Option Addr)(c':Nat)(m':Mem),mL.le m'->rowRd m' a' (List.append xs ys)->chk (Zbr aw) (∃(a2:IT),inI a2 [slice a'
 am c',int i64 0] [] [slice a' am c'] m'/\∀(a:Option Addr)(n c:Nat)(ay:Int)(cp:Option Addr)(cq cr:Nat)(an:Mem)(cc:Nat),lX (slice cp cq cr) λyL=>lX (slice a n c) λaz=>lE (n+1) λao=>
 lV [int i64 (-1:Int),ai,au,a1,int i64 ay] λcs=>m'.le an->a2 [az,int i64 ay] [] [yL] an cc->br (decide (ay < (↑(slN aw):Int))) (∀(a3:Nat),lM (an.add a3 cs) λmL=>an.free a3->(Tok.mk
 yL 5=Tok.mk az 5\/az=slice none 0 0\/c < ao)/\∃(xs:List Value),∃(ys:List Value),xs.length=n*5/\ys.length=1*5/\rowRd mL a xs/\rowRd mL (some (Addr.mk a3 0 none)) ys/\(∀(u:Value),u
 ∈ ys->u.oneCell'=true)/\ao*40<=140737488355328/\ao<=9223372036854775807/\∀(a':Option Addr)(c':Nat)(m':Mem),mL.le m'->rowRd m' a' (List.append xs ys)->Zac (some (Box.mk ax bt 27 5 true
 true)::some (Box.mk b cb 54 8 false true)::xL)/\([none,none,none,none,none,none,none]:List (Option Tok))=[none,none,none,none,none,none,none]/\nxI cc a2 [slice a' ao c',int i64 (i64.wrap
 (ay+(1:Int)))] [] [slice a' ao c'] m') (Zac xL/\([none,none,none,none,none]:List (Option Tok))=[none,none,none,none,none]/\nxI bs I [az,int i64 (i64.wrap (al+(1:Int)))] [] [yL] an)))))
 (Zac ba/\([none,none,none]:List (Option Tok))=[none,none,none]/\nxI bb a0 [av,int i64 (i64.wrap (aj+(1:Int)))] [] [yL] ae))))) (Zac xL/\([none]:List (Option Tok))=[none]/\nxI a8 I [ar,
 int i64 (i64.wrap (ag+(1:Int)))] [] [yL] ad)))) (rtM m ac R yL)))):CX Tryz.prog 11 #[.agg #[.int .i64 aB,.slice bA aX bD,.slice aW aO aY]] m [] R:=
 Zae (E:=Zkr) Zav mix Tryz.func11 (by kernel_rfl) (Eq.mp (by kernel_rfl) h)
def Zg1:Env:={ EB with
 loops:=(λi=>bif Nat.beq i 6 then⟨[(0,.slice),(23,.int .i64)],[],[(900,1)],false⟩ else⟨[],[],[],false⟩)
 tokOf:=(λi=>bif Nat.beq i 19 then 900 else 0)
 frzNew:=[3]
 thaw:=true
 lentC:=(λi=>bif Nat.beq i 29 then some [(900,1)]else none) }
theorem Zfl(cZ:Int)(de:Value)(da:ByteArray)(df:Int)(dE:Option Addr)(dp dQ:Nat)(t0a:Option Addr)(t0n t0c:Nat)(m:Mem)(Y:Nat->Prop)(R:RTY)(h:
 lV [string da] λxL=>lE (t0n+1) λyL=>lV [int u8 cZ,de,string da,int i64 df,slice dE dp dQ] λxL_1=>lX (slice t0a t0n t0c) λyL_1=>fzM m xL_1 λb m'=>m.free b->(∀(b' o
 : Nat) (u:Value),m' b' o=some u->m b' o=some u\/b'=b)->br (cZ == (9:Int)) (kB Tryz.prog 29 (yL_1::xL) m' λb m'=>br b (R yL_1 m' [] [yL_1]) (∀(b:Nat),lM (m'.add b xL) λmL=>m'.free  b->(Tok.mk yL_1 1=Tok.mk yL_1 1\/yL_1=slice none 0 0\/t0c < yL)/\∃(xs:List Value),∃(ys:List Value),xs.length=t0n*1/\ys.length=1*1/\rowRd mL t0a xs/\rowRd mL (some (Addr.mk b 0 none))
 ys/\(∀(u:Value),u∈ys->u.oneCell'=true)/\yL*16<=140737488355328/\yL<=9223372036854775807/\∀(a':Option Addr)(c':Nat)(m':Mem),mL.le m'->rowRd m' a' (List.append xs ys)->TokFact mL t0a
 a' yL c'->R (slice a' yL c') m' [] [slice a' yL c'])) (∃(I:IT),inI I [yL_1,int i64 0] [] [yL_1] m'/\∀(a:Option Addr)(n c:Nat)(n_1:Int)(a_1:Option Addr)(n_2 c_1:Nat)(m':Mem)(n_3:Nat),lX
 (slice a n c) λyL=>lX (slice a_1 n_2 c_1) λyL_2=>lE [Tok.mk yL_2 1] λxL=>True->I [yL,int i64 n_1] [] [yL_2] m' n_3->br (decide (n_1 < (↑dp:Int))) (atA dE λb_1 o=>Zad n_1 dp/\∃v v_1 v_2 v_3 v_4:Value,m'.reads b_1 (o+Int.toNat n_1*5) [v,v_1,v_2,v_3,v_4]/\∀(b_2:Nat),chk (v.oneCell'&&(v_1.oneCell' &&
 (v_2.oneCell'&&(v_3.oneCell'&&(v_4.oneCell'&&true))))) (∃(Y_1:Nat->Prop),∃(R:Value->Mem->List (List Value)->List Value->Prop),CXY Tryz.prog 142 (Array.mk [yL,agg (Array.mk [v,v_1,
 v_2,v_3,v_4])]) m' Y_1 [] xL R/\(∀(t:Tok),t∈xL->∀(b:Nat),Tok.blk t=some b->Y_1 b)/\(∀(b_3:Nat),Y_1 b_3->(∃(t:Tok),t∈xL/\Tok.blk t=some b_3)\/(Mem.free (Mem.off m Y) b_3/\Mem.k (Mem.off
 m Y) b_3=none)/\((∃(o:Nat),∃(v:Value),m' b_3 o=some v)\/∃(e:List (Value×Value)),Mem.k m' b_3=some e)/\b≠b_3/\True)/\(∀(v:Value)(m':Mem) (css:List (List Value)) (tvs:List Value),R v
 m' css tvs->Shape.fits Shape.slice v=true)/\∀(a:Option Addr)(n c:Nat)(m'_1:Mem),Mem.le (Mem.off m' Y_1) m'_1->(NewM m' m'_1 λb=>Y_1 b\/m'.free b)->∀(a_4:Option Addr)(c_2 d:Nat),R (slice
 a n c) m'_1 [] [slice a_4 c_2 d]->Zac [some (Box.mk b xL_1 52 5 true true)]/\([none]:List (Option Tok))=[none]/\nxI n_3 I [slice a n c,int i64 (i64.wrap (n_1+(1:Int)))] [] [slice a_4 c_2 d] m'_1))
 (R yL m' [] [yL_2]))):CXY Tryz.prog 142 #[.slice t0a t0n t0c,.agg #[.int .u8 cZ,de,.string da,.int .i64 df,.slice dE dp dQ]] m Y [] [⟨.slice t0a t0n t0c,1⟩] R:=
 Zja (E:=Zg1) Zav mix Tryz.func142 [.v (.slice t0a t0n t0c),.v (.agg #[.int .u8 cZ,de,.string da,.int .i64 df,.slice dE dp dQ])] [] [900] [⟨.slice t0a t0n t0c,1⟩] (by decide) (by kernel_rfl) (Eq.mp (by kernel_rfl) h)
def Zqo:Env:={ EB with
 frzNew:=[1] }
theorem ZnP(aB aD aG aF bC:Int)(m:Mem)(R:RT)(h:
 fzM m [int i64 aB,int i64 aD,int i64 aG,int i64 aF,int i64 bC] λb m'=>∀(b:Nat),m'.free b->rtM m (m'.add b [int i64 (if(-1:Int) > aD then(-1:Int)else aD),int i64 (if(-1:Int)
 > aB then(-1:Int)else aB),int i64 (if(-1:Int) > aG then(-1:Int)else aG),int i64 (if(-1:Int) > aF then(-1:Int)else aF),int i64 (if(-1:Int) > bC then(-1:Int)else bC)]) R (slice
 (some (Addr.mk b 0 none)) 5 5)):CX Tryz.prog 46 #[.agg #[.int .i64 aB,.int .i64 aD,.int .i64 aG,.int .i64 aF,.int .i64 bC]] m [] R:=
 Zae (E:=Zqo) Zav mix Tryz.func46 (by kernel_rfl) (Eq.mp (by kernel_rfl) h)
def Zgc:Env:=EB
theorem Zfm(p0:Int)(m:Mem)(R:RT)(h:
 rtM m m R (bool !p0 == p0)):CX Tryz.prog 121 #[.int .i64 p0] m [] R:=
 Zae (E:=Zgc) Zav mix Tryz.func121 (by kernel_rfl) (Eq.mp (by kernel_rfl) h)
def ZeC:Env:=EB
theorem Zd0(p0 p1:Int)(m:Mem)(R:RT)(h:
 kB Tryz.prog 121 [int i64 p0] m λb m'=>kB Tryz.prog 121 [int i64 p1] m' λb_1 m'=>br b (br b_1 (rtM m m' R (int i64 0)) (rtM m m' R (int i64 (-1:Int)))) (br b_1 (rtM m m' R (int i64 1)) (br (decide (p0 < p1))
 (rtM m m' R (int i64 (-1:Int))) (br (decide (p0 > p1)) (rtM m m' R (int i64 1)) (rtM m m' R (int i64 0)))))):CX Tryz.prog 82 #[.int .i64 p0,.int .i64 p1] m [] R:=
 Zae (E:=ZeC) Zav mix Tryz.func82 (by kernel_rfl) (Eq.mp (by kernel_rfl) h)
def Zch:Env:={ EB with
 loops:=(λi=>bif Nat.beq i 2 then⟨[(11,.int .i64)],[],[],false⟩ else⟨[],[],[],false⟩) }
theorem Zb0(p0a:Option Addr)(p0n p0c:Nat)(p1a:Option Addr)(p1n p1c:Nat)(m:Mem)(R:RT)(h:
 ∃(I:IT),inI I [int i64 0] [] [] m/\∀(n:Int)(m':Mem)(n_1:Nat),m.le m'->I [int i64 n] [] [] m' n_1->br (decide (n < (↑p0n:Int))) (atA p0a λb o=>Zad n p0n/\∃(v:Value),m' b (o +
 Int.toNat n*1)=some v/\br (decide (n ≥ (↑p1n:Int))) (rtM m m' R (int i64 1)) (atA p1a λb o=>Zad n p1n/\∃(v_1:Value),m' b (o+Int.toNat n*1)=some v_1/\kI Tryz.prog 82 [v,v_1] m' λn_2 m'=>
 br (!n_2 == (0:Int)) (rtM m m' R (int i64 n_2)) (nxI n_1 I [int i64 (i64.wrap (n+(1:Int)))] [] [] m'))) (br (decide ((↑p0n:Int) < (↑p1n:Int))) (rtM m m' R (int i64 (-1:Int))) (rtM m m' R (int i64
 0)))):CX Tryz.prog 45 #[.slice p0a p0n p0c,.slice p1a p1n p1c] m [] R:=
 Zae (E:=Zch) Zav mix Tryz.func45 (by kernel_rfl) (Eq.mp (by kernel_rfl) h)
def Zks:Env:={ EB with
 dr:=(λi=>bif Nat.beq i 1 then[⟨0,[2],[],none,[],[]⟩,⟨1,[],[],none,[0],[]⟩,⟨2,[3],[],none,[],[]⟩,⟨3,[],[],none,[0,1,2],[1]⟩,⟨4,[],[],none,[0,1,2,3],[3]⟩,⟨5,[],[],none,[0,1,2,3,4],[]⟩,⟨6,[],[],none,[0,1,2,3,4,5],[]⟩]else[])
 frzNew:=[2,3] }
theorem ZiA(aB aD aG aF bC cZ de da df fF:Int)(m:Mem)(R:RT)(h:
 lV [int i64 aB,int i64 aD,int i64 aG,int i64 aF,int i64 bC] λxL=>lV [int i64 cZ,int i64 de,int i64 da,int i64 df,int i64 fF] λxL_1=>fzM m xL λb m'=>fzM m' xL_1 λb m'=>∃(f
 : Fx),∃(R_1:RT),R_1=f 1 [agg (Array.mk xL)] m'/\CX Tryz.prog 46 (Array.mk [agg (Array.mk xL)]) m' [] R_1/\ZbD Shape.slice R_1/\∀(a:Option Addr)(n c:Nat)(m'_1:Mem),lX (slice a n c) λyL=>m'.le m'_1->R_1 yL m'_1 []->∃(R_2:RT),R_2=f 3 [agg (Array.mk xL_1)] m'_1/\CX Tryz.prog 46 (Array.mk [agg (Array.mk xL_1)]) m'_1 [] R_2/\ZbD Shape.slice R_2/\∀(a:Option Addr)(n c:Nat)(m'_2:Mem),lX
 (slice a n c) λyL_1=>m'_1.le m'_2->R_2 yL_1 m'_2 []->∃(R_3:RT),R_3=f 4 [yL,yL_1] m'_2/\CX Tryz.prog 45 (Array.mk [yL,yL_1]) m'_2 [] R_3/\ZbD (Shape.int i64) R_3/\∀(n:Int)(m'_3:Mem),m'_2.le m'_3->R_3 (int i64 n) m'_3 []->∀(M:Mem),m'.le M->m'_1.le M->m'_2.le M->m'_3.le M->rtM m M R (bool (decide (n < (0:Int))))):CX Tryz.prog 12 #[.agg #[.int .i64 aB,.int .i64 aD,.int .i64 aG,.int .i64 aF,.int .i64 bC],.agg #[.int .i64 cZ,.int .i64 de,.int .i64 da,.int .i64 df,.int .i64 fF]] m [] R:=
 Zae (E:=Zks) Zav mix Tryz.func12 (by kernel_rfl) (Eq.mp (by kernel_rfl) h)
end Go.Proofs.YtpjepnkiiojgfaaGreat
namespace Go.Proofs.YtpjepnkiiojgfaaGreat
open Go Go.Eng Go.Rx Go.Proofs Go.RowKit
set_option maxRecDepth 100000
theorem Zcz{α:Type}{l:List α}{n:Nat}(h:n < l.length):∃c,l[n]?=some c:=⟨_,zA3 h⟩
theorem Zux(k:Int)(m:Mem):CX Tryz.prog 104 #[.int .u8 k] m [] (Ret (.int .i64 (ZlW k))):=by
 apply Zj7
 refine Zab (λh=>Zaj (Mem.le_refl m) ?_) (λh=>⟨decide (k ≥ 2)&&decide (k<=7),Zab (λh2=>by rw[h2];rfl) (λh2=>by rw[h2];rfl),Zab (λh2=>Zaj (Mem.le_refl m) ?_) (λh2=>Zaj (Mem.le_refl m) ?_)⟩)
 all_goals
  show Value.int _ _=Value.int _ _
  congr 1
  unfold ZlW
 ·have:k=1:=by simpa using h
  rw[if_pos this]
 ·have h1:¬k=1:=by simpa using h
  simp only[zA7,decide_eq_true_eq]at h2
  rw[if_neg h1,if_pos (by omega)]
 ·have h1:¬k=1:=by simpa using h
  simp only[Bool.and_eq_false_iff,decide_eq_false_iff_not]at h2
  rw[if_neg h1,if_neg (by omega)]
def ZmE(l:List E):Int:=l.foldl (λn x=>if x.k=10 then(if x.g > n then x.g else n)else n) (-1)
theorem ZoW(t:E)(m:Mem)(hr:RepE m t):CX Tryz.prog 76 #[t.v] m [] (Ret (.int .i64 t.most)):=by
 apply Zj9
 intro b m1 aH _ b2
 refine Zar (ZdF t m1 (RepE.mono' hr aH)) λm2 aK=>Zab (λhl=>?_) (λh=>Zaj (mLt aH aK) (by simp[Ret,E.most,h]))
 refine Zam (Zez t m2) (λv m' css h=>by obtain⟨_,rfl,_⟩:=h;rfl) ?_
 rintro g fi ca m3 aR ⟨b3,hv,eZ⟩
 obtain⟨rfl,rfl,rfl⟩:=Zb4 hv
 have bM:=mLt aH (mLt aK aR)
 refine⟨_,Zdj t m3 b3 eZ (RepE.mono' hr bM),λy hy=>?_,λ_ css _ m' q=>css=[[.int .i64 (ZmE (t.nodes.take q))]],rfl,?_,?_⟩
 ·obtain⟨z,_,rfl⟩:=List.mem_map.1 hy;exact Zjc z
 ·rintro n0 v0 s0 n3 a n7 c cs m4 q bU hq bE b4
  obtain rfl:cs=[.int .i64 (ZmE (t.nodes.take q))]:=by simpa using bE
  have hq':(List.map (λz:E=>[z.v]) t.nodes)[(q:Nat)]?=some [Value.agg #[.int .u8 n0,v0,.string s0,.int .i64 n3,.slice a n7 c]]:=hq
  rw[List.getElem?_map]at hq'
  obtain⟨z,hz,fT⟩:=Option.map_eq_some_iff.1 hq'
  simp only[E.v,List.cons.injEq,Value.agg.injEq,Array.mk.injEq,Value.int.injEq,Value.string.injEq,Value.slice.injEq,true_and,and_true]at fT
  obtain⟨rfl,rfl,rfl,rfl,rfl,rfl,rfl⟩:=fT
  have hs:ZmE (t.nodes.take (q+1))=if z.k=10 then(if z.g > ZmE (t.nodes.take q)then z.g else ZmE (t.nodes.take q))else ZmE (t.nodes.take q):=by
   rw[List.take_add_one,hz]
   unfold ZmE
   rw[List.foldl_append];rfl
  refine Zaa rfl (Zab (λh=>Zah rfl (Zaa rfl ⟨by trivial,?_⟩)) (λh=>⟨by trivial,?_⟩))
  ·have hk:z.k=10:=by simpa using h
   show[[_]]=[[Value.int .i64 (ZmE (t.nodes.take (q+1)))]]
   rw[hs,if_pos hk];rfl
  ·have hk:¬z.k=10:=by simpa using h
   show[[_]]=[[Value.int .i64 (ZmE (t.nodes.take (q+1)))]]
   rw[hs,if_neg hk]
 ·rintro cs m4 bU bE
  obtain rfl:cs=[.int .i64 (ZmE (t.nodes.take t.nodes.length))]:=by simpa using bE
  refine Zah rfl (Zaj (mLt bM bU) ?_)
  rw[List.take_length]
  show Value.int _ _=Value.int _ t.most
  unfold E.most;rw[hl];rfl
theorem ZcR(m:Mem)(b:Nat)(cs:List Value):(m.add b cs).reads b 0 cs:=λj u hu=>by rw[Mem.add_same,Nat.zero_add];exact hu
abbrev Yn(v:Value):Nat->Prop:=λb=>(Tok.mk v 1).blk=some b
theorem Zuy{m m':Mem}{Y Y1:Nat->Prop}(h:(m.off Y).le m')(hn:∀b,Y1 b->Y b\/(m.free b/\m.k b=none)):(m.off Y).le (m'.off Y1):=by
 have no:∀b,Y1 b->(∀o,m.off Y b o=none)/\(m.off Y).k b=none:=λb hb=>by
  by_cases hY:Y b
  ·exact⟨Mem.off_free hY,Mem.off_kn hY⟩
  ·rcases hn b hb with h1|⟨h1,h2⟩
   ·exact absurd h1 hY
   ·exact⟨λo=>by rw[Mem.off_at hY];exact h1 o,by rw[Mem.off_k hY];exact h2⟩
 refine⟨λb o v hv=>?_,λb e he=>?_⟩
 ·by_cases hb:Y1 b
  ·rw[(no b hb).1 o]at hv;cases hv
  ·rw[Mem.off_at hb];exact h.c b o v hv
 ·by_cases hb:Y1 b
  ·rw[(no b hb).2]at he;cases he
  ·rw[Mem.off_k hb];exact h.k b e he
theorem Zru{m m':Mem}(h:m.le m'){b:Nat}(hf:m'.free b/\m'.k b=none):m.free b/\m.k b=none:=by
 refine⟨λo=>?_,?_⟩
 ·cases e:m b o with
  | none=>rfl
  | some v=>have:=h.c b o v e;rw[hf.1 o]at this;cases this
 ·cases e:m.k b with
  | none=>rfl
  | some v=>have:=h.k b v e;rw[hf.2]at this;cases this
structure NmSt (m:Mem)(v0:Value)(m':Mem)(a:Option Addr)(c:Nat)(l:List ByteArray):Prop where
 row:rowRd m' a (ZbV l)
 base:(m.off (Yn v0)).le (m'.off (Yn (.slice a l.length c)))
 new:∀b,Yn (.slice a l.length c) b->Yn v0 b\/(m.free b/\m.k b=none)
def NmR(v0:Value)(m:Mem)(l:List ByteArray):RTY:=λv m' css tvs=>∃a c,v=.slice a l.length c/\tvs=[.slice a l.length c]/\rowRd m' a (ZbV l)/\∀b,Yn (.slice a l.length c) b->Yn v0 b\/(m.free b/\m.k b=none)
theorem ZsA{v0 m l}:∀(v:Value)(m':Mem) (css:List (List Value)) (tvs:List Value),NmR v0 m l v m' css tvs->Shape.fits .slice v=true:=λv _ _ _ ⟨_,_,e,_⟩=>by rw[e];rfl
theorem NmSt.step{m m' m'':Mem}{v0:Value}{a a':Option Addr}{c c':Nat}{l l':List ByteArray}(h:NmSt m v0 m' a c l)(bM:(m'.off (Yn (.slice a l.length c))).le m'')(hr:rowRd m'' a' (ZbV l'))(hn:∀b,Yn (.slice a' l'.length c') b->Yn (.slice a l.length c) b\/(m'.free b/\m'.k b=none)):NmSt m v0 m'' a' c' l':=by
 refine⟨hr,mLt h.base (Zuy bM hn),λb hb=>?_⟩
 rcases hn b hb with h1|h1
 ·exact h.new b h1
 ·by_cases hY:Yn v0 b
  ·exact .inl hY
  ·have h2:=Zru h.base (b:=b) ⟨λo=>by
    by_cases dm:Yn (.slice a l.length c) b
    ·exact Mem.off_free dm o
    ·rw[Mem.off_at dm];exact h1.1 o,by
    by_cases dm:Yn (.slice a l.length c) b
    ·exact Mem.off_kn dm
    ·rw[Mem.off_k dm];exact h1.2⟩
   refine .inr ⟨λo=>?_,?_⟩
   ·have:=h2.1 o;rwa [Mem.off_at hY]at this
   ·have:=h2.2;rwa [Mem.off_k hY]at this
theorem ZdJ(l:List ByteArray):(ZbV l).length=l.length:=by unfold ZbV;exact List.length_map _
theorem ZmF(t:E):∀(out:List ByteArray)(a:Option Addr)(c:Nat)(m:Mem),rowRd m a (ZbV out)->RepE (m.off (Yn (.slice a out.length c))) t->(t.names out).length<=1000000->
  CXY Tryz.prog 142 #[.slice a out.length c,t.v] m (Yn (.slice a out.length c)) [] [⟨.slice a out.length c,1⟩] (NmR (.slice a out.length c) m (t.names out)):=by
 intro out a c m ho hr h1
 have dV:=Zoo t out
 have sV:RepE m t:=RepE.mono (Mem.off_le m _) t hr
 apply Zfl
 intro b m1 aH _ e7 _
 refine Zab (λhk=>?_) (λhk=>?_)
 ·have q9:t.k=9:=by simpa using hk
  have hN:=ZlV t out
  rw[if_pos q9]at hN
  have hE:(out.any λy=>eqS t.s y)=out.any λy=>y.toList == t.s.toList:=by
   congr 1;funext w;unfold eqS;exact Bool.beq_comm
  refine Zar (ZfZ out a c t.s m1 (by omega) (ho.mono aH)) λm2 aK=>Zab (λh=>?_) (λh b2 hf=>?_)
  ·rw[hE]at h
   rw[hN,h,if_pos rfl]
   exact⟨a,c,rfl,rfl,ho.mono (mLt aH aK),λb hb=>.inl hb⟩
  ·rw[hE]at h
   rw[h,if_neg (by decide)]at hN
   have bM:m2.le (m2.add b2 [.string t.s]):=Mem.le_add hf _
   have dq:=mLt aH (mLt aK bM)
   rw[hN,zA1,List.length_singleton]at h1
   refine⟨.inl rfl,ZbV out,[.string t.s],by rw[ZdJ];omega,rfl,ho.mono dq,.inr ⟨b2,0,rfl,ZcR m2 b2 _⟩,λu hu=>?_,by omega,by omega,λa' c' m3 aR aA hT=>?_⟩
   ·obtain rfl:u=.string t.s:=by simpa using hu
    rfl
   ·rw[hN]
    have e:(out++[t.s]).length=out.length+1:=by rw[zA1];rfl
    refine⟨a',c',by rw[e],by rw[e],by unfold ZbV at aA ⊢;rw[List.map_append];exact aA,λb' hb'=>?_⟩
    rcases hT.2 with h|⟨bb,oo,ha',h⟩
    ·rw[h]at hb';simp[Yn,Tok.blk]at hb'
    ·subst ha'
     obtain rfl:bb=b':=by simpa[Yn,Tok.blk]using hb'
     rcases h with h|⟨_,h2,h3⟩
     ·left;rw[h];simp[Yn,Tok.blk]
     ·exact .inr (Zru dq ⟨h2,h3⟩)
 ·have q9:¬t.k=9:=by simpa using hk
  have hN:=ZlV t out
  rw[if_neg q9]at hN
  rw[hN]at h1 ⊢
  have rb:=Zgw hr
  refine⟨λxs _ tks m' q=>∃(i:Nat)(a':Option Addr)(c':Nat),i<=t.subs.length/\xs=[.slice a' (Zbm (t.subs.take i) out).length c',.int .i64 i]/\tks=[.slice a' (Zbm (t.subs.take i) out).length c']/\NmSt m (.slice a out.length c) m' a' c' (Zbm (t.subs.take i) out)/\q=t.subs.length - i,
   ⟨_,0,a,c,by omega,by rw[List.take_zero];rfl,by rw[List.take_zero];rfl,by
    rw[List.take_zero]
    exact⟨ho.mono aH,Zuy (mLt (Mem.off_le m _) aH) λb hb=>.inl hb,λb hb=>.inl hb⟩,rfl⟩,?_⟩
  rintro a1 n1 c1 n a2 n2 c2 m2 q aK ⟨i,a',c',hi,hx,ht,hS,hq⟩
  simp only[List.cons.injEq,Value.slice.injEq,Value.int.injEq,and_true,true_and]at hx ht
  obtain⟨⟨ea,en,ec⟩,rfl⟩:=hx
  obtain⟨ea',en',ec'⟩:=ht
  subst a1 n1 c1 a2 n2 c2 q
  refine Zab (λaC=>?_) (λbF=>?_)
  ·have aP:i < t.subs.length:=by have:=zA6 aC;omega
   obtain⟨x,hx⟩:=Zcz aP
   have bW:=zA2 hx
   have aZ:=Zho bW
   rcases rb.2 with h|⟨b1,o1,ha,dR⟩
   ·rw[h]at aP;simp at aP
   obtain⟨cQ,dA⟩:=(dR.mono' hS.base).get hx
   have cQ:=cQ.mono (Mem.off_le m2 _)
   have hw:IntKind.i64.wrap ((i:Int)+1)=((i+1:Nat):Int):=by rw[Zai (by omega) (by omega)];rfl
   have ku:=Znz hx out
   have nf:=ZpS (l:=t.subs) (i:=i+1) out
   refine⟨b1,o1,ha,⟨by omega,by omega⟩,_,_,_,_,_,cQ,λb2=>Zaa rfl ?_⟩
   refine⟨_,_,ZmF x (Zbm (t.subs.take i) out) a' c' m2 hS.row dA (by rw[<-ku];omega),λt' ht' bb dk=>?_,λbb dk=>.inl ⟨_,by simp,dk⟩,ZsA,?_⟩
   ·obtain rfl:t'=_:=by simpa using ht'
    exact dk
   ·rintro a3 n3 c3 m3 aR _ a4 c4 d4 ⟨a5,c5,hv,bY,bH,kw⟩
    simp only[Value.slice.injEq]at hv
    obtain⟨e1,e2,e3⟩:=hv
    subst a3 n3 c3
    simp only[List.cons.injEq,Value.slice.injEq,and_true]at bY
    obtain⟨e1,e2,e3⟩:=bY
    subst a4 c4 d4
    rw[<-ku]at bH kw ⊢
    refine⟨rfl,rfl,t.subs.length - (i+1),by omega,i+1,a5,c5,by omega,by rw[hw],rfl,hS.step aR bH kw,rfl⟩
  ·have hi':i=t.subs.length:=by have:=of_decide_eq_false bF;omega
   subst hi'
   rw[List.take_length]at hS ⊢
   exact⟨a',c',rfl,rfl,hS.row,hS.new⟩
termination_by SizeOf.sizeOf t
decreasing_by exact aZ
theorem Zuz{P:Program}{g:FuncId}{args:Array Value}{m:Mem}{esz:Nat}{R:RTY}(h:CXY P g args m (Yn (.slice none 0 0)) [] [⟨.slice none 0 0,esz⟩] R):CX P g args m [] (λv m' css=>∃tvs,R v m' css tvs):=by
 have hY:∀b,¬Yn (.slice none 0 0) b:=λb hb=>by simp[Yn,Tok.blk]at hb
 have fh:m.le (m.off (Yn (.slice none 0 0))):=⟨λb o v hv=>by rw[Mem.off_at (hY b)];exact hv,λb e he=>by rw[Mem.off_k (hY b)];exact he⟩
 refine⟨h.1,λw h1 h2 h3=>(h.2 w h1 (by simp) (by simp) (λt ht=>?_) (λi j t t' b hi hj hb=>?_) (λb hb=>absurd hb (hY b))).mono ?_⟩
 ·obtain rfl:t=_:=by simpa using ht
  exact⟨.inl rfl,λb hb=>by simp[Tok.blk]at hb⟩
 ·intro _
  have hi:=zA2 hi
  obtain rfl:t=_:=by simpa using hi
  simp[Tok.blk]at hb
 ·rintro e w' ⟨v,m',css,tvs,a1,a2,a3,a4,a5,a6,a7,a8,a9,a10,a11⟩
  exact⟨v,m',css,a1,mLt fh a2,a3,a4.mono λb hb=>hb.resolve_left (hY b),⟨a5.os,a5.tape,a5.output,a5.size,λk hk _=>a5.block k hk (λhm=>hm.elim (by simp) (hY k)),a5.wr⟩,a6,a7,tvs,a11⟩
def Zs6(l:List ByteArray):Value->Mem->List (List Value)->Prop:=λv m' _=>∃a c,v=.slice a l.length c/\rowRd m' a (ZbV l)
theorem Zgd{l}:∀(v:Value)(m':Mem) (css:List (List Value)),Zs6 l v m' css->Shape.fits .slice v=true:=λv _ _ ⟨_,_,e,_⟩=>by rw[e];rfl
theorem ZsB(t:E)(m:Mem)(hr:RepE m t):CX Tryz.prog 109 #[t.v] m [] (Zs6 t.vars):=by
 apply Zj8
 intro b m1 aH _
 refine Zar (ZdF t m1 (RepE.mono' hr aH)) λm2 aK=>Zab (λh=>Zaj (mLt aH aK) ?_) (λh=>?_)
 ·have hl:t.light=false:=by simpa using h
  have:t.vars=[]:=by unfold E.vars;rw[hl];rfl
  rw[this]
  exact⟨none,0,rfl,.inl rfl⟩
 ·have hl:t.light=true:=by simpa using h
  have hv:t.vars=t.names []:=by unfold E.vars;rw[hl];rfl
  have h1:(t.names []).length<=1000000:=by
   have h2:=Zdy t []
   have h3:=zA6 (show decide (t.nodes.length<=10000)=true from hl)
   simp only[List.length_nil]at h2
   omega
  rw[hv]
  have fh:m2.le (m2.off (Yn (.slice none 0 0))):=⟨λb o v hv=>by rw[Mem.off_at (λhb=>by simp[Yn,Tok.blk]at hb)];exact hv,λb e he=>by rw[Mem.off_k (λhb=>by simp[Yn,Tok.blk]at hb)];exact he⟩
  have key:=Zuz (ZmF t [] none 0 m2 (.inl rfl) (RepE.mono' hr (mLt aH (mLt aK fh))) h1)
  refine Zam key (λv m' css ⟨_,_,_,e,_⟩=>by rw[e];rfl) ?_
  rintro a n c m3 aR ⟨tvs,a',c',hv',_,aA,_⟩
  simp only[Value.slice.injEq]at hv'
  obtain⟨rfl,rfl,rfl⟩:=hv'
  exact ZaA (mLt aH (mLt aK aR)) ⟨_,_,rfl,aA⟩
theorem ZmG(e:E)(m:Mem)(he:RepE m e):CX Tryz.prog 60 #[e.v] m [] (Ret (.int .i64 (nE e))):=by
 apply Zkp
 intro b m1 aH _
 refine Zar (ZdF e m1 (RepE.mono' he aH)) λm2 aK=>Zab (λh=>Zaj (mLt aH aK) ?_) (λh=>?_)
 ·have hl:e.light=false:=by simpa using h
  unfold nE;rw[hl];rfl
 ·have hl:e.light=true:=by simpa using h
  exact Zb3 (Zsn e m2 (RepE.mono' he (mLt aH aK))) λm3 aR=>Zaj (mLt aH (mLt aK aR)) (by unfold nE;rw[hl];rfl)
end Go.Proofs.YtpjepnkiiojgfaaGreat
end
