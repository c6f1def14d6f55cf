/- Part of the proof: functions of the program. No condition. -/
import Derived.Test.YtojlhhphofhaoaaGreatDoorPC25MC
import Derived.Test.YtojlhhphofhaoaaGreatDoorPVET
import Derived.Test.YtojlhhphofhaoaaGreatDoorPVEN
import Derived.Test.YtojlhhphofhaoaaGreatDoorMr
import Derived.Test.YtojlhhphofhaoaaGreatDoorPEnv
import Derived.KernelRfl
set_option linter.unusedVariables false
set_option linter.unusedSimpArgs false
set_option linter.unusedSectionVars false
noncomputable section
namespace Go.Proofs.YtojlhhphofhaoaaGreatDoor
open Go Go.Eng Go.Rx Go.Proofs Go.RowKit
set_option maxRecDepth 100000
theorem Zk3{α:Type}{cs:α->List Value}{n:Nat}(hn:∀x,(cs x).length=n)(h1:∀x,∀u∈cs x,u.oneCell'=true){m3:Mem}{b3:Nat}(hf:m3.free b3){a:Option Addr}{ts:List α}(t:α)(aM:rowRd m3 a (ts.map cs).flatten)(sz:Nat)(bH:(ts.length+1)*sz<=140737488355328)(hl:ts.length<=1000000){P Q:Prop}(hp:P\/Q){K:Option Addr->Nat->Mem->Prop}
  (k:∀(a':Option Addr)(c':Nat)(m4:Mem),(m3.add b3 (cs t)).le m4->rowRd m4 a' ((ts++[t]).map cs).flatten->ts.length+1<=c'->K a' c' m4):
  (P\/Q)/\∃xs ys:List Value,xs.length=ts.length*n/\ys.length=1*n/\rowRd (m3.add b3 (cs t)) a xs/\rowRd (m3.add b3 (cs t)) (some ⟨b3,0,none⟩) ys/\(∀u:Value,u∈ys->u.oneCell'=true)/\(ts.length+1)*sz<=140737488355328/\ts.length+1<=9223372036854775807/\
   ∀(a':Option Addr)(c':Nat)(m4:Mem),(m3.add b3 (cs t)).le m4->rowRd m4 a' (List.append xs ys)->ts.length+1<=c'->K a' c' m4:=
 ⟨hp,(ts.map cs).flatten,cs t,Za3 hn ts,by rw[hn,Nat.one_mul],aM.mono (Mem.le_add hf _),ZbO,h1 t,bH,by omega,λa' c' m4 hm hr hc=>k a' c' m4 hm (by rw[Zk0];exact hr) hc⟩
structure SSta where
 a:Option Addr
 l:List SRul
 d:Nat
def SSta.cs(x:SSta):List Value:=[.slice x.a x.l.length x.d]
theorem SSta.len(x:SSta):x.cs.length=1:=rfl
structure RepSS (m:Mem)(x:SSta):Prop where
 l:x.l.length<=1000000000000000
 d:x.l.length<=x.d
 row:rowRd m x.a (x.l.map SRul.cs).flatten
 all:∀r∈x.l,RepSR m r
theorem RepSS.mono{m m':Mem}{x:SSta}(h:RepSS m x)(hm:m.le m'):RepSS m' x:=⟨h.l,h.d,h.row.mono hm,λa ha=>(h.all a ha).mono hm⟩
structure SScr where
 n:Nat
 va:Option Addr
 vl:List Nat
 vd:Nat
 sa:Option Addr
 sl:List SSta
 sd:Nat
def SScr.cs(x:SScr):List Value:=[.int .u8 x.n,.slice x.va x.vl.length x.vd,.slice x.sa x.sl.length x.sd]
theorem SScr.len(x:SScr):x.cs.length=3:=rfl
structure RepSC (m:Mem)(x:SScr):Prop where
 n:x.n < 256
 v:BytU m x.va x.vl
 vl:x.vl.length<=1000000000000000
 sl:x.sl.length<=1000000000000000
 sd:x.sl.length<=x.sd
 row:rowRd m x.sa (x.sl.map SSta.cs).flatten
 all:∀s∈x.sl,RepSS m s
theorem RepSC.mono{m m':Mem}{x:SScr}(h:RepSC m x)(hm:m.le m'):RepSC m' x:=⟨h.n,h.v.mono hm,h.vl,h.sl,h.sd,h.row.mono hm,λa ha=>(h.all a ha).mono hm⟩
def ByR:Value->Mem->List (List Value)->Prop:=λv _ _=>∃n:Nat,v=.int .i64 n/\n < 256
theorem Zvj:∀(v:Value)(m':Mem) (css:List (List Value)),ByR v m' css->Shape.fits (.int .i64) v=true:=λv _ _ ⟨_,h,_⟩=>by rw[h];rfl
theorem Zyr(x:SScr)(b:Nat)(i:Nat)(m:Mem)(hb:m.reads b 0 x.cs)(hx:RepSC m x)(hi:i<=1000):CX Tryz.prog 31 #[.int .i64 i,.pointer (some ⟨b,0,none⟩)] m [] ByR:=by
 apply ZhH
 have h1:=hb 1 _ rfl
 refine⟨_,h1,Zaa rfl (Zab (λh=>ZaJ (Mem.le_refl _) ⟨0,rfl,by omega⟩) (λh=>⟨_,h1,_,h1,Zaa rfl ⟨?_,Zaa rfl ?_⟩⟩))⟩
 ·show(x.vl.length:Int)≠0
  have:¬((x.vl.length:Int)=0):=by simpa[slN]using h
  exact this
 have h0:x.vl.length≠0:=by
  intro e
  have:¬((x.vl.length:Int)=0):=by simpa[slN]using h
  omega
 have aO:i % x.vl.length < x.vl.length:=Nat.mod_lt _ (by omega)
 obtain⟨n,hn⟩:=ZaP aO
 obtain⟨jF,b1,o1,jO,eX⟩:=hx.v.get hn
 have lK:Int.tmod (i:Int) ((slN (.slice x.va x.vl.length x.vd):Nat):Int)=((i % x.vl.length:Nat):Int):=rfl
 refine⟨b1,o1,jO,by rw[lK];exact⟨by omega,by show((i % x.vl.length:Nat):Int) < (x.vl.length:Nat);omega⟩,_,by rw[lK,zA8];exact eX,_,rfl,ZaJ (Mem.le_refl _) ⟨n,?_,jF⟩⟩
 rw[Zam (by omega) (by omega)]
theorem ZzQ(n:Int):ConvIs Tryz.prog 3 87 (.int .i64 n) (.float .f64 (FloatKind.f64.nearest n)):=λw=>by
 simp[convert,Tryz.underlying3,Tryz.underlying87,Conv.intToFloat]
theorem ZBh:∀n:Fin 5,((FloatKind.f64.format.div (FloatKind.f64.nearest (n:Nat)) 4611686018427387904).any Zfg)=true:=by decide +kernel
theorem ZBi:∀j < 5,∃s:ByteArray,[Value.string ⟨#[]⟩,.string ⟨#[97]⟩,.string ⟨#[98,98]⟩,.string ⟨#[49]⟩,.string ⟨#[48,46,53]⟩][j*1]?=some (.string s)/\s.size<=3:=by
 intro j hj
 have:j=0\/j=1\/j=2\/j=3\/j=4:=by omega
 rcases this with rfl|rfl|rfl|rfl|rfl <;> exact⟨_,rfl,by decide⟩
theorem Va.one(a:Va):∀u∈a.cs,u.oneCell'=true:=by
 intro u hu
 simp only[Va.cs,List.mem_cons,List.not_mem_nil,or_false]at hu
 rcases hu with rfl|rfl|rfl|rfl <;> rfl
theorem Sta.one(a:Sta):∀u∈a.cs,u.oneCell'=true:=by
 intro u hu
 simp only[Sta.cs,List.mem_cons,List.not_mem_nil,or_false]at hu
 rcases hu with rfl|rfl <;> rfl
theorem Ru.one(a:Ru):∀u∈a.cs,u.oneCell'=true:=by
 intro u hu
 simp only[Ru.cs,List.mem_cons,List.not_mem_nil,or_false]at hu
 rcases hu with rfl|rfl|rfl|rfl|rfl|rfl|rfl|rfl|rfl|rfl|rfl|rfl|rfl|rfl|rfl|rfl <;> rfl
def ScR:Value->Mem->List (List Value)->Prop:=λv m' _=>∃s:Sc,v=s.v/\RepC m' s/\MkC s
theorem Zys:∀(v:Value)(m':Mem) (css:List (List Value)),ScR v m' css->Shape.fits (.agg [.int .i64,.slice,.slice]) v=true:=λv _ _ ⟨_,h,_⟩=>by rw[h];rfl
theorem Zsc{α:Type}{L:List α}{t:α}{P:Nat->α->Prop}(h:∀j v,L[j]?=some v->P j v)(ht:P L.length t):∀j v,(L++[t])[j]?=some v->P j v:=by
 intro j v hv
 rcases Nat.lt_or_ge j L.length with aO|bM
 ·rw[zA5 aO]at hv;exact h j v hv
 ·have hj:=(zA0 hv).1
  rw[zA1,List.length_singleton]at hj
  obtain rfl:j=L.length:=by omega
  simp at hv;subst hv;exact ht
theorem Zyt{i:Nat}{v:Va}(h:MkV i v):RepV v:=by
 have hm:=zA2 h.name
 refine⟨?_,?_⟩
 ·rcases List.mem_append.1 hm with hm|hm
  ·have:=Zk1 _ hm;omega
  ·have:=Zk2 _ hm;omega
 ·rcases h.kind with⟨_,_,h,_⟩|⟨_,_,h,_⟩
  ·rw[h,ZaH];omega
  ·omega
set_option maxHeartbeats 2000000 in
theorem Zyu(x:SScr)(m:Mem)(hx:RepSC m x):CX Tryz.prog 9 #[.agg x.cs.toArray] m [] ScR:=by
 apply ZkS
 intro b m1 aB hb b1
 have eA:=hx.mono aB
 have sq:Int.tmod (x.n:Int) 11=((x.n % 11:Nat):Int):=rfl
 have l9:IntKind.i64.wrap (2+IntKind.i64.wrap (Int.tmod (x.n:Int) 11))=((2+x.n % 11:Nat):Int):=by rw[sq,Zam (n:=((x.n % 11:Nat):Int)) (by omega) (by omega),Zam (by omega) (by omega)];omega
 have sr:x.n % 11 < 11:=Nat.mod_lt _ (by omega)
 refine⟨_,rfl,by omega,λb2=>Zai (Zic m1) Zdp ?_⟩
 rintro a0 n0 c0 m2 aN ⟨a',c',ly,gp⟩
 simp only[Value.slice.injEq]at ly
 obtain⟨rfl,rfl,rfl⟩:=ly
 rw[l9]
 generalize x.n % 11=u at sr
 have dH:=mLt aB aN
 refine⟨λxs css tvs m' q=>∃(L:List Va)(a:Option Addr)(d:Nat),L.length<=4/\xs=[.int .i64 L.length]/\css=[[.int .i64 ((2+u:Nat):Int),.slice a L.length d,.slice none 0 0]]/\tvs=[.slice a L.length d]/\L.length<=d/\rowRd m' a (L.map Va.cs).flatten/\(∀j v,L[j]?=some v->MkV j v)/\q=4 - L.length,⟨4,[],none,0,by simp,rfl,rfl,rfl,by simp,.inl rfl,by simp,rfl⟩,?_⟩
 rintro z cs a n1 d m3 q aX ⟨L,a',d',xP,hz,cK,cY,wB,aM,iA,rfl⟩
 simp only[List.cons.injEq,Value.slice.injEq,Value.int.injEq,true_and,and_true]at hz cK cY
 obtain⟨rfl,rfl,rfl⟩:=cY
 subst hz cK
 have pA:=mLt aN aX
 refine Zau (λaO=>?_) (λbM=>?_)
 ·have aW:L.length < 4:=by have:(L.length:Int) < (Zjy.length:Nat):=aO;have:Zjy.length=4:=rfl;omega
  obtain⟨s,hs⟩:=ZaP (l:=Zjy) (k:=L.length) aW
  obtain⟨b3,o3,gq,cC⟩:=ZcJ (gp.mono aX) hs
  refine⟨b3,o3,gq,⟨by omega,aO⟩,_,cC,s,rfl,λ_ _ _=>ByR,Zap rfl ⟨_,rfl,Zyr x b L.length m3 (hb.mono pA) (eA.mono pA) (by omega),Zvj,?_⟩⟩
  rintro n4 m4 bI ⟨n,hn,jF⟩
  obtain rfl:n4=n:=by simpa using hn
  have hq:=ZBh ⟨n % 5,Nat.mod_lt _ (by omega)⟩
  obtain⟨r,hr,gt⟩:=(Option.any_eq_true ..).1 hq
  have hr:FloatKind.f64.format.div (FloatKind.f64.nearest ((n % 5:Nat):Int)) 4611686018427387904=some r:=hr
  have qB:Int.tmod (n:Int) 5=((n % 5:Nat):Int):=rfl
  refine⟨by omega,_,ZzQ _,_,by rw[qB];exact Zvg _ hr,Zaa rfl (Zaa rfl (Zaa rfl λb5 jo=>Zaa rfl ?_))⟩
  have hw:IntKind.i64.wrap ((L.length:Int)+1)=((L.length+1:Nat):Int):=by rw[Zam (by omega) (by omega)];rfl
  refine Zk3 Va.len Va.one jo (⟨s,true,.empty,r⟩:Va) (aM.mono bI) 48 (by omega) (by omega) (.inl rfl) λa6 c6 m6 iR iY nt=>Zaa rfl λM _ _ _ hM=>⟨rfl,4 - (L.length+1),by omega,L++[⟨s,true,.empty,r⟩],a6,c6,by rw[zA1];exact aW,by rw[hw,zA1];rfl,by rw[zA1];rfl,by rw[zA1];rfl,by rw[zA1];exact nt,iY.mono hM,Zsc iA ⟨by rw[zA5 aW];exact hs,.inl ⟨aW,rfl,rfl,gt⟩⟩,by rw[zA1];rfl⟩
 have hL:L.length=4:=by have:¬(L.length:Int) < (Zjy.length:Nat):=bM;have:Zjy.length=4:=rfl;omega
 refine Zai (Zny m3) Zdp ?_
 rintro a5 n5 c5 m4 bI ⟨a',c',hU,gx⟩
 simp only[Value.slice.injEq]at hU
 obtain⟨rfl,rfl,rfl⟩:=hU
 have jh:=mLt pA bI
 refine⟨λxs css tvs m' q=>∃(W:List Va)(a:Option Addr)(d i:Nat),i<=2/\W.length=4+i/\xs=[.int .i64 i]/\css=[[.int .i64 ((2+u:Nat):Int),.slice a W.length d,.slice none 0 0]]/\tvs=[.slice a W.length d]/\W.length<=d/\rowRd m' a (W.map Va.cs).flatten/\(∀j v,W[j]?=some v->MkV j v)/\q=2 - i,⟨2,L,a,d,0,by omega,by omega,rfl,rfl,rfl,wB,aM.mono bI,iA,rfl⟩,?_⟩
 rintro z cs a7 n7 d7 m5 q cP ⟨W,a',d',i,iK,wC,hz,cK,cY,ue,kO,lL,rfl⟩
 simp only[List.cons.injEq,Value.slice.injEq,Value.int.injEq,true_and,and_true]at hz cK cY
 obtain⟨rfl,rfl,rfl⟩:=cY
 subst hz cK
 have ss:=mLt jh cP
 refine Zau (λaO=>?_) (λbM=>?_)
 ·have aW:i < 2:=by have:(i:Int) < (ZeY.length:Nat):=aO;have:ZeY.length=2:=rfl;omega
  obtain⟨s,hs⟩:=ZaP (l:=ZeY) (k:=i) aW
  obtain⟨b3,o3,gq,cC⟩:=ZcJ (gx.mono cP) hs
  have rY:IntKind.i64.wrap ((i:Int)+4)=((i+4:Nat):Int):=by rw[Zam (by omega) (by omega)];rfl
  have hw:IntKind.i64.wrap ((i:Int)+1)=((i+1:Nat):Int):=by rw[Zam (by omega) (by omega)];rfl
  rw[rY,hw]
  refine⟨b3,o3,gq,⟨by omega,aO⟩,_,cC,s,rfl,λ_ _ _=>ByR,Zap rfl λb4 iX=>⟨_,rfl,Zyr x b (i+4) m5 (hb.mono ss) (eA.mono ss) (by omega),Zvj,?_⟩⟩
  rintro n4 m6 iR ⟨n,hn,jF⟩
  obtain rfl:n4=n:=by simpa using hn
  have qB:Int.tmod (n:Int) 5=((n % 5:Nat):Int):=rfl
  have h5:n % 5 < 5:=Nat.mod_lt _ (by omega)
  obtain⟨s1,pq,md⟩:=ZBi (n % 5) h5
  refine⟨by omega,by rw[qB];exact⟨by omega,by omega⟩,λV _ _ _=>Zap (by rw[qB,zA8];exact pq) ⟨s1,rfl,λV2 wD _ _ b5 jo=>Zaa rfl ?_⟩⟩
  refine Zk3 Va.len Va.one jo (⟨s,false,s1,0⟩:Va) (kO.mono wD) 48 (by omega) (by omega) (.inl rfl) λa6 c6 m7 jm iY nt=>Zaa rfl λM _ _ _ _ hM=>⟨rfl,rfl,2 - (i+1),by omega,W++[⟨s,false,s1,0⟩],a6,c6,i+1,by omega,by rw[zA1];simp;omega,rfl,by rw[zA1];rfl,by rw[zA1];rfl,by rw[zA1];exact nt,iY.mono hM,Zsc lL ⟨by rw[wC,zA4 (show Zjy.length<=4+i by show 4<=_;omega)];show ZeY[4+i - 4]?=_;rw[show 4+i - 4=i by omega];exact hs,.inr ⟨by omega,rfl,md,rfl⟩⟩,rfl⟩
 have hW:W.length=6:=by have:¬(i:Int) < (ZeY.length:Nat):=bM;have:ZeY.length=2:=rfl;omega
 have fX:=hx.sl
 have xQ:=hx.sd
 have hN:(if(4:Int) < (x.sl.length:Int)then(4:Int)else(x.sl.length:Int))=((min 4 x.sl.length:Nat):Int):=by split <;> omega
 simp only[hN,zA8,Nat.sub_zero]
 generalize qx:min 4 x.sl.length=N
 refine⟨⟨by omega,by omega⟩,λxs css tvs m' q=>∃(S:List Sta)(a:Option Addr)(e:Nat),S.length<=N/\xs=[.int .i64 S.length]/\css=[[.int .i64 ((2+u:Nat):Int),.slice a7 W.length d7,.slice a S.length e]]/\tvs=[.slice a S.length e]/\S.length<=e/\rowRd m' a (S.map Sta.cs).flatten/\(∀y∈S,RepS m' y)/\(∀j y,S[j]?=some y->MkS N j y)/\q=N - S.length,⟨N,[],none,0,by simp,rfl,rfl,rfl,by simp,.inl rfl,by simp,by simp,rfl⟩,?_⟩
 rintro z cs a8 n8 d8 m6 q iR ⟨S,a',d',xR,hz,cK,cY,wE,jG,mq,pB,rfl⟩
 simp only[List.cons.injEq,Value.slice.injEq,Value.int.injEq,true_and,and_true]at hz cK cY
 obtain⟨rfl,rfl,rfl⟩:=cY
 subst hz cK
 have qu:=mLt ss iR
 have nk:=eA.mono qu
 have uf:∀v∈W,RepV v:=λv hv=>by
  obtain⟨j,hj⟩:=List.getElem?_of_mem hv
  exact Zyt (lL j v hj)
 refine Zau (λaO=>?_) (λbM=>?_)
 ·have aW:S.length < N:=by omega
  obtain⟨y,hy⟩:=ZaP (l:=x.sl) (k:=S.length) (by omega)
  obtain⟨b3,o3,gq,gy⟩:=Zan SSta.len nk.row hy (by omega)
  have mS:=nk.all y (zA2 hy)
  refine⟨b3,o3,gq,⟨by omega,aO⟩,_,gy 0 _ rfl,Zai (Zpz m6) Zdp ?_⟩
  rintro a9 n9 c9 m7 jm ⟨a',c',ug,mT⟩
  simp only[Value.slice.injEq]at ug
  obtain⟨rfl,rfl,rfl⟩:=ug
  obtain⟨s,hs⟩:=ZaP (l:=Zw8) (k:=S.length) (by show S.length < 4;omega)
  obtain⟨b4,o4,nq,cC⟩:=ZcJ mT hs
  have gC:=mS.l
  have xS:=mS.d
  have wF:(if(5:Int) < (slN (.slice y.a y.l.length y.d):Nat)then(5:Int)else(slN (.slice y.a y.l.length y.d):Nat))=((min 5 y.l.length:Nat):Int):=by
   show(if(5:Int) < (y.l.length:Int)then(5:Int)else(y.l.length:Int))=_
   split <;> omega
  have wG:=mS.mono jm
  refine⟨b4,o4,nq,⟨by omega,by show(S.length:Int) < (4:Nat);omega⟩,_,cC,s,rfl,λb5=>Zaa rfl (Zaa rfl ?_)⟩
  simp only[wF,zA8,Nat.sub_zero]
  generalize ql:min 5 y.l.length=K
  have wH:=Znt s (zA2 hs)
  refine⟨⟨by omega,by show((K:Nat):Int)<=(y.d:Nat);omega⟩,λxs css tvs m' q=>∃(T:List Ru)(a:Option Addr)(e:Nat),T.length<=K/\xs=[.int .i64 T.length]/\css=[[.string s,.slice a T.length e]]/\tvs=[.slice a T.length e]/\rowRd m' a (T.map Ru.cs).flatten/\(∀r∈T,RepR m' r)/\(∀r∈T,MkR N r)/\q=K - T.length,⟨K,[],none,0,by simp,rfl,rfl,rfl,.inl rfl,by simp,by simp,rfl⟩,?_⟩
  rintro z cs a10 n10 d10 m8 q gZ ⟨T,a',d',xU,hz,cK,cY,mr,mt,pC,rfl⟩
  simp only[List.cons.injEq,Value.slice.injEq,Value.int.injEq,true_and,and_true]at hz cK cY
  obtain⟨rfl,rfl,rfl⟩:=cY
  subst hz cK
  refine Zau (λeG=>?_) (λeN=>?_)
  ·have kG:T.length < K:=by omega
   obtain⟨r,hr⟩:=ZaP (l:=y.l) (k:=T.length) (by omega)
   have uh:=wG.mono gZ
   obtain⟨b6,o6,iS,fM⟩:=Zan SRul.len uh.row hr (by omega)
   have hw:IntKind.i64.wrap ((T.length:Int)+1)=((T.length+1:Nat):Int):=by rw[Zam (by omega) (by omega)];rfl
   refine⟨b6,o6,iS,⟨by omega,eG⟩,_,_,_,_,_,_,fM,λb7=>Zaa rfl ⟨λ_ _ _=>RuR N,Zap rfl ⟨_,rfl,ZwA r N m8 (uh.all r (zA2 hr)) (by omega),Zyo,?_⟩⟩⟩
   rintro k1 k2 k3 k4 k5 k6 k7 k8 k9 k10 ka kb kc ks kd ke kf kg kh ki m9 nX ⟨w,hv,ln,so⟩ b10 nC
   simp only[Ru.cs,Value.agg.injEq,Array.mk.injEq,List.cons.injEq,Value.int.injEq,Value.bool.injEq,Value.string.injEq,Value.slice.injEq,true_and,and_true]at hv
   obtain⟨rfl,rfl,rfl,rfl,rfl,rfl,rfl,rfl,rfl,rfl,⟨rfl,rfl,rfl⟩,rfl,rfl,⟨rfl,rfl,rfl⟩,rfl,rfl⟩:=hv
   refine Zaa rfl ?_
   refine Zk3 Ru.len Ru.one nC w (mr.mono nX) 168 (by omega) (by omega) (.inl rfl) λa5 c5 m5 cP cE _=>Zaa rfl λM _ gD iq jr=>⟨trivial,trivial,K - (T.length+1),by omega,T++[w],a5,c5,by rw[zA1];exact kG,by rw[hw,zA1];rfl,by rw[zA1];rfl,by rw[zA1];rfl,cE.mono jr,?_,?_,by rw[zA1];rfl⟩
   ·intro z hz
    rcases List.mem_append.1 hz with hz|hz
    ·exact(mt z hz).mono (mLt nX gD)
    ·rw[List.mem_singleton]at hz;subst hz;exact ln.mono gD
   ·intro z hz
    rcases List.mem_append.1 hz with hz|hz
    ·exact pC z hz
    ·rw[List.mem_singleton]at hz;subst hz;exact so
  ·have hw:IntKind.i64.wrap ((S.length:Int)+1)=((S.length+1:Nat):Int):=by rw[Zam (by omega) (by omega)];rfl
   have ui:=mLt jm gZ
   refine Zap rfl (Zaa rfl λb6 iz=>Zaa rfl ?_)
   refine Zk3 Sta.len Sta.one iz (⟨s,a10,d10,T⟩:Sta) (jG.mono ui) 40 (by omega) (by omega) (.inl rfl) λa5 c5 m5 cP cE r5=>Zaa rfl ⟨trivial,trivial,N - (S.length+1),by omega,S++[⟨s,a10,d10,T⟩],a5,c5,by rw[zA1];exact aW,by rw[hw,zA1];rfl,by rw[zA1];rfl,by rw[zA1];rfl,by rw[zA1];exact r5,cE,?_,Zsc pB ⟨hs,by show T.length<=5;omega,pC⟩,by rw[zA1];rfl⟩
   have fI:=mLt (Mem.le_add iz (⟨s,a10,d10,T⟩:Sta).cs) cP
   intro z hz
   rcases List.mem_append.1 hz with hz|hz
   ·exact(mq z hz).mono (mLt ui fI)
   ·rw[List.mem_singleton]at hz;subst hz
    exact⟨by show s.size<=_;omega,by show T.length<=few;unfold few;omega,mr.mono fI,λr hr=>(mt r hr).mono fI⟩
 ·have wI:S.length=N:=by omega
  have j3:=mLt aB qu
  have pD:W.length<=few:=by unfold few;omega
  have hn:I64 ((2+u:Nat):Int):=by unfold I64;omega
  have pE:m5.le m6:=iR
  refine Zap rfl (Zaa rfl (Zab (λh0=>λb3 iQ=>Zaa rfl (Zaa rfl ?_)) (λh0=>Zaa rfl (ZaJ j3 ⟨⟨((2+u:Nat):Int),a7,d7,W,a8,d8,S⟩,rfl,⟨hn,pD,kO.mono pE,uf,by show S.length<=few;unfold few;omega,jG,mq,ue,wE⟩,⟨by show 2<=((2+u:Nat):Int)/\((2+u:Nat):Int)<=12;omega,hW,lL,?_,?_⟩⟩))))
  ·have fI:=Mem.le_add iQ [Value.string ⟨#[97]⟩,.slice none 0 0]
   refine ZaJ (mLt j3 fI) ⟨⟨((2+u:Nat):Int),a7,d7,W,some ⟨b3,0,none⟩,1,[⟨⟨#[97]⟩,none,0,[]⟩]⟩,rfl,⟨hn,pD,(kO.mono pE).mono fI,uf,by show 1<=few;unfold few;omega,ZbO,?_,ue,by show 1<=1;omega⟩,⟨by show 2<=((2+u:Nat):Int)/\((2+u:Nat):Int)<=12;omega,hW,lL,by show 1<=1/\1<=4;omega,?_⟩⟩
   ·intro y hy
    rw[List.mem_singleton]at hy;subst hy
    exact⟨by show(ByteArray.mk #[97]).size<=_;decide,by show 0<=few;omega,.inl rfl,by simp⟩
   ·intro j y hy
    have:j=0:=by have:=(zA0 hy).1;simp at this;omega
    subst this
    simp at hy;subst hy
    exact⟨rfl,by show 0<=5;omega,by simp⟩
  ·have:¬((S.length:Int)=0):=by simpa[slN]using h0
   show 1<=S.length/\S.length<=4
   omega
  ·intro j y hy
   show MkS S.length j y
   rw[wI];exact pB j y hy
def ZAJ(o:Option Nat):Int:=match o with
 | none=>-1
 | some t=>(t:Nat)
def ZzR(o:Option Nat):Value:=.tuple #[.int .i64 (Zw5 o),.bool o.isSome]
theorem ZwB(o:Option Nat):(if(0:Int) > ZAJ o then(0:Int)else ZAJ o)=Zw5 o:=by
 cases o with
 | none=>rfl
 | some t=>show(if(0:Int) > (t:Nat)then _ else _)=((t:Nat):Int);rw[if_neg (by omega)];rfl
theorem Zyv(o:Option Nat):decide (ZAJ o ≥ 0)=o.isSome:=by
 cases o with
 | none=>rfl
 | some t=>exact decide_eq_true (show((t:Nat):Int) ≥ 0 by omega)
set_option maxHeartbeats 1000000 in
theorem Zsd(l:List Ru)(a:Option Addr)(c:Nat)(g1 g2:Nat)(cnt:Ru->Bool)(key:Ru->Int)(m:Mem)(hl:l.length<=1000000)(hr:rowRd m a (l.map Ru.cs).flatten)
  (h1:∀x∈l,∀m',m.le m'->CX Tryz.prog g1 #[.agg x.cs.toArray] m' [] (Ret (.bool (cnt x)))) (h2:∀x∈l,∀m',m.le m'->CX Tryz.prog g2 #[.agg x.cs.toArray] m' [] (Ret (.int .i64 (key x)))):
  CX Tryz.prog 83 #[.slice a l.length c,.func (.func g1) #[] #[],.func (.func g2) #[] #[]] m [] (Ret (ZzR (ZxU l cnt key))):=by
 apply Zc6 a l.length c g1 [] [] g2 [] []
 refine⟨λxs _ _ m' q=>∃i:Nat,i<=l.length/\xs=[.int .i64 (ZAJ (Zdw l cnt key i)),.int .i64 i]/\q=l.length - i,⟨l.length,0,by omega,rfl,rfl⟩,?_⟩
 rintro n n1 m1 q aB ⟨i,hi,hx,rfl⟩
 simp only[List.cons.injEq,Value.int.injEq,true_and,and_true]at hx
 obtain⟨rfl,rfl⟩:=hx
 have hw:IntKind.i64.wrap ((i:Int)+1)=((i+1:Nat):Int):=by rw[Zam (by omega) (by omega)];rfl
 refine Zau (λaO=>?_) (λbM=>Zac aB ?_)
 ·have aW:i < l.length:=by omega
  obtain⟨x,hx⟩:=ZcG aW
  have jR:=zA2 hx
  have cU:=ZqC (cnt:=cnt) (key:=key) hx
  obtain⟨b,o,ha,cS⟩:=Zan Ru.len (hr.mono aB) hx (by omega)
  refine⟨b,o,ha,⟨by omega,aO⟩,_,_,_,_,_,_,_,_,_,_,_,_,_,_,_,_,cS,λb1=>Zaa rfl ?_⟩
  refine⟨λk _ _=>if k=2 then Ret (.bool (cnt x))else if k=9 then Ret (.int .i64 (key x))else Ret (.int .i64 (key ((l[(Zdw l cnt key i).getD 0]?).getD x))),_,rfl,h1 x jR m1 aB,λv _ _ e=>by rw[show v=_ from e];rfl,?_⟩
  intro bb m2 aN hb
  obtain rfl:bb=cnt x:=by simpa[Ret]using hb
  refine Zab (λhc=>?_) (λhc M hM _ _ _=>⟨l.length - (i+1),by omega,i+1,aW,by rw[cU,hc,hw];rfl,rfl⟩)
  rw[hc,Bool.true_and]at cU
  cases ht:Zdw l cnt key i with
  | none=>
   rw[ht]at cU
   refine Zau (λ_ M _ _ _ _=>⟨l.length - (i+1),by omega,i+1,aW,by rw[cU,hw];rfl,rfl⟩) (λh=>absurd (show ZAJ none < 0 by decide) h)
  | some t=>
   rw[ht]at cU
   obtain⟨xV,y,hy,_⟩:=Zbw ht
   have qC:=zA2 hy
   refine Zau (λh=>absurd (show((t:Nat):Int) < 0 from h) (by omega)) (λ_=>?_)
   refine⟨_,rfl,h2 x jR m2 (mLt aB aN),λv _ _ e=>by rw[show v=_ from e];rfl,?_⟩
   intro k1 m3 aX iu
   obtain rfl:k1=key x:=by simpa[Ret]using iu
   obtain⟨b2,o2,nr,gy⟩:=Zan Ru.len (hr.mono (mLt aB aN)) hy (by omega)
   have jY:((t:Nat):Int) < l.length:=by omega
   refine⟨b2,o2,nr,⟨by show(0:Int)<=(t:Nat);omega,jY⟩,_,_,_,_,_,_,_,_,_,_,_,_,_,_,_,_,by show Mem.reads _ _ (o2+Int.toNat ((t:Nat):Int)*16) _;rw[zA8];exact gy,_,rfl,?_,λv _ _ e=>by rw[show v=_ from e];rfl,?_⟩
   ·show CX _ _ _ _ _ (Ret (.int .i64 (key ((l[t]?).getD x))))
    rw[hy];exact h2 y qC m3 (mLt aB (mLt aN aX))
   ·intro k2 m4 bI je
    have je:k2=key y:=by
     have:Value.int .i64 k2=.int .i64 (key ((l[t]?).getD x)):=je
     rw[hy]at this;simpa using this
    subst je
    intro M _ _ _ _
    have j2:ZpW l key (some t) x=decide (key x < key y):=by show(match l[t]? with|some y=>decide (key x < key y)|none=>false)=_;rw[hy]
    rw[j2]at cU
    refine Zau (λh=>⟨l.length - (i+1),by omega,i+1,aW,?_,rfl⟩) (λh=>⟨l.length - (i+1),by omega,i+1,aW,?_,rfl⟩)
    ·rw[cU,decide_eq_true h,hw];rfl
    ·rw[cU,decide_eq_false h,hw];rfl
 ·have:i=l.length:=by omega
  subst this
  show Value.tuple #[.int .i64 _,.bool _]=Value.tuple #[.int .i64 _,.bool _]
  rw[ZwB,Zyv];rfl
theorem Zga{o}:∀(v:Value)(m':Mem) (css:List (List Value)),Ret (ZzR o) v m' css->Shape.fits (.tup [.int .i64,.bool]) v=true:=λv _ _ e=>by rw[show v=_ from e];rfl
theorem ZBj{n:Int}{b:Bool}{o:Option Nat}{m':Mem}(h:Ret (ZzR o) (.tuple #[.int .i64 n,.bool b]) m' []):n=Zw5 o/\b=o.isSome:=by
 have h:Value.tuple #[.int .i64 n,.bool b]=ZzR o:=h
 unfold ZzR at h
 simpa using h
theorem Zyw(x:Sta)(m:Mem)(hx:RepS m x):CX Tryz.prog 49 #[.agg x.cs.toArray] m [] (Ret (ZzR (toO x))):=by
 apply Zgh
 intro b m1 aB _
 refine Zai (Zsd x.rules x.ra x.rc 84 85 ZyO ZAV m1 (by have:=hx.len;unfold few at this;omega) (hx.row.mono aB) (λr hr m' hm'=>?_) (λr hr m' hm'=>?_)) Zga λn b1 m2 aN hv=>?_
 ·apply ZeH
  exact λb m1 aB _=>Zac aB rfl
 ·apply ZeI
  exact λb m1 aB _=>Zac aB rfl
 ·exact Zac (mLt aB aN) hv
theorem Zyx(x:Sta)(m:Mem)(hx:RepS m x):CX Tryz.prog 50 #[.agg x.cs.toArray] m [] (Ret (ZzR (eoO x))):=by
 apply Zmu
 intro b m1 aB _
 refine Zai (Zsd x.rules x.ra x.rc 86 87 ZyP ZAW m1 (by have:=hx.len;unfold few at this;omega) (hx.row.mono aB) (λr hr m' hm'=>?_) (λr hr m' hm'=>?_)) Zga λn b1 m2 aN hv=>?_
 ·apply Zip
  exact λb m1 aB _=>Zac aB rfl
 ·apply Ziq
  exact λb m1 aB _=>Zac aB rfl
 ·exact Zac (mLt aB aN) hv
def okS(s:Sc):Bool:=s.check.2 == 0
def Zdz(s:Sc)(i:Int):Int:=if okS s then(if i < 0\/i ≥ s.states.length then 250 else 0)else 400
theorem Zse(s:Sc)(i:Int)(m:Mem)(hr:RepC m s):CX Tryz.prog 48 #[s.v,.int .i64 i] m [] (Ret (.int .i64 (Zdz s i))):=by
 apply Zir
 intro b m1 aB _
 refine Zah (Zpt s m1 (hr.mono aB)) λm2 aN=>?_
 have dH:=mLt aB aN
 show br (!okS s) _ _
 refine Zab (λh=>Zac dH ?_) (λh=>⟨decide (i < 0\/i ≥ s.states.length),Zau (λh=>⟨rfl,Zaf ?_⟩) (λh=>⟨rfl,Zaf ?_⟩),Zau (λh1=>Zac dH ?_) (λh1=>Zac dH ?_)⟩)
 ·have:okS s=false:=by simpa using h
  unfold Zdz;rw[this];rfl
 ·exact(decide_eq_true (.inl h)).symm
 ·rw[decide_eq_decide];omega
 ·have:okS s=true:=by simpa using h
  unfold Zdz;rw[this,if_pos rfl,if_pos h1]
 ·have:okS s=true:=by simpa using h
  unfold Zdz;rw[this,if_pos rfl,if_neg h1]
theorem Zk4{s:Sc}{i:Int}(h:Zdz s i=0):okS s=true/\∃(k:Nat)(x:Sta),i=k/\s.states[k]?=some x:=by
 unfold Zdz at h
 split at h
 ·rename_i hs
  split at h
  ·omega
  ·rename_i hi
   obtain⟨x,hx⟩:=ZcG (l:=s.states) (n:=i.toNat) (by omega)
   exact⟨hs,i.toNat,x,by omega,hx⟩
 ·omega
def Zer(n:Int)(b:Bool)(e:Int):Value:=.tuple #[.int .i64 n,.bool b,.int .i64 e]
theorem ZfD{n b e}:∀(v:Value)(m':Mem) (css:List (List Value)),Ret (Zer n b e) v m' css->Shape.fits (.tup [.int .i64,.bool,.int .i64]) v=true:=λv _ _ e=>by rw[show v=_ from e];rfl
theorem Zid{n n' e e':Int}{b b':Bool}{m':Mem}(h:Ret (Zer n b e) (.tuple #[.int .i64 n',.bool b',.int .i64 e']) m' []):n'=n/\b'=b/\e'=e:=by
 have h:Value.tuple #[.int .i64 n',.bool b',.int .i64 e']=Zer n b e:=h
 unfold Zer at h
 simpa using h
def ZzS(f:Sta->Option Nat)(s:Sc)(i:Int):Option Nat:=match s.states[i.toNat]? with
 | some x=>f x
 | none=>none
def ZhO(f:Sta->Option Nat)(s:Sc)(i:Int):Value:=if Zdz s i=0 then Zer (Zw5 (ZzS f s i)) (ZzS f s i).isSome 0 else Zer 0 false (Zdz s i)
theorem ZwC(f:Sta->Option Nat)(s:Sc)(i:Int):∃n b e,ZhO f s i=Zer n b e:=by unfold ZhO;split <;> exact⟨_,_,_,rfl⟩
theorem ZlZ(s:Sc)(i:Int)(m:Mem)(hr:RepC m s):CX Tryz.prog 18 #[s.v,.int .i64 i] m [] (Ret (ZhO toO s i)):=by
 apply Zgi
 intro b m1 aB _
 refine Zax (Zse s i m1 (hr.mono aB)) λm2 aN=>Zab (λh=>Zac (mLt aB aN) ?_) (λh=>?_)
 ·have:¬Zdz s i=0:=by simpa using h
  unfold ZhO;rw[if_neg this];rfl
 ·have h:Zdz s i=0:=by simpa using h
  obtain⟨_,k,x,rfl,hx⟩:=Zk4 h
  have dH:=mLt aB aN
  obtain⟨b1,o1,ha,cS⟩:=Zan Sta.len (hr.mono dH).row hx (by omega)
  have hk:=(zA0 hx).1
  refine⟨b1,o1,ha,⟨by omega,by omega⟩,_,_,by rw[zA8];exact cS,Zai (Zyw x m2 ((hr.mono dH).all x (zA2 hx))) Zga λn b2 m3 aX hv=>?_⟩
  obtain⟨rfl,rfl⟩:=ZBj hv
  refine Zac (mLt dH aX) ?_
  show _=ZhO toO s k
  unfold ZhO ZzS
  rw[if_pos h,zA8,hx];rfl
theorem ZzT(s:Sc)(i:Int)(m:Mem)(hr:RepC m s):CX Tryz.prog 19 #[s.v,.int .i64 i] m [] (Ret (ZhO eoO s i)):=by
 apply Zmv
 intro b m1 aB _
 refine Zax (Zse s i m1 (hr.mono aB)) λm2 aN=>Zab (λh=>Zac (mLt aB aN) ?_) (λh=>?_)
 ·have:¬Zdz s i=0:=by simpa using h
  unfold ZhO;rw[if_neg this];rfl
 ·have h:Zdz s i=0:=by simpa using h
  obtain⟨_,k,x,rfl,hx⟩:=Zk4 h
  have dH:=mLt aB aN
  obtain⟨b1,o1,ha,cS⟩:=Zan Sta.len (hr.mono dH).row hx (by omega)
  have hk:=(zA0 hx).1
  refine⟨b1,o1,ha,⟨by omega,by omega⟩,_,_,by rw[zA8];exact cS,Zai (Zyx x m2 ((hr.mono dH).all x (zA2 hx))) Zga λn b2 m3 aX hv=>?_⟩
  obtain⟨rfl,rfl⟩:=ZBj hv
  refine Zac (mLt dH aX) ?_
  show _=ZhO eoO s k
  unfold ZhO ZzS
  rw[if_pos h,zA8,hx];rfl
def ZzU(s:Sc)(i t:Int):Bool:=match s.states[i.toNat]? with
 | some x=>(match toO x with
  | some k=>(match x.rules[k]? with
   | some r=>r.n == t
   | none=>false)
  | none=>false)
 | none=>false
def Zxb(s:Sc)(i t:Int):Value:=if Zdz s i=0 then(if ZzU s i t then Zer (Zw5 (ZzS toO s i)) true 0 else Zer 0 false 0)else Zer 0 false (Zdz s i)
theorem Zyy(s:Sc)(i t:Int)(m:Mem)(hr:RepC m s):CX Tryz.prog 20 #[s.v,.int .i64 i,.int .i64 t] m [] (Ret (Zxb s i t)):=by
 apply Zmw
 intro b m1 aB _
 obtain⟨n0,b0,e0,hA⟩:=ZwC toO s i
 have hT:=ZlZ s i m1 (hr.mono aB)
 rw[hA]at hT
 refine Zai hT ZfD λn b1 e m2 aN hv=>?_
 obtain⟨rfl,rfl,rfl⟩:=Zid hv
 have dH:=mLt aB aN
 by_cases hp:Zdz s i=0
 ·obtain⟨_,k,x,rfl,hx⟩:=Zk4 hp
  unfold ZhO at hA
  rw[if_pos hp]at hA
  have hO:ZzS toO s k=toO x:=by unfold ZzS;rw[zA8,hx]
  rw[hO]at hA
  obtain⟨rfl,rfl,rfl⟩:n=Zw5 (toO x)/\b1=(toO x).isSome/\e=0:=by
   unfold Zer at hA;simp at hA;exact⟨hA.1.symm,hA.2.1.symm,hA.2.2.symm⟩
  have hk:=(zA0 hx).1
  have hB:ZzU s k t=(match toO x with
   | some k=>(match x.rules[k]? with
    | some r=>r.n == t
    | none=>false)
   | none=>false):=by unfold ZzU;rw[zA8,hx]
  have hV:Zxb s k t=if ZzU s k t then Zer (Zw5 (toO x)) true 0 else Zer 0 false 0:=by unfold Zxb;rw[if_pos hp,hO]
  refine⟨!ZzU s k t,ZdK rfl (Zab (λh=>⟨rfl,Zaf ?_⟩) (λh=>?_)),Zab (λh=>Zac dH ?_) (λh=>Zac dH ?_)⟩
  ·have:toO x=none:=by simpa using h
   rw[hB,this];rfl
  ·obtain⟨j,hj⟩:∃j,toO x=some j:=by
    cases hj:toO x with
    | none=>rw[hj]at h;cases h
    | some j=>exact⟨j,rfl⟩
   obtain⟨_,r,eX,_⟩:=Zbw hj
   have tX:=(zA0 eX).1
   obtain⟨b2,o2,nr,cS⟩:=Zan Sta.len (hr.mono dH).row hx (by omega)
   obtain⟨b3,o3,gq,fM⟩:=Zan Ru.len ((hr.mono dH).all x (zA2 hx)).row eX (by omega)
   rw[hB,hj,show Zw5 (some j)=(j:Nat) from rfl]
   refine⟨b2,o2,nr,⟨by omega,by omega⟩,.slice x.ra x.rules.length x.rc,by rw[zA8];exact cS 1 _ rfl,Zaa rfl ⟨b3,o3,gq,⟨by omega,by show((j:Nat):Int) < (x.rules.length:Nat);omega⟩,.int .i64 r.n,by rw[zA8];exact fM 12 _ rfl,Zaa rfl ⟨rfl,Zaf ?_⟩⟩⟩
   show(!(r.n == t))=!(match x.rules[j]? with|some r=>r.n == t|none=>false)
   rw[eX]
  ·have:ZzU s k t=false:=by simpa using h
   show _=Zxb s k t
   rw[hV,this];rfl
  ·have:ZzU s k t=true:=by simpa using h
   show _=Zxb s k t
   rw[hV,this];rfl
 ·unfold ZhO at hA
  rw[if_neg hp]at hA
  obtain⟨rfl,rfl,rfl⟩:n=0/\b1=false/\e=Zdz s i:=by
   unfold Zer at hA;simp at hA;exact⟨hA.1.symm,hA.2.1,hA.2.2.symm⟩
  refine⟨true,ZpX (by simpa using hp) ⟨rfl,rfl⟩,ZpX rfl (Zac dH ?_)⟩
  show _=Zxb s i t
  unfold Zxb;rw[if_neg hp];rfl
theorem Zyz(s:Sc)(m:Mem):CX Tryz.prog 36 #[s.v] m [] (λv m' _=>∃b,v=.func (.func 68) #[] #[.pointer (some ⟨b,0,none⟩)]/\m'.reads b 0 s.cs):=by
 apply Zko
 intro b m' hm hb
 exact⟨m',hm,Mem.le_refl _,b,rfl,hb⟩
theorem Zua{m:Mem}{s:Sc}(hr:RepC m s)(n:Nat):(deadU s n).length<=few*n:=by
 induction n with
 | zero=>simp[deadU]
 | succ n ih=>
  rw[deadU,zA1,Nat.mul_succ]
  refine Nat.add_le_add ih ?_
  split
  ·rename_i x hx
   exact Nat.le_trans (Zkd n x x.rules.length) (hr.all x (zA2 hx)).len
  ·simp
theorem ZpD{m:Mem}{s:Sc}(hr:RepC m s):(ZaK s).length<=10000000000:=by
 refine Nat.le_trans (Zua hr s.states.length) (Nat.le_trans (Nat.mul_le_mul_left _ hr.len) ?_)
 unfold few;omega
theorem ZyA{s:Sc}{i:Nat}{x:Sta}{k:Nat}{r:Ru}(hx:s.states[i]?=some x)(hr:x.rules[k]?=some r)(hb:Zdk x k r=true):(ZaK s)[(deadU s i).length+(Zce i x k).length]?=some ((i:Int),(k:Int)):=by
 have hi:=(zA0 hx).1
 have hk:=(zA0 hr).1
 obtain⟨r1,h1⟩:=Zth (s:=s) (show i+1<=s.states.length by omega)
 obtain⟨r2,h2⟩:=Ztg (i:=i) (x:=x) (show k+1<=x.rules.length by omega)
 unfold ZaK
 rw[h1,Zd0 hx,h2,Zfm hr,hb]
 rw[List.append_assoc,List.append_assoc,List.append_assoc,zA4 (by omega),Nat.add_sub_cancel_left,zA4 (Nat.le_refl _),Nat.sub_self]
 rfl
set_option maxHeartbeats 1000000 in
theorem ZwD(s:Sc)(m:Mem)(c0b:Nat)(hr:RepC m s)(hb:m.reads c0b 0 s.cs):IX Tryz.prog 68 [] [.pointer (some ⟨c0b,0,none⟩)] m ((ZaK s).map λd=>[dV d]):=by
 apply Zhe 0 [] [] c0b 0
 intro l
 have fX:=hr.len
 unfold few at fX
 refine⟨.slice s.sa s.states.length s.sc,hb 2 _ rfl,Zaa rfl ?_⟩
 refine⟨λxs _ _ m' q=>∃i:Nat,i<=s.states.length/\xs=[.int .i64 ((deadU s i).length:Nat),.int .i64 i]/\q=s.states.length - i,⟨s.states.length,0,by omega,rfl,rfl⟩,?_⟩
 rintro y n m1 q aB ⟨i,hi,hx,rfl⟩
 simp only[List.cons.injEq,Value.int.injEq,true_and,and_true]at hx
 obtain⟨rfl,rfl⟩:=hx
 have hw:IntKind.i64.wrap ((i:Int)+1)=((i+1:Nat):Int):=by rw[Zam (by omega) (by omega)];rfl
 refine Zau (λaO=>?_) (λbM=>.inl ?_)
 ·have aO:(i:Int) < (s.states.length:Nat):=aO
  obtain⟨x,hx⟩:=ZcG (show i < s.states.length by omega)
  have jR:=zA2 hx
  obtain⟨b1,o1,jO,cS⟩:=Zan Sta.len (hr.mono aB).row hx (by omega)
  have cZ:=(hr.mono aB).all x jR
  have jS:=cZ.len
  unfold few at jS
  refine Zaa rfl ⟨b1,o1,jO,⟨by omega,aO⟩,_,_,cS,λb2=>Zaa rfl (Zai (Zyw x m1 cZ) Zga λn2 b3 m2 aN oZ=>Zai (Zyx x m2 (cZ.mono aN)) Zga λn3 b4 m3 aX nZ=>?_)⟩
  obtain⟨rfl,rfl⟩:=ZBj oZ
  obtain⟨rfl,rfl⟩:=ZBj nZ
  have pA:=mLt aN aX
  have su:=cZ.mono pA
  refine Zaa rfl ⟨λxs _ _ m' q=>∃k:Nat,k<=x.rules.length/\xs=[.int .i64 ((deadU s i).length+(Zce i x k).length:Nat),.int .i64 k]/\q=x.rules.length - k,⟨x.rules.length,0,by omega,by simp[Zce],rfl⟩,?_⟩
  rintro y n4 m4 q2 bI ⟨k,hk,gW,rfl⟩
  simp only[List.cons.injEq,Value.int.injEq,true_and,and_true]at gW
  obtain⟨rfl,rfl⟩:=gW
  have uj:IntKind.i64.wrap ((k:Int)+1)=((k+1:Nat):Int):=by rw[Zam (by omega) (by omega)];rfl
  refine Zau (λeG=>?_) (λeN=>?_)
  ·have eG:(k:Int) < (x.rules.length:Nat):=eG
   obtain⟨r,il⟩:=ZcG (show k < x.rules.length by omega)
   obtain⟨b5,o5,lf,fM⟩:=Zan Ru.len (su.mono bI).row il (by omega)
   have cU:=Zfm (i:=i) il
   have y1:Zdk x k r=true->List.get?Internal (List.map (λd=>[dV d]) (ZaK s)) (Int.toNat (((deadU s i).length+(Zce i x k).length:Nat):Int))=some [Value.agg #[.int .i64 i,.int .i64 k]]:=λh=>by
    show(List.map (λd=>[dV d]) (ZaK s))[((((deadU s i).length+(Zce i x k).length:Nat):Int)).toNat]?=some [Value.agg #[.int .i64 i,.int .i64 k]]
    rw[zA8,List.getElem?_map,ZyA hx il h];rfl
   have y2:Zdk x k r=true->(∃n':Nat,n' < x.rules.length - k/\∃k':Nat,k'<=x.rules.length/\[Value.int .i64 ((((deadU s i).length+(Zce i x k).length:Nat):Int)+1),Value.int .i64 (IntKind.i64.wrap ((k:Int)+1))]=[.int .i64 ((deadU s i).length+(Zce i x k').length:Nat),.int .i64 k']/\n'=x.rules.length - k'):=λh=>⟨x.rules.length - (k+1),by omega,k+1,by omega,by rw[cU,h,uj];simp;omega,rfl⟩
   have no:Zdk x k r=false->(∃n':Nat,n' < x.rules.length - k/\∃k':Nat,k'<=x.rules.length/\[Value.int .i64 (((deadU s i).length+(Zce i x k).length:Nat):Int),Value.int .i64 (IntKind.i64.wrap ((k:Int)+1))]=[.int .i64 ((deadU s i).length+(Zce i x k').length:Nat),.int .i64 k']/\n'=x.rules.length - k'):=λh=>⟨x.rules.length - (k+1),by omega,k+1,by omega,by rw[cU,h,uj];simp,rfl⟩
   refine Zaa rfl ⟨b5,o5,lf,⟨by omega,eG⟩,_,_,_,_,_,_,_,_,_,_,_,_,_,_,_,_,fM,λb6=>Zaa rfl (Zaa rfl (Zab (λh4=>?_) (λh4=>?_)))⟩
   ·have h4':(r.k == 4)=true:=h4
    refine Zab (λdF=>?_) (λdF=>Zaa rfl (Zab (λh3=>?_) (λh3=>?_)))
    ·have e:Zdk x k r=true:=by unfold Zdk;rw[h4',dF];rfl
     exact⟨⟨rfl,Int.natCast_nonneg _,y1 e⟩,⟨rfl,y2 e⟩,.inr rfl⟩
    ·have:r.k=4:=by simpa using h4'
     have h3':(r.k == 3)=true:=h3
     rw[this]at h3';cases h3'
    ·exact⟨rfl,no (by unfold Zdk;rw[dF,show(r.k == 3)=false from h3];simp)⟩
   ·have h4':(r.k == 4)=false:=h4
    refine Zaa rfl (Zab (λh3=>Zab (λdF=>?_) (λdF=>?_)) (λh3=>?_))
    ·have e:Zdk x k r=true:=by unfold Zdk;rw[h4',show(r.k == 3)=true from h3,dF];rfl
     exact⟨⟨rfl,Int.natCast_nonneg _,y1 e⟩,⟨rfl,y2 e⟩,.inr rfl⟩
    ·exact⟨rfl,no (by unfold Zdk;rw[h4',dF];simp)⟩
    ·exact⟨rfl,no (by unfold Zdk;rw[h4',show(r.k == 3)=false from h3];simp)⟩
  ·have eN:¬(k:Int) < (x.rules.length:Nat):=eN
   have:k=x.rules.length:=by omega
   subst this
   exact⟨s.states.length - (i+1),by omega,i+1,by omega,by rw[Zd0 hx,zA1,hw],rfl⟩
 ·have bM:¬(i:Int) < (s.states.length:Nat):=bM
  have:i=s.states.length:=by omega
  subst this
  rw[List.length_map];rfl
theorem Zi2(d:Dd):(dC d).length=2:=rfl
theorem ZzV(d:Dd):∀u∈dC d,u.oneCell'=true:=by
 intro u hu
 simp only[dC,List.mem_cons,List.not_mem_nil,or_false]at hu
 rcases hu with rfl|rfl <;> rfl
def ZwE(s:Sc):Value->Mem->List (List Value)->Prop:=λv m' _=>∃(a:Option Addr)(n c:Nat)(e:Int),v=.tuple #[.slice a n c,.int .i64 e]/\(if okS s then e=0/\n=(ZaK s).length/\n<=c/\rowRd m' a ((ZaK s).map dC).flatten else e=400/\a=none/\n=0/\c=0)
theorem Zd2{s}:∀(v:Value)(m':Mem) (css:List (List Value)),ZwE s v m' css->Shape.fits (.tup [.slice,.int .i64]) v=true:=λv _ _ ⟨_,_,_,_,e,_⟩=>by rw[e];rfl
theorem ZfE{s:Sc}{a:Option Addr}{n c:Nat}{e:Int}{m':Mem}(h:ZwE s (.tuple #[.slice a n c,.int .i64 e]) m' []):if okS s then e=0/\n=(ZaK s).length/\n<=c/\rowRd m' a ((ZaK s).map dC).flatten else e=400/\a=none/\n=0/\c=0:=by
 obtain⟨a',n',c',e',hv,h⟩:=h
 simp only[Value.tuple.injEq,Array.mk.injEq,List.cons.injEq,Value.slice.injEq,Value.int.injEq,true_and,and_true]at hv
 obtain⟨⟨rfl,rfl,rfl⟩,rfl⟩:=hv
 exact h
theorem ZyB{α:Type}{cs:α->List Value}{L:List α}{q:Nat}{x:α}(h:L[q]?=some x):((L.take (q+1)).map cs).flatten=((L.take q).map cs).flatten++cs x:=by
 rw[List.take_add_one,h];simp
theorem Zie(s:Sc)(m:Mem)(hr:RepC m s):CX Tryz.prog 10 #[s.v] m [] (ZwE s):=by
 apply Zkp
 intro b m1 aB _
 refine Zah (Zpt s m1 (hr.mono aB)) λm2 aN=>?_
 have dH:=mLt aB aN
 have aZ:=ZpD hr
 show br (!okS s) _ _
 refine Zab (λh=>ZaJ dH ⟨_,_,_,_,rfl,?_⟩) (λh=>λb2=>?_)
 ·have:okS s=false:=by simpa using h
  rw[this];exact⟨rfl,rfl,rfl,rfl⟩
 have bY:okS s=true:=by simpa using h
 refine Zai (Zyz s m2) (λv m' css h=>by obtain⟨_,rfl,_⟩:=h;rfl) ?_
 rintro g fi ca m3 aX ⟨b3,hv,eQ⟩
 obtain⟨rfl,rfl,rfl⟩:=Zcx hv
 have cV:=mLt dH aX
 refine⟨_,ZwD s m3 b3 (hr.mono cV) eQ,λy hy=>?_,λxs css tvs m' q=>∃(a:Option Addr)(c:Nat),q<=(ZaK s).length/\xs=[]/\css=[[.slice a q c]]/\tvs=[.slice a q c]/\q<=c/\rowRd m' a (((ZaK s).take q).map dC).flatten,⟨none,0,by omega,rfl,rfl,rfl,by omega,.inl rfl⟩,?_,?_⟩
 ·obtain⟨z,_,rfl⟩:=List.mem_map.1 hy;rfl
 ·rintro n n1 cs a n2 c m4 q bI hq ⟨a',c',tN,_,cK,cY,sw,aM⟩ b4
  simp only[List.cons.injEq,Value.slice.injEq,and_true]at cY
  obtain⟨rfl,rfl,rfl⟩:=cY
  obtain rfl:cs=[.slice a n2 c]:=by simpa using cK
  have hq:(List.map (λd=>[dV d]) (ZaK s))[n2]?=some [Value.agg #[.int .i64 n,.int .i64 n1]]:=hq
  rw[List.getElem?_map]at hq
  obtain⟨d,hd,qD⟩:=Option.map_eq_some_iff.1 hq
  have qD:dV d=.agg #[.int .i64 n,.int .i64 n1]:=by simpa using qD
  have aO:=(zA0 hd).1
  obtain⟨rfl,rfl⟩:d.1=n/\d.2=n1:=by unfold dV at qD;simpa using qD
  have l4:((ZaK s).take n2).length=n2:=by rw[List.length_take];omega
  refine Zap rfl λb5 jo=>Zaa rfl ⟨.inl rfl,_,dC d,?_,rfl,aM.mono (Mem.le_add jo _),ZbO,ZzV d,?_,?_,λa6 c6 m6 iR iY nt=>⟨rfl,a6,c6,by omega,rfl,rfl,rfl,nt,?_⟩⟩
  ·rw[Za3 Zi2,l4];rfl
  ·show(n2+1)*16<=_;omega
  ·show n2+1<=_;omega
  ·rw[ZyB hd];exact iY
 ·rintro cs a n c m4 bI ⟨a',c',_,_,cK,cY,sw,aM⟩
  rw[List.length_map]at cK cY sw aM
  simp only[List.cons.injEq,Value.slice.injEq,and_true]at cY
  obtain⟨rfl,rfl,rfl⟩:=cY
  obtain rfl:cs=[.slice a (ZaK s).length c]:=by simpa using cK
  rw[List.take_length]at aM
  refine Zap rfl (ZaJ (mLt cV bI) ⟨a,_,c,0,rfl,?_⟩)
  rw[bY];exact⟨rfl,rfl,sw,aM⟩
theorem ZpE(a b a' b':Int):EqIs Tryz.prog 37 (.agg #[.int .i64 a,.int .i64 b]) (.agg #[.int .i64 a',.int .i64 b']) (decide (((a,b):Dd)=(a',b'))):=by
 refine⟨λw=>?_,λop ox oy w=>ZhB (by kernel_rfl) op ox oy _ _ w⟩
 have u3:=Tryz.underlying3
 have a3:=Tryz.isAgg3
 have z3:=Tryz.sizeOf3
 rw[Op.equal,Op.maxDepth,show(10000:Nat)=9999+1 from rfl]
 rw[run_equalIn_agg _ _ _ _ _ (by kernel_rfl) (by kernel_rfl)]
 have hf:(Tryz.prog.fieldsOf 37).toList=[⟨ "State",3,0,false, "", "",0⟩,⟨ "Rule",3,1,false, "", "",8⟩]:=by kernel_rfl
 rw[hf]
 go_simp
 by_cases h1:a=a' <;> by_cases h2:b=b' <;> simp[h1,h2]
def Zzf(l:List Dd)(d:Dd):Int:=match l.findIdx? (· == d)with
 | some i=>(i:Nat)
 | none=>-1
theorem ZpF(l:List Dd)(a:Option Addr)(c:Nat)(d:Dd)(m:Mem)(hl:l.length<=1000000000000000)(hr:rowRd m a (l.map dC).flatten):
  CX Tryz.prog 37 #[.slice a l.length c,dV d] m [] (Ret (.int .i64 (Zzf l d))):=by
 apply Za9
 intro b m1 aB _
 refine⟨λxs _ _ m' q=>∃i:Nat,i<=l.length/\xs=[.int .i64 i]/\(∀j x,j < i->l[j]?=some x->x≠d)/\q=l.length - i,⟨l.length,0,by omega,rfl,λj x hj=>by omega,rfl⟩,?_⟩
 rintro n m2 q aN ⟨i,hi,hx,fQ,rfl⟩
 obtain rfl:n=i:=by simpa using hx
 have dH:=mLt aB aN
 refine Zau (λaO=>?_) (λbM=>Zac dH ?_)
 ·obtain⟨x,hx⟩:=ZcG (show i < l.length by omega)
  obtain⟨b1,o1,ha,eA⟩:=Zan Zi2 (hr.mono dH) hx (by omega)
  refine⟨b1,o1,ha,⟨by omega,aO⟩,_,_,eA,_,ZpE d.1 d.2 x.1 x.2,Zau (λh=>Zac dH ?_) (λh=>?_)⟩
  ·have h:d=x:=h
   subst h
   have hf:l.findIdx? (· == d)=some i:=List.findIdx?_eq_some_iff_getElem.2 ⟨(zA0 hx).1,by rw[(zA0 hx).2];simp,λj hj=>by
    have:=fQ j (l[j]'(by omega)) hj (zA3 (by omega))
    simpa using this⟩
   show Value.int .i64 i=Value.int .i64 (Zzf l d)
   unfold Zzf;rw[hf]
  ·have h:¬d=x:=h
   refine⟨rfl,l.length - (i+1),by omega,i+1,by omega,by rw[Zam (by omega) (by omega)];rfl,λj y hj hy=>?_,rfl⟩
   rcases Nat.lt_or_ge j i with h1|h1
   ·exact fQ j y h1 hy
   ·obtain rfl:j=i:=by omega
    rw[hx]at hy;cases hy
    exact λe=>h e.symm
 ·have hi:i=l.length:=by omega
  subst hi
  have hf:l.findIdx? (· == d)=none:=by
   rw[List.findIdx?_eq_none_iff]
   intro x hx
   obtain⟨j,hj⟩:=List.getElem?_of_mem hx
   have:=fQ j x (zA0 hj).1 hj
   simpa using this
  show Value.int .i64 (-1)=Value.int .i64 (Zzf l d)
  unfold Zzf;rw[hf]
theorem ZyC(l:List Dd)(d:Dd):decide (Zzf l d ≥ 0)=decide (d∈l):=by
 unfold Zzf
 cases h:l.findIdx? (· == d)with
 | none=>
  rw[List.findIdx?_eq_none_iff]at h
  show decide ((-1:Int) ≥ 0)=_
  symm
  rw[show decide ((-1:Int) ≥ 0)=false by decide,decide_eq_false_iff_not]
  intro hd
  have:=h d hd
  simp at this
 | some i=>
  obtain⟨aO,he,_⟩:=List.findIdx?_eq_some_iff_getElem.1 h
  have he:l[i]=d:=by simpa using he
  show decide (((i:Nat):Int) ≥ 0)=_
  rw[decide_eq_true (show((i:Nat):Int) ≥ 0 by omega),decide_eq_true (show d∈l by rw[<-he];exact List.getElem_mem _)]
theorem ZwF(l:List Dd)(a:Option Addr)(c:Nat)(d:Dd)(m:Mem)(hl:l.length<=1000000000000000)(hr:rowRd m a (l.map dC).flatten):
  CX Tryz.prog 12 #[.slice a l.length c,dV d] m [] (Ret (.bool (decide (d∈l)))):=by
 apply ZaX
 intro b m1 aB _
 refine Zax (ZpF l a c d m1 hl (hr.mono aB)) λm2 aN=>Zac (mLt aB aN) ?_
 show Value.bool _=Value.bool _
 rw[ZyC]
theorem Zub{α:Type}{cs:α->List Value}{n:Nat}(hn:∀x,(cs x).length=n){m:Mem}{a:Option Addr}{L:List α}{c:Nat}(h:rowRd m a (L.map cs).flatten){i:Nat}(hi:i<=L.length)(hc:L.length<=c):rowRd m (ZaS a i c n) ((L.drop i).map cs).flatten:=by
 rcases Nat.lt_or_ge i L.length with aO|bM
 ·unfold ZaS
  cases h0:Nat.beq i 0 with
  | true=>
   have:i=0:=Nat.eq_of_beq_eq_true h0
   subst this;exact h
  | false=>
   have wJ:Nat.beq c i=false:=by
    cases hb:Nat.beq c i with
    | false=>rfl
    | true=>have:=Nat.eq_of_beq_eq_true hb;omega
   rw[wJ]
   rcases h with h|⟨b,o,ha,h⟩
   ·have h2:=congrArg List.length h
    rw[Za3 hn]at h2
    refine .inl (List.eq_nil_of_length_eq_zero ?_)
    rw[Za3 hn,List.length_drop]
    have h2:L.length*n=0:=by simpa using h2
    rcases Nat.mul_eq_zero.1 h2 with e|e
    ·omega
    ·rw[e,Nat.mul_zero]
   ·refine .inr ⟨b,o+i*n,by rw[ha];show some (Addr.add _ (i*n))=_;rw[ZbM],λj v hj=>?_⟩
    have e:(L.map cs).flatten=((L.take i).map cs).flatten++((L.drop i).map cs).flatten:=by rw[<-List.flatten_append,<-List.map_append,List.take_append_drop]
    have hl:((L.take i).map cs).flatten.length=i*n:=by rw[Za3 hn,List.length_take,Nat.min_eq_left (by omega)]
    rw[Nat.add_assoc]
    refine h (i*n+j) v ?_
    rw[e,zA4 (by omega),hl,Nat.add_sub_cancel_left];exact hj
 ·exact .inl (by rw[List.drop_of_length_le bM];rfl)
def Zsf(b:Bool)(e:Int):Value:=.tuple #[.bool b,.int .i64 e]
theorem Zk5{b e}:∀(v:Value)(m':Mem) (css:List (List Value)),Ret (Zsf b e) v m' css->Shape.fits (.tup [.bool,.int .i64]) v=true:=λv _ _ e=>by rw[show v=_ from e];rfl
theorem ZnA{b b':Bool}{e e':Int}{m':Mem}(h:Ret (Zsf b e) (.tuple #[.bool b',.int .i64 e']) m' []):b'=b/\e'=e:=by
 have h:Value.tuple #[.bool b',.int .i64 e']=Zsf b e:=h
 unfold Zsf at h
 simpa using h
theorem Zuc(s:Sc)(l:List Dd)(a:Option Addr)(c:Nat)(m:Mem)(hr:RepC m s)(hl:l.length<=1000000000000000)(aM:rowRd m a (l.map dC).flatten):CX Tryz.prog 11 #[s.v,.slice a l.length c] m [] (Ret (if okS s then Zsf (Zw6 (ZaK s) l) 0 else Zsf false 400)):=by
 apply Zit
 intro b m1 aB _
 have aZ:=ZpD hr
 refine Zai (Zie s m1 (hr.mono aB)) Zd2 λa1 n1 c1 e m2 aN hv=>?_
 have hv:=ZfE hv
 have dH:=mLt aB aN
 cases bY:okS s with
 | false=>
  rw[bY]at hv
  obtain⟨rfl,rfl,rfl,rfl⟩:=hv
  exact ZpX rfl (Zac dH rfl)
 | true=>
  rw[bY]at hv
  obtain⟨rfl,rfl,hc,pF⟩:=hv
  refine ZdK rfl ⟨λxs _ _ m' q=>∃(i:Nat)(A:List Dd)(a':Option Addr)(c':Nat),i<=l.length/\xs=[.slice a' A.length c',.int .i64 i]/\A.length<=c'/\A.length<=10000000000/\rowRd m' a' (A.map dC).flatten/\Zw6 (ZaK s) l=Zw6 A (l.drop i)/\q=l.length - i,⟨l.length,0,ZaK s,a1,c1,by omega,rfl,hc,aZ,pF,rfl,rfl⟩,?_⟩
  rintro a2 n2 c2 i0 m3 q aX ⟨i,A,a',c',hi,hx,wK,xW,jH,dG,rfl⟩
  simp only[List.cons.injEq,Value.slice.injEq,Value.int.injEq,true_and,and_true]at hx
  obtain⟨⟨rfl,rfl,rfl⟩,rfl⟩:=hx
  have cV:=mLt dH aX
  refine Zau (λaO=>?_) (λbM=>Zac cV ?_)
  ·obtain⟨d,hd⟩:=ZcG (show i < l.length by omega)
   obtain⟨b3,o3,gq,nU⟩:=Zan Zi2 (aM.mono cV) hd (by omega)
   have gU:l.drop i=d::l.drop (i+1):=Zos hd
   refine⟨b3,o3,gq,⟨by omega,aO⟩,_,_,nU,λb4=>Zaa rfl (Zax (ZpF A a2 c2 d m3 (by omega) jH) λm4 bI=>?_)⟩
   have cU:Zw6 (ZaK s) l=(match A.findIdx? (· == d)with
    | none=>false
    | some j=>Zw6 (A.drop (j+1)) (l.drop (i+1))):=by rw[dG,gU,Zw6];rfl
   unfold Zzf
   cases hf:A.findIdx? (· == d)with
   | none=>
    rw[hf]at cU
    refine ZpX (by decide) (Zac (mLt cV bI) ?_)
    show _=Zsf (Zw6 (ZaK s) l) 0
    rw[cU];rfl
   | some j=>
    rw[hf]at cU
    obtain⟨tX,_,_⟩:=List.findIdx?_eq_some_iff_getElem.1 hf
    have qE:IntKind.i64.wrap ((j:Int)+1)=((j+1:Nat):Int):=by rw[Zam (by omega) (by omega)];rfl
    refine Zau (λh=>absurd (show((j:Nat):Int) < 0 from h) (by omega)) (λ_=>?_)
    show((0:Int)<=IntKind.i64.wrap ((j:Int)+1)/\IntKind.i64.wrap ((j:Int)+1)<=_)/\_
    rw[qE,zA8]
    refine⟨⟨by omega,by omega⟩,rfl,l.length - (i+1),by omega,i+1,A.drop (j+1),_,_,by omega,by rw[List.length_drop,Zam (n:=(i:Int)+1) (by omega) (by omega)];rfl,by rw[List.length_drop];omega,by rw[List.length_drop];omega,(Zub Zi2 jH (by omega) wK).mono bI,cU,rfl⟩
  ·have:i=l.length:=by omega
   subst this
   show _=Zsf (Zw6 (ZaK s) l) 0
   rw[dG,List.drop_length]
   cases A <;> rfl
end Go.Proofs.YtojlhhphofhaoaaGreatDoor
namespace Go.Proofs.YtojlhhphofhaoaaGreatDoor
open Go Go.Eng Go.Proofs Go.RowKit
open Go.Value (int slice agg bool string tuple func)
open Go.IntKind (u8 u64 i64)
set_option maxRecDepth 100000
def ZpG:Env:=EB
theorem Zna(p0a:Option Addr)(p0n p0c:Nat)(m:Mem)(R:RT)(h:
 ∀(b b:Nat),m.free b->rtM m (m.add b [string (ByteArray.mk (Array.mk [97])),slice p0a p0n p0c]) R (agg (Array.mk [int i64 4,slice none 0 0,slice (some (Addr.mk b 0 none)) 1 1]))):CX Tryz.prog 26 #[.slice p0a p0n p0c] m [] R:=
 Zae (E:=ZpG) Zal mix Tryz.func26 [.v (.slice p0a p0n p0c)] [] (by kernel_rfl) (Eq.mp (by kernel_rfl) h)
def ZhP:Env:=EB
theorem Zgz(p0:Int)(m:Mem)(R:RT)(h:
 ∀(b:Nat),rtM m m R (agg (Array.mk [int u8 4,bool false,bool false,int u8 0,int u64 0,int u64 0,int u64 0,int u64 0,int i64 0,int i64 0,slice none 0 0,string bE0,int i64 p0,slice
 none 0 0,string bE0,int i64 0]))):CX Tryz.prog 27 #[.int .i64 p0] m [] R:=
 Zae (E:=ZhP) Zal mix Tryz.func27 [.v (.int .i64 p0)] [] (by kernel_rfl) (Eq.mp (by kernel_rfl) h)
def Zk6:Env:=EB
theorem Zi3  (m:Mem)(R:RT)(h:
 ∀(b:Nat),rtM m m R (agg (Array.mk [int u8 2,bool false,bool false,int u8 0,int u64 0,int u64 0,int u64 0,int u64 0,int i64 0,int i64 0,slice none 0 0,string (ByteArray.mk (Array.mk [97])),int
 i64 0,slice none 0 0,string bE0,int i64 0]))):CX Tryz.prog 28 #[] m [] R:=
 Zae (E:=Zk6) Zal mix Tryz.func28 [] [] (by kernel_rfl) (Eq.mp (by kernel_rfl) h)
def ZpH:Env:=EB
theorem Znb  (m:Mem)(R:RT)(h:
 ∀(b:Nat),rtM m m R (agg (Array.mk [int u8 3,bool false,bool false,int u8 0,int u64 0,int u64 0,int u64 0,int u64 0,int i64 0,int i64 0,slice none 0 0,string bE0,int i64 0,slice
 none 0 0,string bE0,int i64 0]))):CX Tryz.prog 29 #[] m [] R:=
 Zae (E:=ZpH) Zal mix Tryz.func29 [] [] (by kernel_rfl) (Eq.mp (by kernel_rfl) h)
def Zk7:Env:={ EB with
 joins:=(λi=>bif Nat.beq i 12 then some [(0,.bool)]else none) }
theorem Zi4  (m:Mem)(R:RT)(h:
 ∃(R_1:RT),True/\CX Tryz.prog 27 (Array.mk [int i64 5]) m [] R_1/\Za1 (Shape.agg [Shape.int u8,Shape.bool,Shape.bool,Shape.int u8,Shape.int u64,Shape.int u64,Shape.int u64,Shape.int u64,Shape.int i64,
 Shape.int i64,Shape.slice,Shape.str,Shape.int i64,Shape.slice,Shape.str,Shape.int i64]) R_1/\∀(n:Int)(b dx:Bool)(dy dz d0 d1 d2 d3 d4:Int)(a:Option Addr)(d5 c:Nat)(s:ByteArray)(d6:Int) (d7:
 Option Addr) (d8 d9:Nat) (ea:ByteArray) (eb:Int) (m':Mem),lX (bool b) λyL=>lX (string s) λak=>lX (string ea) λal=>lX (bool dx) λam=>lX (int i64 d3) λan=>lX (int u64 d0) λao=>lX
 (int u64 d2) λap=>lX (int u64 d1) λaq=>lX (int u8 dy) λar=>lX (int i64 d4) λau=>lX (int i64 eb) λav=>lX (int u8 n) λaw=>lX (int u64 dz) λax=>lX (int i64 d6) λay=>lX (slice a d5 c)
 λaz=>lX (slice d7 d8 d9) λa0=>m.le m'->R_1 (agg (Array.mk [aw,yL,am,ar,ax,ao,aq,ap,an,au,az,ak,ay,a0,al,av])) m' []->∃(R_2:RT),True/\CX Tryz.prog 28 (Array.mk []) m' [] R_2/\Za1
 (Shape.agg [Shape.int u8,Shape.bool,Shape.bool,Shape.int u8,Shape.int u64,Shape.int u64,Shape.int u64,Shape.int u64,Shape.int i64,Shape.int i64,Shape.slice,Shape.str,Shape.int i64,Shape.slice,Shape.str,
 Shape.int i64]) R_2/\∀(n:Int)(b ec:Bool)(ed ee ef eg eh ei ej:Int)(a:Option Addr)(ek c:Nat)(s:ByteArray)(el:Int)(em:Option Addr)(en eo:Nat)(ep:ByteArray)(eq:Int)(ac:Mem),lX (bool
 ec) λa1=>lX (bool b) λa2=>lX (string s) λa3=>lX (string ep) λa4=>lX (int u64 eh) λa5=>lX (int i64 eq) λa6=>lX (int u8 n) λa7=>lX (int i64 ej) λa8=>lX (int u64 ef) λa9=>lX
 (int u64 eg) λba=>lX (int i64 ei) λbb=>lX (int i64 el) λbc=>lX (int u64 ee) λbd=>lX (int u8 ed) λbe=>lX (slice a ek c) λbf=>lX (slice em en eo) λbg=>m'.le ac->R_2 (agg (Array.mk
 [a7,a2,a1,be,bd,a9,ba,a5,bb,a8,bf,a3,bc,bg,a4,a6])) ac []->∃(R_3:RT),True/\CX Tryz.prog 27 (Array.mk [int i64 3]) ac [] R_3/\Za1 (Shape.agg [Shape.int u8,Shape.bool,Shape.bool,Shape.int u8,
 Shape.int u64,Shape.int u64,Shape.int u64,Shape.int u64,Shape.int i64,Shape.int i64,Shape.slice,Shape.str,Shape.int i64,Shape.slice,Shape.str,Shape.int i64]) R_3/\∀(n:Int)(b er:Bool) (es et eu ev ew ex
 ey:Int) (a:Option Addr) (ez c:Nat) (s:ByteArray) (e0:Int) (e1:Option Addr) (e2 e3:Nat) (e4:ByteArray) (e5:Int) (m':Mem),lX (bool b) λbh=>lX (string e4) λbi=>lX (bool er) λbj=>lX
 (string s) λbk=>lX (int u64 ev) λbl=>lX (int u64 ew) λbm=>lX (int i64 ey) λbn=>lX (int i64 ex) λbo=>lX (int u8 es) λbp=>lX (int u64 eu) λbq=>lX (int u64 et) λbs=>lX (int i64 e0)
 λbt=>lX (int u8 n) λbu=>lX (int i64 e5) λbv=>lX (slice e1 e2 e3) λbw=>lX (slice a ez c) λbx=>ac.le m'->R_3 (agg (Array.mk [bu,bh,bj,bp,bs,bq,bl,bm,bo,bn,bx,bk,bt,bw,bi,bv]))
 m' []->∃(R_4:RT),True/\CX Tryz.prog 29 (Array.mk []) m' [] R_4/\Za1 (Shape.agg [Shape.int u8,Shape.bool,Shape.bool,Shape.int u8,Shape.int u64,Shape.int u64,Shape.int u64,Shape.int u64,Shape.int i64,
 Shape.int i64,Shape.slice,Shape.str,Shape.int i64,Shape.slice,Shape.str,Shape.int i64]) R_4/\∀(n:Int)(b e6:Bool)(e7 e8 e9 fa fb fc fd:Int)(a:Option Addr)(fe c:Nat)(s:ByteArray)(ff:Int) (fg:
 Option Addr) (fh fi:Nat) (fj:ByteArray) (fk:Int) (ad:Mem),lX (bool e6) λbz=>lX (string fj) λca=>lX (bool b) λcb=>lX (string s) λcc=>lX (int u64 fa) λcd=>lX (int u64 fb) λce=>lX
 (int i64 ff) λcf=>lX (int u64 e9) λcg=>lX (int i64 fc) λch=>lX (int u8 e7) λci=>lX (int u8 n) λcj=>lX (int i64 fk) λck=>lX (int i64 fd) λcl=>lX (int u64 e8) λcm=>lX (slice fg fh
 fi) λcn=>lX (slice a fe c) λco=>m'.le ad->R_4 (agg (Array.mk [cj,cb,bz,ci,cm,cg,cd,ce,ch,cl,co,cc,cf,cn,ca,ck])) ad []->∃(R_5:RT),True/\CX Tryz.prog 27 (Array.mk [int i64 3]) ad []
 R_5/\Za1 (Shape.agg [Shape.int u8,Shape.bool,Shape.bool,Shape.int u8,Shape.int u64,Shape.int u64,Shape.int u64,Shape.int u64,Shape.int i64,Shape.int i64,Shape.slice,Shape.str,Shape.int i64,Shape.slice,
 Shape.str,Shape.int i64]) R_5/\∀(n:Int)(b fl:Bool)(fm fn fo fp fq fr fs:Int)(a:Option Addr)(ft c:Nat)(s:ByteArray)(fu:Int)(fv:Option Addr)(fw fx:Nat)(fy:ByteArray)(fz:Int)(m':Mem),
 lX (string fy) λcp=>lX (string s) λcq=>lX (bool fl) λcr=>lX (bool b) λcs=>lX (int u8 n) λct=>lX (int i64 fr) λcu=>lX (int i64 fu) λcv=>lX (int u64 fo) λcw=>lX (int u64 fn) λcx
 => lX (int i64 fs) λcy=>lX (int u8 fm) λcz=>lX (int i64 fz) λda=>lX (int u64 fp) λdb=>lX (int u64 fq) λdc=>lX (slice a ft c) λdd=>lX (slice fv fw fx) λde=>ad.le m'->R_5 (agg
 (Array.mk [ct,cs,cr,cz,cx,cw,db,dc,cu,cy,dd,cq,cv,de,cp,da])) m' []->∃(R_6:RT),True/\CX Tryz.prog 29 (Array.mk []) m' [] R_6/\Za1 (Shape.agg [Shape.int u8,Shape.bool,Shape.bool,Shape.int u8,
 Shape.int u64,Shape.int u64,Shape.int u64,Shape.int u64,Shape.int i64,Shape.int i64,Shape.slice,Shape.str,Shape.int i64,Shape.slice,Shape.str,Shape.int i64]) R_6/\∀(n:Int)(b f0:Bool) (f1 f2 f3 f4 f5 f6
 f7:Int) (a:Option Addr) (f8 c:Nat) (s:ByteArray) (f9:Int) (ga:Option Addr) (gb gc:Nat) (gd:ByteArray) (ge:Int) (ab:Mem),lV [int u8 n,bool b,bool f0,int u8 f1,int u64 f2,int u64 f3,int u64 f4,
 int u64 f5,int i64 f6,int i64 f7,slice a f8 c,string s,int i64 f9,slice ga gb gc,string gd,int i64 ge] λxL=>lV (aw::yL::am::ar::ax::ao::aq::ap::an::au::az::ak::ay::a0::al::av
 :: a7::a2::a1::be::bd::a9::ba::a5::bb::a8::bf::a3::bc::bg::a4::a6::bu::bh::bj::bp::bs::bq::bl::bm::bo::bn::bx::bk::bt::bw::bi::bv::cj::cb::bz::ci ::
 cm::cg::cd::ce::ch::cl::co::cc::cf::cn::ca::ck::ct::cs::cr::cz::cx::cw::db::dc::cu::cy::dd::cq::cv::de::cp::da::xL) λaj=>m'.le ab->R_6 (agg (Array.mk
 xL)) ab []->∀(b:Nat),lE [some (Box.mk b aj 57 96 true true)] λxL=>ab.free b->∃(R_7:RT),True/\CX Tryz.prog 26 (Array.mk [slice (some (Addr.mk b 0 none)) 6 6]) (ab.add b aj) [] R_7/\Za1
 (Shape.agg [Shape.int i64,Shape.slice,Shape.slice]) R_7/\∀(n:Int)(a:Option Addr)(gf c:Nat)(gg:Option Addr)(gh gi:Nat)(m':Mem),lV [int i64 n,slice a gf c,slice gg gh gi] λdf=>lX (agg
 (Array.mk df)) λyL=>Mem.le (ab.add b aj) m'->R_7 yL m' []->∀(b:Nat),∃(R_8:RT),lE (some (Box.mk b df 30 3 false true)::xL) λxL=>True/\CX Tryz.prog 18 (Array.mk [yL,int i64 0]) m' [] R_8/\Za1
 (Shape.tup [Shape.int i64,Shape.bool,Shape.int i64]) R_8/\∀(n:Int)(b:Bool)(dg:Int)(ae:Mem),m'.le ae->R_8 (tuple (Array.mk [int i64 n,bool b,int i64 dg])) ae []->∃(R_9:RT),True/\CX Tryz.prog
 19 (Array.mk [yL,int i64 0]) ae [] R_9/\Za1 (Shape.tup [Shape.int i64,Shape.bool,Shape.int i64]) R_9/\∀(dh:Int)(di:Bool)(dj:Int)(m':Mem),ae.le m'->R_9 (tuple (Array.mk [int i64 dh,bool di,int
 i64 dj])) m' []->∃(R_10:RT),True/\CX Tryz.prog 10 (Array.mk [yL]) m' [] R_10/\Za1 (Shape.tup [Shape.slice,Shape.int i64]) R_10/\∀(a:Option Addr)(dk c:Nat)(dl:Int)(af:Mem),m'.le af->R_10
 (tuple (Array.mk [slice a dk c,int i64 dl])) af []->∃(R_11:RT),True/\CX Tryz.prog 20 (Array.mk [yL,int i64 0,int i64 3]) af [] R_11/\Za1 (Shape.tup [Shape.int i64,Shape.bool,Shape.int i64]) R_11/\∀(dm:
 Int) (dn:Bool) (dp:Int) (m':Mem),af.le m'->R_11 (tuple (Array.mk [int i64 dm,bool dn,int i64 dp])) m' []->∃(R_12:RT),True/\CX Tryz.prog 20 (Array.mk [yL,int i64 0,int i64 5]) m' [] R_12/\Za1
 (Shape.tup [Shape.int i64,Shape.bool,Shape.int i64]) R_12/\∀(gj:Int)(dq:Bool)(dr:Int)(aa:Mem),m'.le aa->R_12 (tuple (Array.mk [int i64 gj,bool dq,int i64 dr])) aa []->br (!i64.wrap
 (i64.wrap (i64.wrap (i64.wrap (dg+dj)+dl)+dp)+dr) == (0:Int)) (rtM m aa R (bool false)) (br (!n == (2:Int)) (rtM m aa R (bool false)) (br (!b) (rtM m aa R (bool false)) (br (!dh == (3
 : Int)) (rtM m aa R (bool false)) (br (!di) (rtM m aa R (bool false)) (br (!dm == (2:Int)) (rtM m aa R (bool false)) (br (!dn) (rtM m aa R (bool false)) (br dq (rtM m aa R (bool false)) (∀(b:Nat),lE (some (Box.mk
 b [int i64 0,int i64 0,int i64 0,int i64 4,int i64 0,int i64 5] 37 6 true true)::xL) λxL=>aa.free b->kB Tryz.prog 30 [slice a dk c,slice (some (Addr.mk b 0 none)) 3 3] (aa.add b [int i64 0,int i64
 0,int i64 0,int i64 4,int i64 0,int i64 5]) λb m'=>br (!b) (rtM m m' R (bool false)) (∀(b:Nat),lM (m'.add b [int i64 0,int i64 0,int i64 0,int i64 5]) λmL=>lE (some (Box.mk b [int i64 0,int i64
 0,int i64 0,int i64 5] 37 4 true true)::xL) λxL=>m'.free b->∃(R_13:RT),True/\CX Tryz.prog 11 (Array.mk [yL,slice (some (Addr.mk b 0 none)) 2 2]) mL [] R_13/\Za1 (Shape.tup [Shape.bool,Shape.int
 i64]) R_13/\∀(b:Bool)(n:Int)(m':Mem),mL.le m'->R_13 (tuple (Array.mk [bool b,int i64 n])) m' []->∀(ag:Nat),lM (m'.add ag [int i64 0,int i64 5,int i64 0,int i64 0]) λmL=>lE (some (Box.mk
 ag [int i64 0,int i64 5,int i64 0,int i64 0] 37 4 true true)::xL) λxL=>m'.free ag->∃(R_14:RT),True/\CX Tryz.prog 11 (Array.mk [yL,slice (some (Addr.mk ag 0 none)) 2 2]) mL [] R_14/\Za1 (Shape.tup
 [Shape.bool,Shape.int i64]) R_14/\∀(ds:Bool)(dt:Int)(m':Mem),mL.le m'->R_14 (tuple (Array.mk [bool ds,int i64 dt])) m' []->∀(ah:Nat),lM (m'.add ah [int i64 0,int i64 2]) λmL=>lE (some
 (Box.mk ah [int i64 0,int i64 2] 37 2 true true)::xL) λxL=>m'.free ah->∃(R_15:RT),True/\CX Tryz.prog 11 (Array.mk [yL,slice (some (Addr.mk ah 0 none)) 1 1]) mL [] R_15/\Za1 (Shape.tup [Shape.bool,
 Shape.int i64]) R_15/\∀(du:Bool)(dv:Int)(m':Mem),mL.le m'->R_15 (tuple (Array.mk [bool du,int i64 dv])) m' []->∃(dw:Bool),lV [bool dw] λai=>br (i64.wrap (i64.wrap (n+dt) +
 dv) == (0:Int)) (br b (br (!ds) (Zad xL/\[bool !du]=ai) (Zad xL/\[bool false]=ai)) (Zad xL/\[bool false]=ai)) (Zad xL/\[bool false]=ai)/\rtM m m' R (bool dw))))))))))):CX Tryz.prog 8 #[] m [] R:=
 Zae (E:=Zk7) Zal mix Tryz.func8 [] [] (by kernel_rfl) (Eq.mp (by kernel_rfl) h)
def Zbj:Env:={ EB with
 loops:=(λi=>bif Nat.beq i 4 then⟨[(13,.int .i64)],[],[],false⟩ else⟨[],[],[],false⟩)
 dr:=(λi=>bif Nat.beq i 6 then[⟨0,[],[],none,[],[]⟩,⟨1,[],[],none,[],[]⟩,⟨2,[],[],none,[0,1],[]⟩,⟨3,[],[],none,[0,1,2],[]⟩,⟨4,[],[],none,[],[]⟩,⟨5,[],[],none,[],[]⟩,⟨6,[],[],none,[4,5],[]⟩,⟨7,[],[],none,[4,5,6],[]⟩,⟨8,[],[],none,[0,1,2,3,4,5,6,7],[]⟩]else[]) }
theorem Zbc(p0a:Option Addr)(p0n p0c:Nat)(p1a:Option Addr)(p1n p1c:Nat)(m:Mem)(R:RT)(h:
 br (!(↑p0n:Int) == (↑p1n:Int)) (rtM m m R (bool false)) (∃(I:IT),inI I [int i64 0] [] [] m/\∀(n:Int)(m':Mem)(n_1:Nat),m.le m'->I [int i64 n] [] [] m' n_1->br (decide (n < (↑p0n:Int))) (atA p0a
 λb o=>Zag n p0n/\∃v v_1:Value,m'.reads b (o+Int.toNat n*2) [v,v_1]/\atA p1a λb o=>Zag n p1n/\∃v_2 v_3:Value,m'.reads b (o+Int.toNat n*2) [v_2,
 v_3]/\∃(b:Bool),EqIs Tryz.prog 37 (agg (Array.mk [v,v_1])) (agg (Array.mk [v_2,v_3])) b/\br (!b) (rtM m m' R (bool false)) (nxI n_1 I [int i64 (i64.wrap (n+(1:Int)))] [] [] m')) (rtM m m' R (bool
 true)))):CX Tryz.prog 30 #[.slice p0a p0n p0c,.slice p1a p1n p1c] m [] R:=
 Zae (E:=Zbj) Zal mix Tryz.func30 [.v (.slice p0a p0n p0c),.v (.slice p1a p1n p1c)] [] (by kernel_rfl) (Eq.mp (by kernel_rfl) h)
end Go.Proofs.YtojlhhphofhaoaaGreatDoor
namespace Go.Proofs.YtojlhhphofhaoaaGreatDoor
open Go Go.Eng Go.Rx Go.Proofs Go.RowKit
set_option maxRecDepth 100000
def ruK(k n:Int)(s:ByteArray):Ru:=⟨k,false,false,T0,s,n,none,0,[],⟨#[]⟩,0⟩
def Zzg:List Ru:=[ruK 4 5 ⟨#[]⟩,ruK 2 0 ⟨#[97]⟩,ruK 4 3 ⟨#[]⟩,ruK 3 0 ⟨#[]⟩,ruK 4 3 ⟨#[]⟩,ruK 3 0 ⟨#[]⟩]
def exS(sa ra:Option Addr):Sc:=⟨4,none,0,[],sa,1,[⟨⟨#[97]⟩,ra,6,Zzg⟩]⟩
theorem ZBN(sa ra:Option Addr):okS (exS sa ra)=true:=by kernel_rfl
theorem ZzW(sa ra:Option Addr):ZaK (exS sa ra)=[((0:Int),(0:Int)),(0,4),(0,5)]:=by kernel_rfl
theorem ZBO(sa ra:Option Addr):ZhO toO (exS sa ra) 0=Zer 2 true 0:=by kernel_rfl
theorem ZBP(sa ra:Option Addr):ZhO eoO (exS sa ra) 0=Zer 3 true 0:=by kernel_rfl
theorem ZzX(sa ra:Option Addr):Zxb (exS sa ra) 0 3=Zer 2 true 0:=by kernel_rfl
theorem ZzY(sa ra:Option Addr):Zxb (exS sa ra) 0 5=Zer 0 false 0:=by kernel_rfl
theorem Zzh:Zw6 [((0:Int),(0:Int)),(0,4),(0,5)] [(0,0),(0,5)]=true/\Zw6 [((0:Int),(0:Int)),(0,4),(0,5)] [(0,5),(0,0)]=false/\Zw6 [((0:Int),(0:Int)),(0,4),(0,5)] [(0,2)]=false:=by decide
theorem Zzi(n:Int)(m:Mem):CX Tryz.prog 27 #[.int .i64 n] m [] (Ret (.agg (ruK 4 n ⟨#[]⟩).cs.toArray)):=by
 apply Zgz
 exact λb=>Zac (Mem.le_refl _) rfl
theorem ZBk(m:Mem):CX Tryz.prog 28 #[] m [] (Ret (.agg (ruK 2 0 ⟨#[97]⟩).cs.toArray)):=by
 apply Zi3
 exact λb=>Zac (Mem.le_refl _) rfl
theorem ZAA(m:Mem):CX Tryz.prog 29 #[] m [] (Ret (.agg (ruK 3 0 ⟨#[]⟩).cs.toArray)):=by
 apply Znb
 exact λb=>Zac (Mem.le_refl _) rfl
theorem Zgb{r:Ru}:∀(v:Value)(m':Mem) (css:List (List Value)),Ret (.agg r.cs.toArray) v m' css->Shape.fits (.agg [.int .u8,.bool,.bool,.int .u8,.int .u64,.int .u64,.int .u64,.int .u64,.int .i64,.int .i64,.slice,.str,.int .i64,.slice,.str,.int .i64]) v=true:=λv _ _ h=>by rw[show v=_ from h];rfl
theorem Zvk{r:Ru}{m:Mem}{K:Int->Bool->Bool->Int->Int->Int->Int->Int->Int->Int->Option Addr->Nat->Nat->ByteArray->Int->Option Addr->Nat->Nat->ByteArray->Int->Mem->Prop}(k:∀m',m.le m'->K r.k r.bg r.en r.t.k r.t.s0 r.t.s1 r.t.s2 r.t.s3 r.t.mn r.t.mx r.t.a r.t.subs.length r.t.c r.s r.n r.aa r.acts.length r.ac r.go r.code m'):
  ∀(k1:Int)(k2 k3:Bool)(k4 k5 k6 k7 k8 k9 k10:Int)(ka:Option Addr)(kb kc:Nat)(ks:ByteArray)(kd:Int)(ke:Option Addr)(kf kg:Nat)(kh:ByteArray)(ki:Int)(m':Mem),m.le m'->Ret (.agg r.cs.toArray) (.agg #[.int .u8 k1,.bool k2,.bool k3,.int .u8 k4,.int .u64 k5,.int .u64 k6,.int .u64 k7,.int .u64 k8,.int .i64 k9,.int .i64 k10,.slice ka kb kc,.string ks,.int .i64 kd,.slice ke kf kg,.string kh,.int .i64 ki]) m' []->K k1 k2 k3 k4 k5 k6 k7 k8 k9 k10 ka kb kc ks kd ke kf kg kh ki m':=by
 intro k1 k2 k3 k4 k5 k6 k7 k8 k9 k10 ka kb kc ks kd ke kf kg kh ki m' hm hv
 have hv:Value.agg _=Value.agg r.cs.toArray:=hv
 simp only[Ru.cs,Value.agg.injEq,Array.mk.injEq,List.cons.injEq,Value.int.injEq,Value.bool.injEq,Value.string.injEq,Value.slice.injEq,true_and,and_true]at hv
 obtain⟨rfl,rfl,rfl,rfl,rfl,rfl,rfl,rfl,rfl,rfl,⟨rfl,rfl,rfl⟩,rfl,rfl,⟨rfl,rfl,rfl⟩,rfl,rfl⟩:=hv
 exact k m' hm
theorem ZzZ{m:Mem}{k n:Int}{s:ByteArray}(hk:0<=k/\k < 256)(hn:I64 n)(hs:s.size<=1000000000000000):RepR m (ruK k n s):=⟨hk,Zyp m,hs,hn,by show 0<=few;omega,.inl rfl,by simp[ruK],by show(ByteArray.mk #[]).size<=_;decide,by show I64 0;unfold I64;omega⟩
def ZBE(l:List Ru)(a:Option Addr)(c:Nat):Value->Mem->List (List Value)->Prop:=λv m' _=>∃sa,v=(⟨4,none,0,[],sa,1,[⟨⟨#[97]⟩,a,c,l⟩]⟩:Sc).v/\rowRd m' sa [.string ⟨#[97]⟩,.slice a l.length c]
theorem ZwG{l a c}:∀(v:Value)(m':Mem) (css:List (List Value)),ZBE l a c v m' css->Shape.fits (.agg [.int .i64,.slice,.slice]) v=true:=λv _ _ ⟨_,h,_⟩=>by rw[h];rfl
theorem ZyD(l:List Ru)(a:Option Addr)(c:Nat)(m:Mem):CX Tryz.prog 26 #[.slice a l.length c] m [] (ZBE l a c):=by
 apply Zna
 intro b b2 hf
 exact ZaJ (Mem.le_add hf _) ⟨_,rfl,ZbO⟩
theorem Zud(l r:List Dd)(a a':Option Addr)(c c':Nat)(m:Mem)(hl:l.length<=1000000000000000)(h1:rowRd m a (l.map dC).flatten)(h2:rowRd m a' (r.map dC).flatten):
  CX Tryz.prog 30 #[.slice a l.length c,.slice a' r.length c'] m [] (Ret (.bool (decide (l=r)))):=by
 apply Zbc
 refine Zab (λh=>Zac (Mem.le_refl _) ?_) (λh=>?_)
 ·have dF:¬(l.length:Int)=r.length:=by simpa using h
  show Value.bool false=Value.bool _
  rw[decide_eq_false (λe=>dF (by rw[e]))]
 have aZ:l.length=r.length:=by
  have:(l.length:Int)=r.length:=by simpa using h
  omega
 refine⟨λxs _ _ m' q=>∃i:Nat,i<=l.length/\xs=[.int .i64 i]/\l.take i=r.take i/\q=l.length - i,⟨l.length,0,by omega,rfl,rfl,rfl⟩,?_⟩
 rintro n m1 q aB ⟨i,hi,hx,heq,rfl⟩
 obtain rfl:n=i:=by simpa using hx
 refine Zau (λaO=>?_) (λbM=>Zac aB ?_)
 ·obtain⟨x,hx⟩:=ZcG (show i < l.length by omega)
  obtain⟨y,hy⟩:=ZcG (show i < r.length by omega)
  obtain⟨b1,o1,jO,cS⟩:=Zan Zi2 (h1.mono aB) hx (by omega)
  obtain⟨b2,o2,nr,gy⟩:=Zan Zi2 (h2.mono aB) hy (by omega)
  refine⟨b1,o1,jO,⟨by omega,aO⟩,_,_,cS,b2,o2,nr,⟨by omega,by omega⟩,_,_,gy,_,ZpE x.1 x.2 y.1 y.2,Zab (λh=>Zac aB ?_) (λh=>?_)⟩
  ·have dF:¬x=y:=by
    intro e
    subst e;simp at h
   show Value.bool false=Value.bool _
   rw[decide_eq_false (λe=>dF (by subst e;rw[hx]at hy;exact Option.some.inj hy))]
  ·have e:x=y:=by
    have:(x.1,x.2)=(y.1,y.2):=by simpa using h
    exact this
   subst e
   exact⟨l.length - (i+1),by omega,i+1,by omega,by rw[Zam (by omega) (by omega)];rfl,by rw[List.take_add_one,List.take_add_one,hx,hy,heq],rfl⟩
 ·have hi:i=l.length:=by omega
  subst hi
  show Value.bool true=Value.bool _
  rw[List.take_length,aZ,List.take_length]at heq
  rw[decide_eq_true heq]
set_option maxHeartbeats 2000000 in
theorem Zq3(m:Mem):CX Tryz.prog 8 #[] m [] (Ret (.bool true)):=by
 apply Zi4
 refine Zai (Zzi 5 m) Zgb (Zvk λm1 aB=>Zai (ZBk m1) Zgb (Zvk λm2 aN=>Zai (Zzi 3 m2) Zgb (Zvk λm3 aX=>Zai (ZAA m3) Zgb (Zvk λm4 bI=>Zai (Zzi 3 m4) Zgb (Zvk λm5 cP=>Zai (ZAA m5) Zgb (Zvk λm6 iR=>?_))))))
 intro b hf
 have j3:=mLt aB (mLt aN (mLt aX (mLt bI (mLt cP iR))))
 refine Zai (ZyD Zzg (some ⟨b,0,none⟩) 6 _) ZwG ?_
 rintro n1 a1 n2 c2 a3 n3 c3 m7 jm ⟨sa,hv,aM⟩
 simp only[Sc.v,Value.agg.injEq,Array.mk.injEq,List.cons.injEq,Value.int.injEq,Value.slice.injEq,true_and,and_true]at hv
 obtain⟨rfl,⟨rfl,rfl,rfl⟩,rfl,rfl,rfl⟩:=hv
 have r6:=mLt j3 (mLt (Mem.le_add hf _) jm)
 have pG:rowRd m7 (some ⟨b,0,none⟩) (Zzg.map Ru.cs).flatten:=(show rowRd (m6.add b (Zzg.map Ru.cs).flatten) (some ⟨b,0,none⟩) (Zzg.map Ru.cs).flatten from ZbO).mono jm
 have hC:RepC m7 (exS a3 (some ⟨b,0,none⟩)):=by
  refine⟨by show I64 4;unfold I64;omega,by show 0<=few;omega,.inl rfl,by simp[exS],by show 1<=few;unfold few;omega,aM,?_,Nat.le_refl _,Nat.le_refl _⟩
  intro x hx
  have hx:x∈[(⟨⟨#[97]⟩,some ⟨b,0,none⟩,6,Zzg⟩:Sta)]:=hx
  rw[List.mem_singleton]at hx;subst hx
  refine⟨by show(ByteArray.mk #[97]).size<=_;decide,by show 6<=few;unfold few;omega,pG,?_⟩
  intro r hr
  have hr:r∈Zzg:=hr
  simp only[Zzg,List.mem_cons,List.not_mem_nil,or_false]at hr
  rcases hr with rfl|rfl|rfl|rfl|rfl|rfl <;> exact ZzZ (by omega) (by unfold I64;omega) (by decide)
 have eT:ZhO toO (exS a3 (some ⟨b,0,none⟩)) 0=Zer 2 true 0:=ZBO _ _
 have eE:ZhO eoO (exS a3 (some ⟨b,0,none⟩)) 0=Zer 3 true 0:=ZBP _ _
 have e3:Zxb (exS a3 (some ⟨b,0,none⟩)) 0 3=Zer 2 true 0:=ZzX _ _
 have e5:Zxb (exS a3 (some ⟨b,0,none⟩)) 0 5=Zer 0 false 0:=ZzY _ _
 have eO:okS (exS a3 (some ⟨b,0,none⟩))=true:=ZBN _ _
 have eD:ZaK (exS a3 (some ⟨b,0,none⟩))=[((0:Int),(0:Int)),(0,4),(0,5)]:=ZzW _ _
 have c1:=λM=>ZlZ (exS a3 (some ⟨b,0,none⟩)) 0 M
 have c2:=λM=>ZzT (exS a3 (some ⟨b,0,none⟩)) 0 M
 have c3:=λM=>Zyy (exS a3 (some ⟨b,0,none⟩)) 0 3 M
 have c5:=λM=>Zyy (exS a3 (some ⟨b,0,none⟩)) 0 5 M
 rw[eT]at c1;rw[eE]at c2;rw[e3]at c3;rw[e5]at c5
 intro b1
 refine Zai (c1 m7 hC) ZfD λn4 b4 e4 m8 gZ qr=>?_
 obtain⟨rfl,rfl,rfl⟩:=Zid qr
 refine Zai (c2 m8 (hC.mono gZ)) ZfD λn5 b5 e5' m9 nX oZ=>?_
 obtain⟨rfl,rfl,rfl⟩:=Zid oZ
 have uk:=mLt gZ nX
 refine Zai (Zie (exS a3 (some ⟨b,0,none⟩)) m9 (hC.mono uk)) Zd2 λa6 n6 c6 e6 m10 iT nZ=>?_
 have nZ:=ZfE nZ
 rw[eO]at nZ
 obtain⟨rfl,rfl,_,jI⟩:=nZ
 have pH:=mLt uk iT
 refine Zai (c3 m10 (hC.mono pH)) ZfD λn7 b7 e7 m11 lN wL=>?_
 obtain⟨rfl,rfl,rfl⟩:=Zid wL
 have pI:=mLt pH lN
 refine Zai (c5 m11 (hC.mono pI)) ZfD λn8 b8 e8 m12 jP hU=>?_
 obtain⟨rfl,rfl,rfl⟩:=Zid hU
 have sx:=mLt pI jP
 refine ZdK rfl (ZdK rfl (ZdK rfl (ZdK rfl (ZdK rfl (ZdK rfl (ZdK rfl (ZdK rfl λb9 kP=>?_)))))))
 have sy:=mLt sx (Mem.le_add kP (([((0:Int),(0:Int)),(0,4),(0,5)]:List Dd).map dC).flatten)
 have ul:=Zud (ZaK (exS a3 (some ⟨b,0,none⟩))) [((0:Int),(0:Int)),(0,4),(0,5)] a6 (some ⟨b9,0,none⟩) c6 3 (m12.add b9 (([((0:Int),(0:Int)),(0,4),(0,5)]:List Dd).map dC).flatten) (by rw[eD];decide) (jI.mono (mLt (mLt lN jP) (Mem.le_add kP _))) ZbO
 rw[decide_eq_true eD]at ul
 refine Zah ul λm13 jQ=>ZdK rfl λb10 nC=>?_
 have hK:=λ(l:List Dd)(a:Option Addr)(c:Nat)(M:Mem)(h:m7.le M)(hl:l.length<=1000000000000000) (hr:rowRd M a (l.map dC).flatten)=>Zuc (exS a3 (some ⟨b,0,none⟩)) l a c M (hC.mono h) hl hr
 rw[eO,eD]at hK
 have pJ:=mLt sy (mLt jQ (Mem.le_add nC (([((0:Int),(0:Int)),(0,5)]:List Dd).map dC).flatten))
 refine Zai (hK [(0,0),(0,5)] (some ⟨b10,0,none⟩) 2 _ pJ (by decide) ZbO) Zk5 λb11 e11 m15 sA wM=>?_
 obtain⟨rfl,rfl⟩:=ZnA wM
 intro b12 nu
 have pK:=mLt pJ (mLt sA (Mem.le_add nu (([((0:Int),(5:Int)),(0,0)]:List Dd).map dC).flatten))
 refine Zai (hK [(0,5),(0,0)] (some ⟨b12,0,none⟩) 2 _ pK (by decide) ZbO) Zk5 λb13 e13 m17 sB oe=>?_
 obtain⟨rfl,rfl⟩:=ZnA oe
 intro b14 sC
 have pL:=mLt pK (mLt sB (Mem.le_add sC (([((0:Int),(2:Int))]:List Dd).map dC).flatten))
 refine Zai (hK [(0,2)] (some ⟨b14,0,none⟩) 1 _ pL (by decide) ZbO) Zk5 λb15 e15 m19 sD wN=>?_
 obtain⟨rfl,rfl⟩:=ZnA wN
 rw[Zzh.1,Zzh.2.1,Zzh.2.2]
 exact⟨true,ZpX rfl (ZpX rfl (ZpX rfl ⟨rfl,rfl⟩)),Zac (mLt r6 (mLt pL sD)) rfl⟩
end Go.Proofs.YtojlhhphofhaoaaGreatDoor
end
