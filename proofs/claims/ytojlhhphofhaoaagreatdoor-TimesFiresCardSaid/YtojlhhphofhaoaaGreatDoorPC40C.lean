/- Part of the proof: functions of the program. No condition. -/
import Derived.Test.YtojlhhphofhaoaaGreatDoorPC25MC
import Derived.Test.YtojlhhphofhaoaaGreatDoorPVET
import Derived.Test.YtojlhhphofhaoaaGreatDoorPVEN
import Derived.Test.YtojlhhphofhaoaaGreatDoorMr
import Derived.Test.YtojlhhphofhaoaaGreatDoorPEnv
import Derived.KernelRfl
set_option linter.unusedVariables false
set_option linter.unusedSimpArgs false
set_option linter.unusedSectionVars false
namespace Go.Proofs.YtojlhhphofhaoaaGreatDoor
open Go Go.Eng Go.Rx Go.Proofs Go.RowKit
set_option maxRecDepth 100000
theorem Zlq{α:Type}{cs:α->List Value}{n:Nat}(hn:∀x,(cs x).length=n)(h1:∀x,∀u∈cs x,u.oneCell'=true){m3:Mem}{b3:Nat}(hf:m3.free b3){a:Option Addr}{ts:List α}(t:α)(aM:rowRd m3 a (ts.map cs).flatten)(sz:Nat)(bU:(ts.length+1)*sz<=140737488355328)(hl:ts.length<=1000000){P Q:Prop}(hp:P\/Q){K:Option Addr->Nat->Mem->Prop}
  (k:∀(a':Option Addr)(c':Nat)(m4:Mem),(m3.add b3 (cs t)).le m4->rowRd m4 a' ((ts++[t]).map cs).flatten->ts.length+1<=c'->K a' c' m4):
  (P\/Q)/\∃xs ys:List Value,xs.length=ts.length*n/\ys.length=1*n/\rowRd (m3.add b3 (cs t)) a xs/\rowRd (m3.add b3 (cs t)) (some ⟨b3,0,none⟩) ys/\(∀u:Value,u∈ys->u.oneCell'=true)/\(ts.length+1)*sz<=140737488355328/\ts.length+1<=9223372036854775807/\
   ∀(a':Option Addr)(c':Nat)(m4:Mem),(m3.add b3 (cs t)).le m4->rowRd m4 a' (List.append xs ys)->ts.length+1<=c'->K a' c' m4:=
 ⟨hp,(ts.map cs).flatten,cs t,ZaT hn ts,by rw[hn,Nat.one_mul],aM.mono (Mem.le_add hf _),Zbx,h1 t,bU,by omega,λa' c' m4 hm hr hc=>k a' c' m4 hm (by rw[Zln];exact hr) hc⟩
structure SSta where
 a:Option Addr
 l:List SRul
 d:Nat
def SSta.cs(x:SSta):List Value:=[.slice x.a x.l.length x.d]
theorem SSta.len(x:SSta):x.cs.length=1:=rfl
structure RepSS (m:Mem)(x:SSta):Prop where
 l:x.l.length<=1000000000000000
 d:x.l.length<=x.d
 row:rowRd m x.a (x.l.map SRul.cs).flatten
 all:∀r∈x.l,RepSR m r
theorem RepSS.mono{m m':Mem}{x:SSta}(h:RepSS m x)(hm:m.le m'):RepSS m' x:=⟨h.l,h.d,h.row.mono hm,λa ha=>(h.all a ha).mono hm⟩
structure SScr where
 n:Nat
 va:Option Addr
 vl:List Nat
 vd:Nat
 sa:Option Addr
 sl:List SSta
 sd:Nat
def SScr.cs(x:SScr):List Value:=[.int .u8 x.n,.slice x.va x.vl.length x.vd,.slice x.sa x.sl.length x.sd]
theorem SScr.len(x:SScr):x.cs.length=3:=rfl
structure RepSC (m:Mem)(x:SScr):Prop where
 n:x.n < 256
 v:BytU m x.va x.vl
 vl:x.vl.length<=1000000000000000
 sl:x.sl.length<=1000000000000000
 sd:x.sl.length<=x.sd
 row:rowRd m x.sa (x.sl.map SSta.cs).flatten
 all:∀s∈x.sl,RepSS m s
theorem RepSC.mono{m m':Mem}{x:SScr}(h:RepSC m x)(hm:m.le m'):RepSC m' x:=⟨h.n,h.v.mono hm,h.vl,h.sl,h.sd,h.row.mono hm,λa ha=>(h.all a ha).mono hm⟩
def ByR:Value->Mem->List (List Value)->Prop:=λv _ _=>∃n:Nat,v=.int .i64 n/\n < 256
theorem ZvF:∀(v:Value)(m':Mem) (css:List (List Value)),ByR v m' css->Shape.fits (.int .i64) v=true:=λv _ _ ⟨_,h,_⟩=>by rw[h];rfl
theorem ZyU(x:SScr)(b:Nat)(i:Nat)(m:Mem)(hb:m.reads b 0 x.cs)(hx:RepSC m x)(hi:i<=1000):CX Tryz.prog 31 #[.int .i64 i,.pointer (some ⟨b,0,none⟩)] m [] ByR:=by
 apply ZhW
 have h1:=hb 1 _ rfl
 refine⟨_,h1,Zab rfl (Zaa (λh=>ZaQ (Mem.le_refl _) ⟨0,rfl,by omega⟩) (λh=>⟨_,h1,_,h1,Zab rfl ⟨?_,Zab rfl ?_⟩⟩))⟩
 ·show(x.vl.length:Int)≠0
  have:¬((x.vl.length:Int)=0):=by simpa[slN]using h
  exact this
 have h0:x.vl.length≠0:=by
  intro e
  have:¬((x.vl.length:Int)=0):=by simpa[slN]using h
  omega
 have aP:i % x.vl.length < x.vl.length:=Nat.mod_lt _ (by omega)
 obtain⟨n,hn⟩:=ZaF aP
 obtain⟨jF,b1,o1,gT,eV⟩:=hx.v.get hn
 have lB:Int.tmod (i:Int) ((slN (.slice x.va x.vl.length x.vd):Nat):Int)=((i % x.vl.length:Nat):Int):=rfl
 refine⟨b1,o1,gT,by rw[lB];exact⟨by omega,by show((i % x.vl.length:Nat):Int) < (x.vl.length:Nat);omega⟩,_,by rw[lB,Int.toNat_natCast];exact eV,_,rfl,ZaQ (Mem.le_refl _) ⟨n,?_,jF⟩⟩
 rw[Zan (by omega) (by omega)]
theorem ZAk(n:Int):ConvIs Tryz.prog 3 87 (.int .i64 n) (.float .f64 (FloatKind.f64.nearest n)):=λw=>by
 simp[convert,Tryz.underlying3,Tryz.underlying87,Conv.intToFloat]
theorem ZBz:∀n:Fin 5,((FloatKind.f64.format.div (FloatKind.f64.nearest (n:Nat)) 4611686018427387904).any Zfx)=true:=by decide +kernel
theorem ZBA:∀j < 5,∃s:ByteArray,[Value.string ⟨#[]⟩,.string ⟨#[97]⟩,.string ⟨#[98,98]⟩,.string ⟨#[49]⟩,.string ⟨#[48,46,53]⟩][j*1]?=some (.string s)/\s.size<=3:=by
 intro j hj
 have:j=0\/j=1\/j=2\/j=3\/j=4:=by omega
 rcases this with rfl|rfl|rfl|rfl|rfl <;> exact⟨_,rfl,by decide⟩
theorem Va.one(a:Va):∀u∈a.cs,u.oneCell'=true:=by
 intro u hu
 simp only[Va.cs,List.mem_cons,List.not_mem_nil,or_false]at hu
 rcases hu with rfl|rfl|rfl|rfl <;> rfl
theorem Sta.one(a:Sta):∀u∈a.cs,u.oneCell'=true:=by
 intro u hu
 simp only[Sta.cs,List.mem_cons,List.not_mem_nil,or_false]at hu
 rcases hu with rfl|rfl <;> rfl
theorem Ru.one(a:Ru):∀u∈a.cs,u.oneCell'=true:=by
 intro u hu
 simp only[Ru.cs,List.mem_cons,List.not_mem_nil,or_false]at hu
 rcases hu with rfl|rfl|rfl|rfl|rfl|rfl|rfl|rfl|rfl|rfl|rfl|rfl|rfl|rfl|rfl|rfl <;> rfl
def ScR:Value->Mem->List (List Value)->Prop:=λv m' _=>∃s:Sc,v=s.v/\RepC m' s/\MkC s
theorem ZyV:∀(v:Value)(m':Mem) (css:List (List Value)),ScR v m' css->Shape.fits (.agg [.int .i64,.slice,.slice]) v=true:=λv _ _ ⟨_,h,_⟩=>by rw[h];rfl
theorem ZsG{α:Type}{L:List α}{t:α}{P:Nat->α->Prop}(h:∀j v,L[j]?=some v->P j v)(ht:P L.length t):∀j v,(L++[t])[j]?=some v->P j v:=by
 intro j v hv
 rcases Nat.lt_or_ge j L.length with aP|bX
 ·rw[List.getElem?_append_left aP]at hv;exact h j v hv
 ·have hj:=(List.getElem?_eq_some_iff.1 hv).1
  rw[List.length_append,List.length_singleton]at hj
  obtain rfl:j=L.length:=by omega
  simp at hv;subst hv;exact ht
theorem ZyW{i:Nat}{v:Va}(h:MkV i v):RepV v:=by
 have hm:=List.mem_of_getElem? h.name
 refine⟨?_,?_⟩
 ·rcases List.mem_append.1 hm with hm|hm
  ·have:=Zlo _ hm;omega
  ·have:=Zlp _ hm;omega
 ·rcases h.kind with⟨_,_,h,_⟩|⟨_,_,h,_⟩
  ·rw[h,ZaM];omega
  ·omega
set_option maxHeartbeats 2000000 in
theorem ZyX(x:SScr)(m:Mem)(hx:RepSC m x):CX Tryz.prog 9 #[.agg x.cs.toArray] m [] ScR:=by
 apply Zlf
 intro b m1 aB hb b1
 have eR:=hx.mono aB
 have sN:Int.tmod (x.n:Int) 11=((x.n % 11:Nat):Int):=rfl
 have lW:IntKind.i64.wrap (2+IntKind.i64.wrap (Int.tmod (x.n:Int) 11))=((2+x.n % 11:Nat):Int):=by rw[sN,Zan (n:=((x.n % 11:Nat):Int)) (by omega) (by omega),Zan (by omega) (by omega)];omega
 have sO:x.n % 11 < 11:=Nat.mod_lt _ (by omega)
 refine⟨_,rfl,by omega,λb2=>Zai (Ziw m1) ZdA ?_⟩
 rintro a0 n0 c0 m2 aN ⟨a',c',mO,gz⟩
 simp only[Value.slice.injEq]at mO
 obtain⟨rfl,rfl,rfl⟩:=mO
 rw[lW]
 generalize x.n % 11=u at sO
 have cD:=mLt aB aN
 refine⟨λxs css tvs m' q=>∃(L:List Va)(a:Option Addr)(d:Nat),L.length<=4/\xs=[.int .i64 L.length]/\css=[[.int .i64 ((2+u:Nat):Int),.slice a L.length d,.slice none 0 0]]/\tvs=[.slice a L.length d]/\L.length<=d/\rowRd m' a (L.map Va.cs).flatten/\(∀j v,L[j]?=some v->MkV j v)/\q=4 - L.length,⟨4,[],none,0,by simp,rfl,rfl,rfl,by simp,.inl rfl,by simp,rfl⟩,?_⟩
 rintro z cs a n1 d m3 q aW ⟨L,a',d',xq,hz,cN,eF,ww,aM,jE,rfl⟩
 simp only[List.cons.injEq,Value.slice.injEq,Value.int.injEq,true_and,and_true]at hz cN eF
 obtain⟨rfl,rfl,rfl⟩:=eF
 subst hz cN
 have pF:=mLt aN aW
 refine Zaz (λaP=>?_) (λbX=>?_)
 ·have aV:L.length < 4:=by have:(L.length:Int) < (ZjW.length:Nat):=aP;have:ZjW.length=4:=rfl;omega
  obtain⟨s,hs⟩:=ZaF (l:=ZjW) (k:=L.length) aV
  obtain⟨b3,o3,gA,cG⟩:=ZcP (gz.mono aW) hs
  refine⟨b3,o3,gA,⟨by omega,aP⟩,_,cG,s,rfl,λ_ _ _=>ByR,Zaq rfl ⟨_,rfl,ZyU x b L.length m3 (hb.mono pF) (eR.mono pF) (by omega),ZvF,?_⟩⟩
  rintro n4 m4 bV ⟨n,hn,jF⟩
  obtain rfl:n4=n:=by simpa using hn
  have hq:=ZBz ⟨n % 5,Nat.mod_lt _ (by omega)⟩
  obtain⟨r,hr,gx⟩:=(Option.any_eq_true ..).1 hq
  have hr:FloatKind.f64.format.div (FloatKind.f64.nearest ((n % 5:Nat):Int)) 4611686018427387904=some r:=hr
  have qJ:Int.tmod (n:Int) 5=((n % 5:Nat):Int):=rfl
  refine⟨by omega,_,ZAk _,_,by rw[qJ];exact ZvC _ hr,Zab rfl (Zab rfl (Zab rfl λb5 jo=>Zab rfl ?_))⟩
  have hw:IntKind.i64.wrap ((L.length:Int)+1)=((L.length+1:Nat):Int):=by rw[Zan (by omega) (by omega)];rfl
  refine Zlq Va.len Va.one jo (⟨s,true,.empty,r⟩:Va) (aM.mono bV) 48 (by omega) (by omega) (.inl rfl) λa6 c6 m6 gM iZ nj=>Zab rfl λM _ _ _ hM=>⟨rfl,4 - (L.length+1),by omega,L++[⟨s,true,.empty,r⟩],a6,c6,by rw[List.length_append];exact aV,by rw[hw,List.length_append];rfl,by rw[List.length_append];rfl,by rw[List.length_append];rfl,by rw[List.length_append];exact nj,iZ.mono hM,ZsG jE ⟨by rw[List.getElem?_append_left aV];exact hs,.inl ⟨aV,rfl,rfl,gx⟩⟩,by rw[List.length_append];rfl⟩
 have hL:L.length=4:=by have:¬(L.length:Int) < (ZjW.length:Nat):=bX;have:ZjW.length=4:=rfl;omega
 refine Zai (Zn4 m3) ZdA ?_
 rintro a5 n5 c5 m4 bV ⟨a',c',ii,gF⟩
 simp only[Value.slice.injEq]at ii
 obtain⟨rfl,rfl,rfl⟩:=ii
 have ji:=mLt pF bV
 refine⟨λxs css tvs m' q=>∃(W:List Va)(a:Option Addr)(d i:Nat),i<=2/\W.length=4+i/\xs=[.int .i64 i]/\css=[[.int .i64 ((2+u:Nat):Int),.slice a W.length d,.slice none 0 0]]/\tvs=[.slice a W.length d]/\W.length<=d/\rowRd m' a (W.map Va.cs).flatten/\(∀j v,W[j]?=some v->MkV j v)/\q=2 - i,⟨2,L,a,d,0,by omega,by omega,rfl,rfl,rfl,ww,aM.mono bV,jE,rfl⟩,?_⟩
 rintro z cs a7 n7 d7 m5 q dD ⟨W,a',d',i,jd,wx,hz,cN,eF,um,kN,lC,rfl⟩
 simp only[List.cons.injEq,Value.slice.injEq,Value.int.injEq,true_and,and_true]at hz cN eF
 obtain⟨rfl,rfl,rfl⟩:=eF
 subst hz cN
 have sP:=mLt ji dD
 refine Zaz (λaP=>?_) (λbX=>?_)
 ·have aV:i < 2:=by have:(i:Int) < (Zfd.length:Nat):=aP;have:Zfd.length=2:=rfl;omega
  obtain⟨s,hs⟩:=ZaF (l:=Zfd) (k:=i) aV
  obtain⟨b3,o3,gA,cG⟩:=ZcP (gF.mono dD) hs
  have sq:IntKind.i64.wrap ((i:Int)+4)=((i+4:Nat):Int):=by rw[Zan (by omega) (by omega)];rfl
  have hw:IntKind.i64.wrap ((i:Int)+1)=((i+1:Nat):Int):=by rw[Zan (by omega) (by omega)];rfl
  rw[sq,hw]
  refine⟨b3,o3,gA,⟨by omega,aP⟩,_,cG,s,rfl,λ_ _ _=>ByR,Zaq rfl λb4 iY=>⟨_,rfl,ZyU x b (i+4) m5 (hb.mono sP) (eR.mono sP) (by omega),ZvF,?_⟩⟩
  rintro n4 m6 gM ⟨n,hn,jF⟩
  obtain rfl:n4=n:=by simpa using hn
  have qJ:Int.tmod (n:Int) 5=((n % 5:Nat):Int):=rfl
  have h5:n % 5 < 5:=Nat.mod_lt _ (by omega)
  obtain⟨s1,pw,l4⟩:=ZBA (n % 5) h5
  refine⟨by omega,by rw[qJ];exact⟨by omega,by omega⟩,λV _ _ _=>Zaq (by rw[qJ,Int.toNat_natCast];exact pw) ⟨s1,rfl,λV2 wy _ _ b5 jo=>Zab rfl ?_⟩⟩
  refine Zlq Va.len Va.one jo (⟨s,false,s1,0⟩:Va) (kN.mono wy) 48 (by omega) (by omega) (.inl rfl) λa6 c6 m7 jB iZ nj=>Zab rfl λM _ _ _ _ hM=>⟨rfl,rfl,2 - (i+1),by omega,W++[⟨s,false,s1,0⟩],a6,c6,i+1,by omega,by rw[List.length_append];simp;omega,rfl,by rw[List.length_append];rfl,by rw[List.length_append];rfl,by rw[List.length_append];exact nj,iZ.mono hM,ZsG lC ⟨by rw[wx,List.getElem?_append_right (show ZjW.length<=4+i by show 4<=_;omega)];show Zfd[4+i - 4]?=_;rw[show 4+i - 4=i by omega];exact hs,.inr ⟨by omega,rfl,l4,rfl⟩⟩,rfl⟩
 have hW:W.length=6:=by have:¬(i:Int) < (Zfd.length:Nat):=bX;have:Zfd.length=2:=rfl;omega
 have gm:=hx.sl
 have xr:=hx.sd
 have hN:(if(4:Int) < (x.sl.length:Int)then(4:Int)else(x.sl.length:Int))=((min 4 x.sl.length:Nat):Int):=by split <;> omega
 simp only[hN,Int.toNat_natCast,Nat.sub_zero]
 generalize qG:min 4 x.sl.length=N
 refine⟨⟨by omega,by omega⟩,λxs css tvs m' q=>∃(S:List Sta)(a:Option Addr)(e:Nat),S.length<=N/\xs=[.int .i64 S.length]/\css=[[.int .i64 ((2+u:Nat):Int),.slice a7 W.length d7,.slice a S.length e]]/\tvs=[.slice a S.length e]/\S.length<=e/\rowRd m' a (S.map Sta.cs).flatten/\(∀y∈S,RepS m' y)/\(∀j y,S[j]?=some y->MkS N j y)/\q=N - S.length,⟨N,[],none,0,by simp,rfl,rfl,rfl,by simp,.inl rfl,by simp,by simp,rfl⟩,?_⟩
 rintro z cs a8 n8 d8 m6 q gM ⟨S,a',d',xt,hz,cN,eF,wz,l9,ma,pG,rfl⟩
 simp only[List.cons.injEq,Value.slice.injEq,Value.int.injEq,true_and,and_true]at hz cN eF
 obtain⟨rfl,rfl,rfl⟩:=eF
 subst hz cN
 have nS:=mLt sP gM
 have ng:=eR.mono nS
 have un:∀v∈W,RepV v:=λv hv=>by
  obtain⟨j,hj⟩:=List.getElem?_of_mem hv
  exact ZyW (lC j v hj)
 refine Zaz (λaP=>?_) (λbX=>?_)
 ·have aV:S.length < N:=by omega
  obtain⟨y,hy⟩:=ZaF (l:=x.sl) (k:=S.length) (by omega)
  obtain⟨b3,o3,gA,ik⟩:=Zal SSta.len ng.row hy (by omega)
  have mK:=ng.all y (List.mem_of_getElem? hy)
  refine⟨b3,o3,gA,⟨by omega,aP⟩,_,ik 0 _ rfl,Zai (Zp8 m6) ZdA ?_⟩
  rintro a9 n9 c9 m7 jB ⟨a',c',qK,mM⟩
  simp only[Value.slice.injEq]at qK
  obtain⟨rfl,rfl,rfl⟩:=qK
  obtain⟨s,hs⟩:=ZaF (l:=ZxC) (k:=S.length) (by show S.length < 4;omega)
  obtain⟨b4,o4,po,cG⟩:=ZcP mM hs
  have gJ:=mK.l
  have xu:=mK.d
  have wB:(if(5:Int) < (slN (.slice y.a y.l.length y.d):Nat)then(5:Int)else(slN (.slice y.a y.l.length y.d):Nat))=((min 5 y.l.length:Nat):Int):=by
   show(if(5:Int) < (y.l.length:Int)then(5:Int)else(y.l.length:Int))=_
   split <;> omega
  have wC:=mK.mono jB
  refine⟨b4,o4,po,⟨by omega,by show(S.length:Int) < (4:Nat);omega⟩,_,cG,s,rfl,λb5=>Zab rfl (Zab rfl ?_)⟩
  simp only[wB,Int.toNat_natCast,Nat.sub_zero]
  generalize qs:min 5 y.l.length=K
  have wD:=ZnX s (List.mem_of_getElem? hs)
  refine⟨⟨by omega,by show((K:Nat):Int)<=(y.d:Nat);omega⟩,λxs css tvs m' q=>∃(T:List Ru)(a:Option Addr)(e:Nat),T.length<=K/\xs=[.int .i64 T.length]/\css=[[.string s,.slice a T.length e]]/\tvs=[.slice a T.length e]/\rowRd m' a (T.map Ru.cs).flatten/\(∀r∈T,RepR m' r)/\(∀r∈T,MkR N r)/\q=K - T.length,⟨K,[],none,0,by simp,rfl,rfl,rfl,.inl rfl,by simp,by simp,rfl⟩,?_⟩
  rintro z cs a10 n10 d10 m8 q gY ⟨T,a',d',xv,hz,cN,eF,md,mf,pH,rfl⟩
  simp only[List.cons.injEq,Value.slice.injEq,Value.int.injEq,true_and,and_true]at hz cN eF
  obtain⟨rfl,rfl,rfl⟩:=eF
  subst hz cN
  refine Zaz (λfJ=>?_) (λfM=>?_)
  ·have kD:T.length < K:=by omega
   obtain⟨r,hr⟩:=ZaF (l:=y.l) (k:=T.length) (by omega)
   have uo:=wC.mono gY
   obtain⟨b6,o6,jn,fW⟩:=Zal SRul.len uo.row hr (by omega)
   have hw:IntKind.i64.wrap ((T.length:Int)+1)=((T.length+1:Nat):Int):=by rw[Zan (by omega) (by omega)];rfl
   refine⟨b6,o6,jn,⟨by omega,fJ⟩,_,_,_,_,_,_,fW,λb7=>Zab rfl ⟨λ_ _ _=>RuR N,Zaq rfl ⟨_,rfl,ZwX r N m8 (uo.all r (List.mem_of_getElem? hr)) (by omega),ZyR,?_⟩⟩⟩
   rintro k1 k2 k3 k4 k5 k6 k7 k8 k9 k10 ka kb kc ks kd ke kf kg kh ki m9 ni ⟨w,hv,lf,sM⟩ b10 nr
   simp only[Ru.cs,Value.agg.injEq,Array.mk.injEq,List.cons.injEq,Value.int.injEq,Value.bool.injEq,Value.string.injEq,Value.slice.injEq,true_and,and_true]at hv
   obtain⟨rfl,rfl,rfl,rfl,rfl,rfl,rfl,rfl,rfl,rfl,⟨rfl,rfl,rfl⟩,rfl,rfl,⟨rfl,rfl,rfl⟩,rfl,rfl⟩:=hv
   refine Zab rfl ?_
   refine Zlq Ru.len Ru.one nr w (md.mono ni) 168 (by omega) (by omega) (.inl rfl) λa5 c5 m5 dD cK _=>Zab rfl λM _ gR iO ja=>⟨trivial,trivial,K - (T.length+1),by omega,T++[w],a5,c5,by rw[List.length_append];exact kD,by rw[hw,List.length_append];rfl,by rw[List.length_append];rfl,by rw[List.length_append];rfl,cK.mono ja,?_,?_,by rw[List.length_append];rfl⟩
   ·intro z hz
    rcases List.mem_append.1 hz with hz|hz
    ·exact(mf z hz).mono (mLt ni gR)
    ·rw[List.mem_singleton]at hz;subst hz;exact lf.mono gR
   ·intro z hz
    rcases List.mem_append.1 hz with hz|hz
    ·exact pH z hz
    ·rw[List.mem_singleton]at hz;subst hz;exact sM
  ·have hw:IntKind.i64.wrap ((S.length:Int)+1)=((S.length+1:Nat):Int):=by rw[Zan (by omega) (by omega)];rfl
   have uq:=mLt jB gY
   refine Zaq rfl (Zab rfl λb6 iJ=>Zab rfl ?_)
   refine Zlq Sta.len Sta.one iJ (⟨s,a10,d10,T⟩:Sta) (l9.mono uq) 40 (by omega) (by omega) (.inl rfl) λa5 c5 m5 dD cK sw=>Zab rfl ⟨trivial,trivial,N - (S.length+1),by omega,S++[⟨s,a10,d10,T⟩],a5,c5,by rw[List.length_append];exact aV,by rw[hw,List.length_append];rfl,by rw[List.length_append];rfl,by rw[List.length_append];rfl,by rw[List.length_append];exact sw,cK,?_,ZsG pG ⟨hs,by show T.length<=5;omega,pH⟩,by rw[List.length_append];rfl⟩
   have fP:=mLt (Mem.le_add iJ (⟨s,a10,d10,T⟩:Sta).cs) dD
   intro z hz
   rcases List.mem_append.1 hz with hz|hz
   ·exact(ma z hz).mono (mLt uq fP)
   ·rw[List.mem_singleton]at hz;subst hz
    exact⟨by show s.size<=_;omega,by show T.length<=few;unfold few;omega,md.mono fP,λr hr=>(mf r hr).mono fP⟩
 ·have wE:S.length=N:=by omega
  have jA:=mLt aB nS
  have pI:W.length<=few:=by unfold few;omega
  have hn:I64 ((2+u:Nat):Int):=by unfold I64;omega
  have ur:m5.le m6:=gM
  refine Zaq rfl (Zab rfl (Zaa (λh0=>λb3 iI=>Zab rfl (Zab rfl ?_)) (λh0=>Zab rfl (ZaQ jA ⟨⟨((2+u:Nat):Int),a7,d7,W,a8,d8,S⟩,rfl,⟨hn,pI,kN.mono ur,un,by show S.length<=few;unfold few;omega,l9,ma,um,wz⟩,⟨by show 2<=((2+u:Nat):Int)/\((2+u:Nat):Int)<=12;omega,hW,lC,?_,?_⟩⟩))))
  ·have fP:=Mem.le_add iI [Value.string ⟨#[97]⟩,.slice none 0 0]
   refine ZaQ (mLt jA fP) ⟨⟨((2+u:Nat):Int),a7,d7,W,some ⟨b3,0,none⟩,1,[⟨⟨#[97]⟩,none,0,[]⟩]⟩,rfl,⟨hn,pI,(kN.mono ur).mono fP,un,by show 1<=few;unfold few;omega,Zbx,?_,um,by show 1<=1;omega⟩,⟨by show 2<=((2+u:Nat):Int)/\((2+u:Nat):Int)<=12;omega,hW,lC,by show 1<=1/\1<=4;omega,?_⟩⟩
   ·intro y hy
    rw[List.mem_singleton]at hy;subst hy
    exact⟨by show(ByteArray.mk #[97]).size<=_;decide,by show 0<=few;omega,.inl rfl,by simp⟩
   ·intro j y hy
    have:j=0:=by have:=(List.getElem?_eq_some_iff.1 hy).1;simp at this;omega
    subst this
    simp at hy;subst hy
    exact⟨rfl,by show 0<=5;omega,by simp⟩
  ·have:¬((S.length:Int)=0):=by simpa[slN]using h0
   show 1<=S.length/\S.length<=4
   omega
  ·intro j y hy
   show MkS S.length j y
   rw[wE];exact pG j y hy
def ZBb(o:Option Nat):Int:=match o with
 | none=>-1
 | some t=>(t:Nat)
def ZAl(o:Option Nat):Value:=.tuple #[.int .i64 (Zrc o),.bool o.isSome]
theorem ZwY(o:Option Nat):(if(0:Int) > ZBb o then(0:Int)else ZBb o)=Zrc o:=by
 cases o with
 | none=>rfl
 | some t=>show(if(0:Int) > (t:Nat)then _ else _)=((t:Nat):Int);rw[if_neg (by omega)];rfl
theorem ZyY(o:Option Nat):decide (ZBb o ≥ 0)=o.isSome:=by
 cases o with
 | none=>rfl
 | some t=>exact decide_eq_true (show((t:Nat):Int) ≥ 0 by omega)
set_option maxHeartbeats 1000000 in
theorem ZsH(l:List Ru)(a:Option Addr)(c:Nat)(g1 g2:Nat)(cnt:Ru->Bool)(key:Ru->Int)(m:Mem)(hl:l.length<=1000000)(hr:rowRd m a (l.map Ru.cs).flatten)
  (h1:∀x∈l,∀m',m.le m'->CX Tryz.prog g1 #[.agg x.cs.toArray] m' [] (Ret (.bool (cnt x)))) (h2:∀x∈l,∀m',m.le m'->CX Tryz.prog g2 #[.agg x.cs.toArray] m' [] (Ret (.int .i64 (key x)))):
  CX Tryz.prog 83 #[.slice a l.length c,.func (.func g1) #[] #[],.func (.func g2) #[] #[]] m [] (Ret (ZAl (ZBn l cnt key))):=by
 apply Zdc a l.length c g1 [] [] g2 [] []
 refine⟨λxs _ _ m' q=>∃i:Nat,i<=l.length/\xs=[.int .i64 (ZBb (Zfe l cnt key i)),.int .i64 i]/\q=l.length - i,⟨l.length,0,by omega,rfl,rfl⟩,?_⟩
 rintro n n1 m1 q aB ⟨i,hi,hx,rfl⟩
 simp only[List.cons.injEq,Value.int.injEq,true_and,and_true]at hx
 obtain⟨rfl,rfl⟩:=hx
 have hw:IntKind.i64.wrap ((i:Int)+1)=((i+1:Nat):Int):=by rw[Zan (by omega) (by omega)];rfl
 refine Zaz (λaP=>?_) (λbX=>Zac aB ?_)
 ·have aV:i < l.length:=by omega
  obtain⟨x,hx⟩:=Zdw aV
  have jM:=List.mem_of_getElem? hx
  have dI:=Zrb (cnt:=cnt) (key:=key) hx
  obtain⟨b,o,ha,dM⟩:=Zal Ru.len (hr.mono aB) hx (by omega)
  refine⟨b,o,ha,⟨by omega,aP⟩,_,_,_,_,_,_,_,_,_,_,_,_,_,_,_,_,dM,λb1=>Zab rfl ?_⟩
  refine⟨λk _ _=>if k=2 then Ret (.bool (cnt x))else if k=9 then Ret (.int .i64 (key x))else Ret (.int .i64 (key ((l[(Zfe l cnt key i).getD 0]?).getD x))),_,rfl,h1 x jM m1 aB,λv _ _ e=>by rw[show v=_ from e];rfl,?_⟩
  intro bb m2 aN hb
  obtain rfl:bb=cnt x:=by simpa[Ret]using hb
  refine Zaa (λhc=>?_) (λhc M hM _ _ _=>⟨l.length - (i+1),by omega,i+1,aV,by rw[dI,hc,hw];rfl,rfl⟩)
  rw[hc,Bool.true_and]at dI
  cases ht:Zfe l cnt key i with
  | none=>
   rw[ht]at dI
   refine Zaz (λ_ M _ _ _ _=>⟨l.length - (i+1),by omega,i+1,aV,by rw[dI,hw];rfl,rfl⟩) (λh=>absurd (show ZBb none < 0 by decide) h)
  | some t=>
   rw[ht]at dI
   obtain⟨xw,y,hy,_⟩:=ZaS ht
   have nU:=List.mem_of_getElem? hy
   refine Zaz (λh=>absurd (show((t:Nat):Int) < 0 from h) (by omega)) (λ_=>?_)
   refine⟨_,rfl,h2 x jM m2 (mLt aB aN),λv _ _ e=>by rw[show v=_ from e];rfl,?_⟩
   intro k1 m3 aW iD
   obtain rfl:k1=key x:=by simpa[Ret]using iD
   obtain⟨b2,o2,kJ,ik⟩:=Zal Ru.len (hr.mono (mLt aB aN)) hy (by omega)
   have i7:((t:Nat):Int) < l.length:=by omega
   refine⟨b2,o2,kJ,⟨by show(0:Int)<=(t:Nat);omega,i7⟩,_,_,_,_,_,_,_,_,_,_,_,_,_,_,_,_,by show Mem.reads _ _ (o2+Int.toNat ((t:Nat):Int)*16) _;rw[Int.toNat_natCast];exact ik,_,rfl,?_,λv _ _ e=>by rw[show v=_ from e];rfl,?_⟩
   ·show CX _ _ _ _ _ (Ret (.int .i64 (key ((l[t]?).getD x))))
    rw[hy];exact h2 y nU m3 (mLt aB (mLt aN aW))
   ·intro k2 m4 bV jf
    have jf:k2=key y:=by
     have:Value.int .i64 k2=.int .i64 (key ((l[t]?).getD x)):=jf
     rw[hy]at this;simpa using this
    subst jf
    intro M _ _ _ _
    have ko:Zvl l key (some t) x=decide (key x < key y):=by show(match l[t]? with|some y=>decide (key x < key y)|none=>false)=_;rw[hy]
    rw[ko]at dI
    refine Zaz (λh=>⟨l.length - (i+1),by omega,i+1,aV,?_,rfl⟩) (λh=>⟨l.length - (i+1),by omega,i+1,aV,?_,rfl⟩)
    ·rw[dI,decide_eq_true h,hw];rfl
    ·rw[dI,decide_eq_false h,hw];rfl
 ·have:i=l.length:=by omega
  subst this
  show Value.tuple #[.int .i64 _,.bool _]=Value.tuple #[.int .i64 _,.bool _]
  rw[ZwY,ZyY];rfl
theorem Zgn{o}:∀(v:Value)(m':Mem) (css:List (List Value)),Ret (ZAl o) v m' css->Shape.fits (.tup [.int .i64,.bool]) v=true:=λv _ _ e=>by rw[show v=_ from e];rfl
theorem ZBB{n:Int}{b:Bool}{o:Option Nat}{m':Mem}(h:Ret (ZAl o) (.tuple #[.int .i64 n,.bool b]) m' []):n=Zrc o/\b=o.isSome:=by
 have h:Value.tuple #[.int .i64 n,.bool b]=ZAl o:=h
 unfold ZAl at h
 simpa using h
theorem ZyZ(x:Sta)(m:Mem)(hx:RepS m x):CX Tryz.prog 49 #[.agg x.cs.toArray] m [] (Ret (ZAl (toO x))):=by
 apply Zgu
 intro b m1 aB _
 refine Zai (ZsH x.rules x.ra x.rc 84 85 ZzM ZBN m1 (by have:=hx.len;unfold few at this;omega) (hx.row.mono aB) (λr hr m' hm'=>?_) (λr hr m' hm'=>?_)) Zgn λn b1 m2 aN hv=>?_
 ·apply ZeS
  exact λb m1 aB _=>Zac aB rfl
 ·apply ZeT
  exact λb m1 aB _=>Zac aB rfl
 ·exact Zac (mLt aB aN) hv
theorem Zy0(x:Sta)(m:Mem)(hx:RepS m x):CX Tryz.prog 50 #[.agg x.cs.toArray] m [] (Ret (ZAl (eoO x))):=by
 apply ZmT
 intro b m1 aB _
 refine Zai (ZsH x.rules x.ra x.rc 86 87 ZxD ZBo m1 (by have:=hx.len;unfold few at this;omega) (hx.row.mono aB) (λr hr m' hm'=>?_) (λr hr m' hm'=>?_)) Zgn λn b1 m2 aN hv=>?_
 ·apply ZiJ
  exact λb m1 aB _=>Zac aB rfl
 ·apply ZiK
  exact λb m1 aB _=>Zac aB rfl
 ·exact Zac (mLt aB aN) hv
def okS(s:Sc):Bool:=s.check.2 == 0
def Zdh(s:Sc)(i:Int):Int:=if okS s then(if i < 0\/i ≥ s.states.length then 250 else 0)else 400
theorem ZsI(s:Sc)(i:Int)(m:Mem)(hr:RepC m s):CX Tryz.prog 48 #[s.v,.int .i64 i] m [] (Ret (.int .i64 (Zdh s i))):=by
 apply ZiL
 intro b m1 aB _
 refine Zah (Zp2 s m1 (hr.mono aB)) λm2 aN=>?_
 have cD:=mLt aB aN
 show br (!okS s) _ _
 refine Zaa (λh=>Zac cD ?_) (λh=>⟨decide (i < 0\/i ≥ s.states.length),Zaz (λh=>⟨rfl,Zaf ?_⟩) (λh=>⟨rfl,Zaf ?_⟩),Zaz (λh1=>Zac cD ?_) (λh1=>Zac cD ?_)⟩)
 ·have:okS s=false:=by simpa using h
  unfold Zdh;rw[this];rfl
 ·exact(decide_eq_true (.inl h)).symm
 ·rw[decide_eq_decide];omega
 ·have:okS s=true:=by simpa using h
  unfold Zdh;rw[this,if_pos rfl,if_pos h1]
 ·have:okS s=true:=by simpa using h
  unfold Zdh;rw[this,if_pos rfl,if_neg h1]
theorem Zlr{s:Sc}{i:Int}(h:Zdh s i=0):okS s=true/\∃(k:Nat)(x:Sta),i=k/\s.states[k]?=some x:=by
 unfold Zdh at h
 split at h
 ·rename_i hs
  split at h
  ·omega
  ·rename_i hi
   obtain⟨x,hx⟩:=Zdw (l:=s.states) (n:=i.toNat) (by omega)
   exact⟨hs,i.toNat,x,by omega,hx⟩
 ·omega
def ZeF(n:Int)(b:Bool)(e:Int):Value:=.tuple #[.int .i64 n,.bool b,.int .i64 e]
theorem ZdK{n b e}:∀(v:Value)(m':Mem) (css:List (List Value)),Ret (ZeF n b e) v m' css->Shape.fits (.tup [.int .i64,.bool,.int .i64]) v=true:=λv _ _ e=>by rw[show v=_ from e];rfl
theorem ZeZ{n n' e e':Int}{b b':Bool}{m':Mem}(h:Ret (ZeF n b e) (.tuple #[.int .i64 n',.bool b',.int .i64 e']) m' []):n'=n/\b'=b/\e'=e:=by
 have h:Value.tuple #[.int .i64 n',.bool b',.int .i64 e']=ZeF n b e:=h
 unfold ZeF at h
 simpa using h
def Zzq(f:Sta->Option Nat)(s:Sc)(i:Int):Option Nat:=match s.states[i.toNat]? with
 | some x=>f x
 | none=>none
def Zgo(f:Sta->Option Nat)(s:Sc)(i:Int):Value:=if Zdh s i=0 then ZeF (Zrc (Zzq f s i)) (Zzq f s i).isSome 0 else ZeF 0 false (Zdh s i)
theorem ZwZ(f:Sta->Option Nat)(s:Sc)(i:Int):∃n b e,Zgo f s i=ZeF n b e:=by unfold Zgo;split <;> exact⟨_,_,_,rfl⟩
theorem Zix(s:Sc)(i:Int)(m:Mem)(hr:RepC m s):CX Tryz.prog 18 #[s.v,.int .i64 i] m [] (Ret (Zgo toO s i)):=by
 apply Zgv
 intro b m1 aB _
 refine Zav (ZsI s i m1 (hr.mono aB)) λm2 aN=>Zaa (λh=>Zac (mLt aB aN) ?_) (λh=>?_)
 ·have:¬Zdh s i=0:=by simpa using h
  unfold Zgo;rw[if_neg this];rfl
 ·have h:Zdh s i=0:=by simpa using h
  obtain⟨_,k,x,rfl,hx⟩:=Zlr h
  have cD:=mLt aB aN
  obtain⟨b1,o1,ha,dM⟩:=Zal Sta.len (hr.mono cD).row hx (by omega)
  have hk:=(List.getElem?_eq_some_iff.1 hx).1
  refine⟨b1,o1,ha,⟨by omega,by omega⟩,_,_,by rw[Int.toNat_natCast];exact dM,Zai (ZyZ x m2 ((hr.mono cD).all x (List.mem_of_getElem? hx))) Zgn λn b2 m3 aW hv=>?_⟩
  obtain⟨rfl,rfl⟩:=ZBB hv
  refine Zac (mLt cD aW) ?_
  show _=Zgo toO s k
  unfold Zgo Zzq
  rw[if_pos h,Int.toNat_natCast,hx];rfl
theorem Zy1(s:Sc)(i:Int)(m:Mem)(hr:RepC m s):CX Tryz.prog 19 #[s.v,.int .i64 i] m [] (Ret (Zgo eoO s i)):=by
 apply ZmU
 intro b m1 aB _
 refine Zav (ZsI s i m1 (hr.mono aB)) λm2 aN=>Zaa (λh=>Zac (mLt aB aN) ?_) (λh=>?_)
 ·have:¬Zdh s i=0:=by simpa using h
  unfold Zgo;rw[if_neg this];rfl
 ·have h:Zdh s i=0:=by simpa using h
  obtain⟨_,k,x,rfl,hx⟩:=Zlr h
  have cD:=mLt aB aN
  obtain⟨b1,o1,ha,dM⟩:=Zal Sta.len (hr.mono cD).row hx (by omega)
  have hk:=(List.getElem?_eq_some_iff.1 hx).1
  refine⟨b1,o1,ha,⟨by omega,by omega⟩,_,_,by rw[Int.toNat_natCast];exact dM,Zai (Zy0 x m2 ((hr.mono cD).all x (List.mem_of_getElem? hx))) Zgn λn b2 m3 aW hv=>?_⟩
  obtain⟨rfl,rfl⟩:=ZBB hv
  refine Zac (mLt cD aW) ?_
  show _=Zgo eoO s k
  unfold Zgo Zzq
  rw[if_pos h,Int.toNat_natCast,hx];rfl
def ZAm(s:Sc)(i t:Int):Bool:=match s.states[i.toNat]? with
 | some x=>(match toO x with
  | some k=>(match x.rules[k]? with
   | some r=>r.n == t
   | none=>false)
  | none=>false)
 | none=>false
def ZxG(s:Sc)(i t:Int):Value:=if Zdh s i=0 then(if ZAm s i t then ZeF (Zrc (Zzq toO s i)) true 0 else ZeF 0 false 0)else ZeF 0 false (Zdh s i)
theorem Zy2(s:Sc)(i t:Int)(m:Mem)(hr:RepC m s):CX Tryz.prog 20 #[s.v,.int .i64 i,.int .i64 t] m [] (Ret (ZxG s i t)):=by
 apply ZmV
 intro b m1 aB _
 obtain⟨n0,b0,e0,hA⟩:=ZwZ toO s i
 have hT:=Zix s i m1 (hr.mono aB)
 rw[hA]at hT
 refine Zai hT ZdK λn b1 e m2 aN hv=>?_
 obtain⟨rfl,rfl,rfl⟩:=ZeZ hv
 have cD:=mLt aB aN
 by_cases hp:Zdh s i=0
 ·obtain⟨_,k,x,rfl,hx⟩:=Zlr hp
  unfold Zgo at hA
  rw[if_pos hp]at hA
  have hO:Zzq toO s k=toO x:=by unfold Zzq;rw[Int.toNat_natCast,hx]
  rw[hO]at hA
  obtain⟨rfl,rfl,rfl⟩:n=Zrc (toO x)/\b1=(toO x).isSome/\e=0:=by
   unfold ZeF at hA;simp at hA;exact⟨hA.1.symm,hA.2.1.symm,hA.2.2.symm⟩
  have hk:=(List.getElem?_eq_some_iff.1 hx).1
  have hB:ZAm s k t=(match toO x with
   | some k=>(match x.rules[k]? with
    | some r=>r.n == t
    | none=>false)
   | none=>false):=by unfold ZAm;rw[Int.toNat_natCast,hx]
  have hV:ZxG s k t=if ZAm s k t then ZeF (Zrc (toO x)) true 0 else ZeF 0 false 0:=by unfold ZxG;rw[if_pos hp,hO]
  refine⟨!ZAm s k t,ZcI rfl (Zaa (λh=>⟨rfl,Zaf ?_⟩) (λh=>?_)),Zaa (λh=>Zac cD ?_) (λh=>Zac cD ?_)⟩
  ·have:toO x=none:=by simpa using h
   rw[hB,this];rfl
  ·obtain⟨j,hj⟩:∃j,toO x=some j:=by
    cases hj:toO x with
    | none=>rw[hj]at h;cases h
    | some j=>exact⟨j,rfl⟩
   obtain⟨_,r,eV,_⟩:=ZaS hj
   have nQ:=(List.getElem?_eq_some_iff.1 eV).1
   obtain⟨b2,o2,kJ,dM⟩:=Zal Sta.len (hr.mono cD).row hx (by omega)
   obtain⟨b3,o3,gA,fW⟩:=Zal Ru.len ((hr.mono cD).all x (List.mem_of_getElem? hx)).row eV (by omega)
   rw[hB,hj,show Zrc (some j)=(j:Nat) from rfl]
   refine⟨b2,o2,kJ,⟨by omega,by omega⟩,.slice x.ra x.rules.length x.rc,by rw[Int.toNat_natCast];exact dM 1 _ rfl,Zab rfl ⟨b3,o3,gA,⟨by omega,by show((j:Nat):Int) < (x.rules.length:Nat);omega⟩,.int .i64 r.n,by rw[Int.toNat_natCast];exact fW 12 _ rfl,Zab rfl ⟨rfl,Zaf ?_⟩⟩⟩
   show(!(r.n == t))=!(match x.rules[j]? with|some r=>r.n == t|none=>false)
   rw[eV]
  ·have:ZAm s k t=false:=by simpa using h
   show _=ZxG s k t
   rw[hV,this];rfl
  ·have:ZAm s k t=true:=by simpa using h
   show _=ZxG s k t
   rw[hV,this];rfl
 ·unfold Zgo at hA
  rw[if_neg hp]at hA
  obtain⟨rfl,rfl,rfl⟩:n=0/\b1=false/\e=Zdh s i:=by
   unfold ZeF at hA;simp at hA;exact⟨hA.1.symm,hA.2.1,hA.2.2.symm⟩
  refine⟨true,ZgR (by simpa using hp) ⟨rfl,rfl⟩,ZgR rfl (Zac cD ?_)⟩
  show _=ZxG s i t
  unfold ZxG;rw[if_neg hp];rfl
theorem Zy3(s:Sc)(m:Mem):CX Tryz.prog 36 #[s.v] m [] (λv m' _=>∃b,v=.func (.func 68) #[] #[.pointer (some ⟨b,0,none⟩)]/\m'.reads b 0 s.cs):=by
 apply ZkJ
 intro b m' hm hb
 exact⟨m',hm,Mem.le_refl _,b,rfl,hb⟩
theorem ZuA{m:Mem}{s:Sc}(hr:RepC m s)(n:Nat):(deadU s n).length<=few*n:=by
 induction n with
 | zero=>simp[deadU]
 | succ n ih=>
  rw[deadU,List.length_append,Nat.mul_succ]
  refine Nat.add_le_add ih ?_
  split
  ·rename_i x hx
   exact Nat.le_trans (Zky n x x.rules.length) (hr.all x (List.mem_of_getElem? hx)).len
  ·simp
theorem Zls{m:Mem}{s:Sc}(hr:RepC m s):(ZbH s).length<=10000000000:=by
 refine Nat.le_trans (ZuA hr s.states.length) (Nat.le_trans (Nat.mul_le_mul_left _ hr.len) ?_)
 unfold few;omega
theorem Zy4{s:Sc}{i:Nat}{x:Sta}{k:Nat}{r:Ru}(hx:s.states[i]?=some x)(hr:x.rules[k]?=some r)(hb:Zcw x k r=true):(ZbH s)[(deadU s i).length+(ZcL i x k).length]?=some ((i:Int),(k:Int)):=by
 have hi:=(List.getElem?_eq_some_iff.1 hx).1
 have hk:=(List.getElem?_eq_some_iff.1 hr).1
 obtain⟨r1,h1⟩:=ZtO (s:=s) (show i+1<=s.states.length by omega)
 obtain⟨r2,h2⟩:=ZtN (i:=i) (x:=x) (show k+1<=x.rules.length by omega)
 unfold ZbH
 rw[h1,Zir hx,h2,Ziq hr,hb]
 rw[List.append_assoc,List.append_assoc,List.append_assoc,List.getElem?_append_right (by omega),Nat.add_sub_cancel_left,List.getElem?_append_right (Nat.le_refl _),Nat.sub_self]
 rfl
set_option maxHeartbeats 1000000 in
theorem Zw0(s:Sc)(m:Mem)(c0b:Nat)(hr:RepC m s)(hb:m.reads c0b 0 s.cs):IX Tryz.prog 68 [] [.pointer (some ⟨c0b,0,none⟩)] m ((ZbH s).map λd=>[dV d]):=by
 apply Zht 0 [] [] c0b 0
 intro l
 have gm:=hr.len
 unfold few at gm
 refine⟨.slice s.sa s.states.length s.sc,hb 2 _ rfl,Zab rfl ?_⟩
 refine⟨λxs _ _ m' q=>∃i:Nat,i<=s.states.length/\xs=[.int .i64 ((deadU s i).length:Nat),.int .i64 i]/\q=s.states.length - i,⟨s.states.length,0,by omega,rfl,rfl⟩,?_⟩
 rintro y n m1 q aB ⟨i,hi,hx,rfl⟩
 simp only[List.cons.injEq,Value.int.injEq,true_and,and_true]at hx
 obtain⟨rfl,rfl⟩:=hx
 have hw:IntKind.i64.wrap ((i:Int)+1)=((i+1:Nat):Int):=by rw[Zan (by omega) (by omega)];rfl
 refine Zaz (λaP=>?_) (λbX=>.inl ?_)
 ·have aP:(i:Int) < (s.states.length:Nat):=aP
  obtain⟨x,hx⟩:=Zdw (show i < s.states.length by omega)
  have jM:=List.mem_of_getElem? hx
  obtain⟨b1,o1,gT,dM⟩:=Zal Sta.len (hr.mono aB).row hx (by omega)
  have dG:=(hr.mono aB).all x jM
  have jN:=dG.len
  unfold few at jN
  refine Zab rfl ⟨b1,o1,gT,⟨by omega,aP⟩,_,_,dM,λb2=>Zab rfl (Zai (ZyZ x m1 dG) Zgn λn2 b3 m2 aN nf=>Zai (Zy0 x m2 (dG.mono aN)) Zgn λn3 b4 m3 aW nV=>?_)⟩
  obtain⟨rfl,rfl⟩:=ZBB nf
  obtain⟨rfl,rfl⟩:=ZBB nV
  have pF:=mLt aN aW
  have sQ:=dG.mono pF
  refine Zab rfl ⟨λxs _ _ m' q=>∃k:Nat,k<=x.rules.length/\xs=[.int .i64 ((deadU s i).length+(ZcL i x k).length:Nat),.int .i64 k]/\q=x.rules.length - k,⟨x.rules.length,0,by omega,by simp[ZcL],rfl⟩,?_⟩
  rintro y n4 m4 q2 bV ⟨k,hk,iu,rfl⟩
  simp only[List.cons.injEq,Value.int.injEq,true_and,and_true]at iu
  obtain⟨rfl,rfl⟩:=iu
  have ut:IntKind.i64.wrap ((k:Int)+1)=((k+1:Nat):Int):=by rw[Zan (by omega) (by omega)];rfl
  refine Zaz (λfJ=>?_) (λfM=>?_)
  ·have fJ:(k:Int) < (x.rules.length:Nat):=fJ
   obtain⟨r,gK⟩:=Zdw (show k < x.rules.length by omega)
   obtain⟨b5,o5,la,fW⟩:=Zal Ru.len (sQ.mono bV).row gK (by omega)
   have dI:=Ziq (i:=i) gK
   have y1:Zcw x k r=true->List.get?Internal (List.map (λd=>[dV d]) (ZbH s)) (Int.toNat (((deadU s i).length+(ZcL i x k).length:Nat):Int))=some [Value.agg #[.int .i64 i,.int .i64 k]]:=λh=>by
    show(List.map (λd=>[dV d]) (ZbH s))[((((deadU s i).length+(ZcL i x k).length:Nat):Int)).toNat]?=some [Value.agg #[.int .i64 i,.int .i64 k]]
    rw[Int.toNat_natCast,List.getElem?_map,Zy4 hx gK h];rfl
   have y2:Zcw x k r=true->(∃n':Nat,n' < x.rules.length - k/\∃k':Nat,k'<=x.rules.length/\[Value.int .i64 ((((deadU s i).length+(ZcL i x k).length:Nat):Int)+1),Value.int .i64 (IntKind.i64.wrap ((k:Int)+1))]=[.int .i64 ((deadU s i).length+(ZcL i x k').length:Nat),.int .i64 k']/\n'=x.rules.length - k'):=λh=>⟨x.rules.length - (k+1),by omega,k+1,by omega,by rw[dI,h,ut];simp;omega,rfl⟩
   have no:Zcw x k r=false->(∃n':Nat,n' < x.rules.length - k/\∃k':Nat,k'<=x.rules.length/\[Value.int .i64 (((deadU s i).length+(ZcL i x k).length:Nat):Int),Value.int .i64 (IntKind.i64.wrap ((k:Int)+1))]=[.int .i64 ((deadU s i).length+(ZcL i x k').length:Nat),.int .i64 k']/\n'=x.rules.length - k'):=λh=>⟨x.rules.length - (k+1),by omega,k+1,by omega,by rw[dI,h,ut];simp,rfl⟩
   refine Zab rfl ⟨b5,o5,la,⟨by omega,fJ⟩,_,_,_,_,_,_,_,_,_,_,_,_,_,_,_,_,fW,λb6=>Zab rfl (Zab rfl (Zaa (λh4=>?_) (λh4=>?_)))⟩
   ·have h4':(r.k == 4)=true:=h4
    refine Zaa (λdJ=>?_) (λdJ=>Zab rfl (Zaa (λh3=>?_) (λh3=>?_)))
    ·have e:Zcw x k r=true:=by unfold Zcw;rw[h4',dJ];rfl
     exact⟨⟨rfl,Int.natCast_nonneg _,y1 e⟩,⟨rfl,y2 e⟩,.inr rfl⟩
    ·have:r.k=4:=by simpa using h4'
     have h3':(r.k == 3)=true:=h3
     rw[this]at h3';cases h3'
    ·exact⟨rfl,no (by unfold Zcw;rw[dJ,show(r.k == 3)=false from h3];simp)⟩
   ·have h4':(r.k == 4)=false:=h4
    refine Zab rfl (Zaa (λh3=>Zaa (λdJ=>?_) (λdJ=>?_)) (λh3=>?_))
    ·have e:Zcw x k r=true:=by unfold Zcw;rw[h4',show(r.k == 3)=true from h3,dJ];rfl
     exact⟨⟨rfl,Int.natCast_nonneg _,y1 e⟩,⟨rfl,y2 e⟩,.inr rfl⟩
    ·exact⟨rfl,no (by unfold Zcw;rw[h4',dJ];simp)⟩
    ·exact⟨rfl,no (by unfold Zcw;rw[h4',show(r.k == 3)=false from h3];simp)⟩
  ·have fM:¬(k:Int) < (x.rules.length:Nat):=fM
   have:k=x.rules.length:=by omega
   subst this
   exact⟨s.states.length - (i+1),by omega,i+1,by omega,by rw[Zir hx,List.length_append,hw],rfl⟩
 ·have bX:¬(i:Int) < (s.states.length:Nat):=bX
  have:i=s.states.length:=by omega
  subst this
  rw[List.length_map];rfl
theorem ZnA(d:Dd):(dC d).length=2:=rfl
theorem ZAn(d:Dd):∀u∈dC d,u.oneCell'=true:=by
 intro u hu
 simp only[dC,List.mem_cons,List.not_mem_nil,or_false]at hu
 rcases hu with rfl|rfl <;> rfl
def Zw1(s:Sc):Value->Mem->List (List Value)->Prop:=λv m' _=>∃(a:Option Addr)(n c:Nat)(e:Int),v=.tuple #[.slice a n c,.int .i64 e]/\(if okS s then e=0/\n=(ZbH s).length/\n<=c/\rowRd m' a ((ZbH s).map dC).flatten else e=400/\a=none/\n=0/\c=0)
theorem Ziy{s}:∀(v:Value)(m':Mem) (css:List (List Value)),Zw1 s v m' css->Shape.fits (.tup [.slice,.int .i64]) v=true:=λv _ _ ⟨_,_,_,_,e,_⟩=>by rw[e];rfl
theorem Zlt{s:Sc}{a:Option Addr}{n c:Nat}{e:Int}{m':Mem}(h:Zw1 s (.tuple #[.slice a n c,.int .i64 e]) m' []):if okS s then e=0/\n=(ZbH s).length/\n<=c/\rowRd m' a ((ZbH s).map dC).flatten else e=400/\a=none/\n=0/\c=0:=by
 obtain⟨a',n',c',e',hv,h⟩:=h
 simp only[Value.tuple.injEq,Array.mk.injEq,List.cons.injEq,Value.slice.injEq,Value.int.injEq,true_and,and_true]at hv
 obtain⟨⟨rfl,rfl,rfl⟩,rfl⟩:=hv
 exact h
theorem Zy5{α:Type}{cs:α->List Value}{L:List α}{q:Nat}{x:α}(h:L[q]?=some x):((L.take (q+1)).map cs).flatten=((L.take q).map cs).flatten++cs x:=by
 rw[List.take_add_one,h];simp
theorem Zn6(s:Sc)(m:Mem)(hr:RepC m s):CX Tryz.prog 10 #[s.v] m [] (Zw1 s):=by
 apply ZkK
 intro b m1 aB _
 refine Zah (Zp2 s m1 (hr.mono aB)) λm2 aN=>?_
 have cD:=mLt aB aN
 have aX:=Zls hr
 show br (!okS s) _ _
 refine Zaa (λh=>ZaQ cD ⟨_,_,_,_,rfl,?_⟩) (λh=>λb2=>?_)
 ·have:okS s=false:=by simpa using h
  rw[this];exact⟨rfl,rfl,rfl,rfl⟩
 have cC:okS s=true:=by simpa using h
 refine Zai (Zy3 s m2) (λv m' css h=>by obtain⟨_,rfl,_⟩:=h;rfl) ?_
 rintro g fi ca m3 aW ⟨b3,hv,eY⟩
 obtain⟨rfl,rfl,rfl⟩:=Zcj hv
 have dN:=mLt cD aW
 refine⟨_,Zw0 s m3 b3 (hr.mono dN) eY,λy hy=>?_,λxs css tvs m' q=>∃(a:Option Addr)(c:Nat),q<=(ZbH s).length/\xs=[]/\css=[[.slice a q c]]/\tvs=[.slice a q c]/\q<=c/\rowRd m' a (((ZbH s).take q).map dC).flatten,⟨none,0,by omega,rfl,rfl,rfl,by omega,.inl rfl⟩,?_,?_⟩
 ·obtain⟨z,_,rfl⟩:=List.mem_map.1 hy;rfl
 ·rintro n n1 cs a n2 c m4 q bV hq ⟨a',c',tZ,_,cN,eF,sR,aM⟩ b4
  simp only[List.cons.injEq,Value.slice.injEq,and_true]at eF
  obtain⟨rfl,rfl,rfl⟩:=eF
  obtain rfl:cs=[.slice a n2 c]:=by simpa using cN
  have hq:(List.map (λd=>[dV d]) (ZbH s))[n2]?=some [Value.agg #[.int .i64 n,.int .i64 n1]]:=hq
  rw[List.getElem?_map]at hq
  obtain⟨d,hd,qL⟩:=Option.map_eq_some_iff.1 hq
  have qL:dV d=.agg #[.int .i64 n,.int .i64 n1]:=by simpa using qL
  have aP:=(List.getElem?_eq_some_iff.1 hd).1
  obtain⟨rfl,rfl⟩:d.1=n/\d.2=n1:=by unfold dV at qL;simpa using qL
  have lP:((ZbH s).take n2).length=n2:=by rw[List.length_take];omega
  refine Zaq rfl λb5 jo=>Zab rfl ⟨.inl rfl,_,dC d,?_,rfl,aM.mono (Mem.le_add jo _),Zbx,ZAn d,?_,?_,λa6 c6 m6 gM iZ nj=>⟨rfl,a6,c6,by omega,rfl,rfl,rfl,nj,?_⟩⟩
  ·rw[ZaT ZnA,lP];rfl
  ·show(n2+1)*16<=_;omega
  ·show n2+1<=_;omega
  ·rw[Zy5 hd];exact iZ
 ·rintro cs a n c m4 bV ⟨a',c',_,_,cN,eF,sR,aM⟩
  rw[List.length_map]at cN eF sR aM
  simp only[List.cons.injEq,Value.slice.injEq,and_true]at eF
  obtain⟨rfl,rfl,rfl⟩:=eF
  obtain rfl:cs=[.slice a (ZbH s).length c]:=by simpa using cN
  rw[List.take_length]at aM
  refine Zaq rfl (ZaQ (mLt dN bV) ⟨a,_,c,0,rfl,?_⟩)
  rw[cC];exact⟨rfl,rfl,sR,aM⟩
theorem ZvG(a b a' b':Int):EqIs Tryz.prog 37 (.agg #[.int .i64 a,.int .i64 b]) (.agg #[.int .i64 a',.int .i64 b']) (decide (((a,b):Dd)=(a',b'))):=by
 refine⟨λw=>?_,λop ox oy w=>ZhQ (by kernel_rfl) op ox oy _ _ w⟩
 have u3:=Tryz.underlying3
 have a3:=Tryz.isAgg3
 have z3:=Tryz.sizeOf3
 rw[Op.equal,Op.maxDepth,show(10000:Nat)=9999+1 from rfl]
 rw[run_equalIn_agg _ _ _ _ _ (by kernel_rfl) (by kernel_rfl)]
 have hf:(Tryz.prog.fieldsOf 37).toList=[⟨ "State",3,0,false, "", "",0⟩,⟨ "Rule",3,1,false, "", "",8⟩]:=by kernel_rfl
 rw[hf]
 go_simp
 by_cases h1:a=a' <;> by_cases h2:b=b' <;> simp[h1,h2]
def ZzR(l:List Dd)(d:Dd):Int:=match l.findIdx? (· == d)with
 | some i=>(i:Nat)
 | none=>-1
theorem Zqc(l:List Dd)(a:Option Addr)(c:Nat)(d:Dd)(m:Mem)(hl:l.length<=1000000000000000)(hr:rowRd m a (l.map dC).flatten):
  CX Tryz.prog 37 #[.slice a l.length c,dV d] m [] (Ret (.int .i64 (ZzR l d))):=by
 apply Zbi
 intro b m1 aB _
 refine⟨λxs _ _ m' q=>∃i:Nat,i<=l.length/\xs=[.int .i64 i]/\(∀j x,j < i->l[j]?=some x->x≠d)/\q=l.length - i,⟨l.length,0,by omega,rfl,λj x hj=>by omega,rfl⟩,?_⟩
 rintro n m2 q aN ⟨i,hi,hx,eX,rfl⟩
 obtain rfl:n=i:=by simpa using hx
 have cD:=mLt aB aN
 refine Zaz (λaP=>?_) (λbX=>Zac cD ?_)
 ·obtain⟨x,hx⟩:=Zdw (show i < l.length by omega)
  obtain⟨b1,o1,ha,eR⟩:=Zal ZnA (hr.mono cD) hx (by omega)
  refine⟨b1,o1,ha,⟨by omega,aP⟩,_,_,eR,_,ZvG d.1 d.2 x.1 x.2,Zaz (λh=>Zac cD ?_) (λh=>?_)⟩
  ·have h:d=x:=h
   subst h
   have hf:l.findIdx? (· == d)=some i:=List.findIdx?_eq_some_iff_getElem.2 ⟨(List.getElem?_eq_some_iff.1 hx).1,by rw[(List.getElem?_eq_some_iff.1 hx).2];simp,λj hj=>by
    have:=eX j (l[j]'(by omega)) hj (List.getElem?_eq_getElem (by omega))
    simpa using this⟩
   show Value.int .i64 i=Value.int .i64 (ZzR l d)
   unfold ZzR;rw[hf]
  ·have h:¬d=x:=h
   refine⟨rfl,l.length - (i+1),by omega,i+1,by omega,by rw[Zan (by omega) (by omega)];rfl,λj y hj hy=>?_,rfl⟩
   rcases Nat.lt_or_ge j i with h1|h1
   ·exact eX j y h1 hy
   ·obtain rfl:j=i:=by omega
    rw[hx]at hy;cases hy
    exact λe=>h e.symm
 ·have hi:i=l.length:=by omega
  subst hi
  have hf:l.findIdx? (· == d)=none:=by
   rw[List.findIdx?_eq_none_iff]
   intro x hx
   obtain⟨j,hj⟩:=List.getElem?_of_mem hx
   have:=eX j x (List.getElem?_eq_some_iff.1 hj).1 hj
   simpa using this
  show Value.int .i64 (-1)=Value.int .i64 (ZzR l d)
  unfold ZzR;rw[hf]
theorem Zy6(l:List Dd)(d:Dd):decide (ZzR l d ≥ 0)=decide (d∈l):=by
 unfold ZzR
 cases h:l.findIdx? (· == d)with
 | none=>
  rw[List.findIdx?_eq_none_iff]at h
  show decide ((-1:Int) ≥ 0)=_
  symm
  rw[show decide ((-1:Int) ≥ 0)=false by decide,decide_eq_false_iff_not]
  intro hd
  have:=h d hd
  simp at this
 | some i=>
  obtain⟨aP,he,_⟩:=List.findIdx?_eq_some_iff_getElem.1 h
  have he:l[i]=d:=by simpa using he
  show decide (((i:Nat):Int) ≥ 0)=_
  rw[decide_eq_true (show((i:Nat):Int) ≥ 0 by omega),decide_eq_true (show d∈l by rw[<-he];exact List.getElem_mem _)]
theorem Zw2(l:List Dd)(a:Option Addr)(c:Nat)(d:Dd)(m:Mem)(hl:l.length<=1000000000000000)(hr:rowRd m a (l.map dC).flatten):
  CX Tryz.prog 12 #[.slice a l.length c,dV d] m [] (Ret (.bool (decide (d∈l)))):=by
 apply Za3
 intro b m1 aB _
 refine Zav (Zqc l a c d m1 hl (hr.mono aB)) λm2 aN=>Zac (mLt aB aN) ?_
 show Value.bool _=Value.bool _
 rw[Zy6]
theorem ZuB{α:Type}{cs:α->List Value}{n:Nat}(hn:∀x,(cs x).length=n){m:Mem}{a:Option Addr}{L:List α}{c:Nat}(h:rowRd m a (L.map cs).flatten){i:Nat}(hi:i<=L.length)(hc:L.length<=c):rowRd m (ZaV a i c n) ((L.drop i).map cs).flatten:=by
 rcases Nat.lt_or_ge i L.length with aP|bX
 ·unfold ZaV
  cases h0:Nat.beq i 0 with
  | true=>
   have:i=0:=Nat.eq_of_beq_eq_true h0
   subst this;exact h
  | false=>
   have wF:Nat.beq c i=false:=by
    cases hb:Nat.beq c i with
    | false=>rfl
    | true=>have:=Nat.eq_of_beq_eq_true hb;omega
   rw[wF]
   rcases h with h|⟨b,o,ha,h⟩
   ·have h2:=congrArg List.length h
    rw[ZaT hn]at h2
    refine .inl (List.eq_nil_of_length_eq_zero ?_)
    rw[ZaT hn,List.length_drop]
    have h2:L.length*n=0:=by simpa using h2
    rcases Nat.mul_eq_zero.1 h2 with e|e
    ·omega
    ·rw[e,Nat.mul_zero]
   ·refine .inr ⟨b,o+i*n,by rw[ha];show some (Addr.add _ (i*n))=_;rw[ZbR],λj v hj=>?_⟩
    have e:(L.map cs).flatten=((L.take i).map cs).flatten++((L.drop i).map cs).flatten:=by rw[<-List.flatten_append,<-List.map_append,List.take_append_drop]
    have hl:((L.take i).map cs).flatten.length=i*n:=by rw[ZaT hn,List.length_take,Nat.min_eq_left (by omega)]
    rw[Nat.add_assoc]
    refine h (i*n+j) v ?_
    rw[e,List.getElem?_append_right (by omega),hl,Nat.add_sub_cancel_left];exact hj
 ·exact .inl (by rw[List.drop_of_length_le bX];rfl)
def ZsJ(b:Bool)(e:Int):Value:=.tuple #[.bool b,.int .i64 e]
theorem Zlu{b e}:∀(v:Value)(m':Mem) (css:List (List Value)),Ret (ZsJ b e) v m' css->Shape.fits (.tup [.bool,.int .i64]) v=true:=λv _ _ e=>by rw[show v=_ from e];rfl
theorem Zn7{b b':Bool}{e e':Int}{m':Mem}(h:Ret (ZsJ b e) (.tuple #[.bool b',.int .i64 e']) m' []):b'=b/\e'=e:=by
 have h:Value.tuple #[.bool b',.int .i64 e']=ZsJ b e:=h
 unfold ZsJ at h
 simpa using h
theorem ZuC(s:Sc)(l:List Dd)(a:Option Addr)(c:Nat)(m:Mem)(hr:RepC m s)(hl:l.length<=1000000000000000)(aM:rowRd m a (l.map dC).flatten):CX Tryz.prog 11 #[s.v,.slice a l.length c] m [] (Ret (if okS s then ZsJ (Zxz (ZbH s) l) 0 else ZsJ false 400)):=by
 apply ZiN
 intro b m1 aB _
 have aX:=Zls hr
 refine Zai (Zn6 s m1 (hr.mono aB)) Ziy λa1 n1 c1 e m2 aN hv=>?_
 have hv:=Zlt hv
 have cD:=mLt aB aN
 cases cC:okS s with
 | false=>
  rw[cC]at hv
  obtain⟨rfl,rfl,rfl,rfl⟩:=hv
  exact ZgR rfl (Zac cD rfl)
 | true=>
  rw[cC]at hv
  obtain⟨rfl,rfl,hc,pJ⟩:=hv
  refine ZcI rfl ⟨λxs _ _ m' q=>∃(i:Nat)(A:List Dd)(a':Option Addr)(c':Nat),i<=l.length/\xs=[.slice a' A.length c',.int .i64 i]/\A.length<=c'/\A.length<=10000000000/\rowRd m' a' (A.map dC).flatten/\Zxz (ZbH s) l=Zxz A (l.drop i)/\q=l.length - i,⟨l.length,0,ZbH s,a1,c1,by omega,rfl,hc,aX,pJ,rfl,rfl⟩,?_⟩
  rintro a2 n2 c2 i0 m3 q aW ⟨i,A,a',c',hi,hx,wG,xx,mg,eC,rfl⟩
  simp only[List.cons.injEq,Value.slice.injEq,Value.int.injEq,true_and,and_true]at hx
  obtain⟨⟨rfl,rfl,rfl⟩,rfl⟩:=hx
  have dN:=mLt cD aW
  refine Zaz (λaP=>?_) (λbX=>Zac dN ?_)
  ·obtain⟨d,hd⟩:=Zdw (show i < l.length by omega)
   obtain⟨b3,o3,gA,nL⟩:=Zal ZnA (aM.mono dN) hd (by omega)
   have ib:l.drop i=d::l.drop (i+1):=ZoY hd
   refine⟨b3,o3,gA,⟨by omega,aP⟩,_,_,nL,λb4=>Zab rfl (Zav (Zqc A a2 c2 d m3 (by omega) mg) λm4 bV=>?_)⟩
   have dI:Zxz (ZbH s) l=(match A.findIdx? (· == d)with
    | none=>false
    | some j=>Zxz (A.drop (j+1)) (l.drop (i+1))):=by rw[eC,ib,Zxz];rfl
   unfold ZzR
   cases hf:A.findIdx? (· == d)with
   | none=>
    rw[hf]at dI
    refine ZgR (by decide) (Zac (mLt dN bV) ?_)
    show _=ZsJ (Zxz (ZbH s) l) 0
    rw[dI];rfl
   | some j=>
    rw[hf]at dI
    obtain⟨nQ,_,_⟩:=List.findIdx?_eq_some_iff_getElem.1 hf
    have wH:IntKind.i64.wrap ((j:Int)+1)=((j+1:Nat):Int):=by rw[Zan (by omega) (by omega)];rfl
    refine Zaz (λh=>absurd (show((j:Nat):Int) < 0 from h) (by omega)) (λ_=>?_)
    show((0:Int)<=IntKind.i64.wrap ((j:Int)+1)/\IntKind.i64.wrap ((j:Int)+1)<=_)/\_
    rw[wH,Int.toNat_natCast]
    refine⟨⟨by omega,by omega⟩,rfl,l.length - (i+1),by omega,i+1,A.drop (j+1),_,_,by omega,by rw[List.length_drop,Zan (n:=(i:Int)+1) (by omega) (by omega)];rfl,by rw[List.length_drop];omega,by rw[List.length_drop];omega,(ZuB ZnA mg (by omega) wG).mono bV,dI,rfl⟩
  ·have:i=l.length:=by omega
   subst this
   show _=ZsJ (Zxz (ZbH s) l) 0
   rw[eC,List.drop_length]
   cases A <;> rfl
end Go.Proofs.YtojlhhphofhaoaaGreatDoor
namespace Go.Proofs.YtojlhhphofhaoaaGreatDoor
open Go Go.Eng Go.Proofs Go.RowKit
open Go.Value (int slice agg bool string tuple func)
open Go.IntKind (u8 u64 i64)
set_option maxRecDepth 100000
noncomputable def Zqd:Env:=EB
theorem ZnB(p0a:Option Addr)(p0n p0c:Nat)(m:Mem)(R:RT)(h:
 ∀(b b:Nat),m.free b->rtM m (m.add b [string (ByteArray.mk (Array.mk [97])),slice p0a p0n p0c]) R (agg (Array.mk [int i64 4,slice none 0 0,slice (some (Addr.mk b 0 none)) 1 1]))):CX Tryz.prog 26 #[.slice p0a p0n p0c] m [] R:=
 Zae (E:=Zqd) Zak mix Tryz.func26 [.v (.slice p0a p0n p0c)] [] (by kernel_rfl) (Eq.mp (by kernel_rfl) h)
noncomputable def Zh3:Env:=EB
theorem ZgM(p0:Int)(m:Mem)(R:RT)(h:
 ∀(b:Nat),rtM m m R (agg (Array.mk [int u8 4,bool false,bool false,int u8 0,int u64 0,int u64 0,int u64 0,int u64 0,int i64 0,int i64 0,slice none 0 0,string bE0,int i64 p0,slice
 none 0 0,string bE0,int i64 0]))):CX Tryz.prog 27 #[.int .i64 p0] m [] R:=
 Zae (E:=Zh3) Zak mix Tryz.func27 [.v (.int .i64 p0)] [] (by kernel_rfl) (Eq.mp (by kernel_rfl) h)
noncomputable def Zlv:Env:=EB
theorem Zjm  (m:Mem)(R:RT)(h:
 ∀(b:Nat),rtM m m R (agg (Array.mk [int u8 2,bool false,bool false,int u8 0,int u64 0,int u64 0,int u64 0,int u64 0,int i64 0,int i64 0,slice none 0 0,string (ByteArray.mk (Array.mk [97])),int
 i64 0,slice none 0 0,string bE0,int i64 0]))):CX Tryz.prog 28 #[] m [] R:=
 Zae (E:=Zlv) Zak mix Tryz.func28 [] [] (by kernel_rfl) (Eq.mp (by kernel_rfl) h)
noncomputable def Zqe:Env:=EB
theorem ZnC  (m:Mem)(R:RT)(h:
 ∀(b:Nat),rtM m m R (agg (Array.mk [int u8 3,bool false,bool false,int u8 0,int u64 0,int u64 0,int u64 0,int u64 0,int i64 0,int i64 0,slice none 0 0,string bE0,int i64 0,slice
 none 0 0,string bE0,int i64 0]))):CX Tryz.prog 29 #[] m [] R:=
 Zae (E:=Zqe) Zak mix Tryz.func29 [] [] (by kernel_rfl) (Eq.mp (by kernel_rfl) h)
noncomputable def Zlw:Env:={ EB with
 joins:=(λi=>bif Nat.beq i 12 then some [(0,.bool)]else none) }
theorem Zjn  (m:Mem)(R:RT)(h:
 ∃(R_1:RT),True/\CX Tryz.prog 27 (Array.mk [int i64 5]) m [] R_1/\Za1 (Shape.agg [Shape.int u8,Shape.bool,Shape.bool,Shape.int u8,Shape.int u64,Shape.int u64,Shape.int u64,Shape.int u64,Shape.int i64,
 Shape.int i64,Shape.slice,Shape.str,Shape.int i64,Shape.slice,Shape.str,Shape.int i64]) R_1/\∀(n:Int)(b dx:Bool)(dy dz d0 d1 d2 d3 d4:Int)(a:Option Addr)(d5 c:Nat)(s:ByteArray)(d6:Int) (d7:
 Option Addr) (d8 d9:Nat) (ea:ByteArray) (eb:Int) (m':Mem),lX (bool b) λyL=>lX (string s) λak=>lX (string ea) λal=>lX (bool dx) λam=>lX (int i64 d3) λan=>lX (int u64 d0) λao=>lX
 (int u64 d2) λap=>lX (int u64 d1) λaq=>lX (int u8 dy) λar=>lX (int i64 d4) λau=>lX (int i64 eb) λav=>lX (int u8 n) λaw=>lX (int u64 dz) λax=>lX (int i64 d6) λay=>lX (slice a d5 c)
 λaz=>lX (slice d7 d8 d9) λa0=>m.le m'->R_1 (agg (Array.mk [aw,yL,am,ar,ax,ao,aq,ap,an,au,az,ak,ay,a0,al,av])) m' []->∃(R_2:RT),True/\CX Tryz.prog 28 (Array.mk []) m' [] R_2/\Za1
 (Shape.agg [Shape.int u8,Shape.bool,Shape.bool,Shape.int u8,Shape.int u64,Shape.int u64,Shape.int u64,Shape.int u64,Shape.int i64,Shape.int i64,Shape.slice,Shape.str,Shape.int i64,Shape.slice,Shape.str,
 Shape.int i64]) R_2/\∀(n:Int)(b ec:Bool)(ed ee ef eg eh ei ej:Int)(a:Option Addr)(ek c:Nat)(s:ByteArray)(el:Int)(em:Option Addr)(en eo:Nat)(ep:ByteArray)(eq:Int)(ac:Mem),lX (bool
 ec) λa1=>lX (bool b) λa2=>lX (string s) λa3=>lX (string ep) λa4=>lX (int u64 eh) λa5=>lX (int i64 eq) λa6=>lX (int u8 n) λa7=>lX (int i64 ej) λa8=>lX (int u64 ef) λa9=>lX
 (int u64 eg) λba=>lX (int i64 ei) λbb=>lX (int i64 el) λbc=>lX (int u64 ee) λbd=>lX (int u8 ed) λbe=>lX (slice a ek c) λbf=>lX (slice em en eo) λbg=>m'.le ac->R_2 (agg (Array.mk
 [a7,a2,a1,be,bd,a9,ba,a5,bb,a8,bf,a3,bc,bg,a4,a6])) ac []->∃(R_3:RT),True/\CX Tryz.prog 27 (Array.mk [int i64 3]) ac [] R_3/\Za1 (Shape.agg [Shape.int u8,Shape.bool,Shape.bool,Shape.int u8,
 Shape.int u64,Shape.int u64,Shape.int u64,Shape.int u64,Shape.int i64,Shape.int i64,Shape.slice,Shape.str,Shape.int i64,Shape.slice,Shape.str,Shape.int i64]) R_3/\∀(n:Int)(b er:Bool) (es et eu ev ew ex
 ey:Int) (a:Option Addr) (ez c:Nat) (s:ByteArray) (e0:Int) (e1:Option Addr) (e2 e3:Nat) (e4:ByteArray) (e5:Int) (m':Mem),lX (bool b) λbh=>lX (string e4) λbi=>lX (bool er) λbj=>lX
 (string s) λbk=>lX (int u64 ev) λbl=>lX (int u64 ew) λbm=>lX (int i64 ey) λbn=>lX (int i64 ex) λbo=>lX (int u8 es) λbp=>lX (int u64 eu) λbq=>lX (int u64 et) λbs=>lX (int i64 e0)
 λbt=>lX (int u8 n) λbu=>lX (int i64 e5) λbv=>lX (slice e1 e2 e3) λbw=>lX (slice a ez c) λbx=>ac.le m'->R_3 (agg (Array.mk [bu,bh,bj,bp,bs,bq,bl,bm,bo,bn,bx,bk,bt,bw,bi,bv]))
 m' []->∃(R_4:RT),True/\CX Tryz.prog 29 (Array.mk []) m' [] R_4/\Za1 (Shape.agg [Shape.int u8,Shape.bool,Shape.bool,Shape.int u8,Shape.int u64,Shape.int u64,Shape.int u64,Shape.int u64,Shape.int i64,
 Shape.int i64,Shape.slice,Shape.str,Shape.int i64,Shape.slice,Shape.str,Shape.int i64]) R_4/\∀(n:Int)(b e6:Bool)(e7 e8 e9 fa fb fc fd:Int)(a:Option Addr)(fe c:Nat)(s:ByteArray)(ff:Int) (fg:
 Option Addr) (fh fi:Nat) (fj:ByteArray) (fk:Int) (ad:Mem),lX (bool e6) λbz=>lX (string fj) λca=>lX (bool b) λcb=>lX (string s) λcc=>lX (int u64 fa) λcd=>lX (int u64 fb) λce=>lX
 (int i64 ff) λcf=>lX (int u64 e9) λcg=>lX (int i64 fc) λch=>lX (int u8 e7) λci=>lX (int u8 n) λcj=>lX (int i64 fk) λck=>lX (int i64 fd) λcl=>lX (int u64 e8) λcm=>lX (slice fg fh
 fi) λcn=>lX (slice a fe c) λco=>m'.le ad->R_4 (agg (Array.mk [cj,cb,bz,ci,cm,cg,cd,ce,ch,cl,co,cc,cf,cn,ca,ck])) ad []->∃(R_5:RT),True/\CX Tryz.prog 27 (Array.mk [int i64 3]) ad []
 R_5/\Za1 (Shape.agg [Shape.int u8,Shape.bool,Shape.bool,Shape.int u8,Shape.int u64,Shape.int u64,Shape.int u64,Shape.int u64,Shape.int i64,Shape.int i64,Shape.slice,Shape.str,Shape.int i64,Shape.slice,
 Shape.str,Shape.int i64]) R_5/\∀(n:Int)(b fl:Bool)(fm fn fo fp fq fr fs:Int)(a:Option Addr)(ft c:Nat)(s:ByteArray)(fu:Int)(fv:Option Addr)(fw fx:Nat)(fy:ByteArray)(fz:Int)(m':Mem),
 lX (string fy) λcp=>lX (string s) λcq=>lX (bool fl) λcr=>lX (bool b) λcs=>lX (int u8 n) λct=>lX (int i64 fr) λcu=>lX (int i64 fu) λcv=>lX (int u64 fo) λcw=>lX (int u64 fn) λcx
 => lX (int i64 fs) λcy=>lX (int u8 fm) λcz=>lX (int i64 fz) λda=>lX (int u64 fp) λdb=>lX (int u64 fq) λdc=>lX (slice a ft c) λdd=>lX (slice fv fw fx) λde=>ad.le m'->R_5 (agg
 (Array.mk [ct,cs,cr,cz,cx,cw,db,dc,cu,cy,dd,cq,cv,de,cp,da])) m' []->∃(R_6:RT),True/\CX Tryz.prog 29 (Array.mk []) m' [] R_6/\Za1 (Shape.agg [Shape.int u8,Shape.bool,Shape.bool,Shape.int u8,
 Shape.int u64,Shape.int u64,Shape.int u64,Shape.int u64,Shape.int i64,Shape.int i64,Shape.slice,Shape.str,Shape.int i64,Shape.slice,Shape.str,Shape.int i64]) R_6/\∀(n:Int)(b f0:Bool) (f1 f2 f3 f4 f5 f6
 f7:Int) (a:Option Addr) (f8 c:Nat) (s:ByteArray) (f9:Int) (ga:Option Addr) (gb gc:Nat) (gd:ByteArray) (ge:Int) (ab:Mem),lV [int u8 n,bool b,bool f0,int u8 f1,int u64 f2,int u64 f3,int u64 f4,
 int u64 f5,int i64 f6,int i64 f7,slice a f8 c,string s,int i64 f9,slice ga gb gc,string gd,int i64 ge] λxL=>lV (aw::yL::am::ar::ax::ao::aq::ap::an::au::az::ak::ay::a0::al::av
 :: a7::a2::a1::be::bd::a9::ba::a5::bb::a8::bf::a3::bc::bg::a4::a6::bu::bh::bj::bp::bs::bq::bl::bm::bo::bn::bx::bk::bt::bw::bi::bv::cj::cb::bz::ci ::
 cm::cg::cd::ce::ch::cl::co::cc::cf::cn::ca::ck::ct::cs::cr::cz::cx::cw::db::dc::cu::cy::dd::cq::cv::de::cp::da::xL) λaj=>m'.le ab->R_6 (agg (Array.mk
 xL)) ab []->∀(b:Nat),lE [some (Box.mk b aj 57 96 true true)] λxL=>ab.free b->∃(R_7:RT),True/\CX Tryz.prog 26 (Array.mk [slice (some (Addr.mk b 0 none)) 6 6]) (ab.add b aj) [] R_7/\Za1
 (Shape.agg [Shape.int i64,Shape.slice,Shape.slice]) R_7/\∀(n:Int)(a:Option Addr)(gf c:Nat)(gg:Option Addr)(gh gi:Nat)(m':Mem),lV [int i64 n,slice a gf c,slice gg gh gi] λdf=>lX (agg
 (Array.mk df)) λyL=>Mem.le (ab.add b aj) m'->R_7 yL m' []->∀(b:Nat),∃(R_8:RT),lE (some (Box.mk b df 30 3 false true)::xL) λxL=>True/\CX Tryz.prog 18 (Array.mk [yL,int i64 0]) m' [] R_8/\Za1
 (Shape.tup [Shape.int i64,Shape.bool,Shape.int i64]) R_8/\∀(n:Int)(b:Bool)(dg:Int)(ae:Mem),m'.le ae->R_8 (tuple (Array.mk [int i64 n,bool b,int i64 dg])) ae []->∃(R_9:RT),True/\CX Tryz.prog
 19 (Array.mk [yL,int i64 0]) ae [] R_9/\Za1 (Shape.tup [Shape.int i64,Shape.bool,Shape.int i64]) R_9/\∀(dh:Int)(di:Bool)(dj:Int)(m':Mem),ae.le m'->R_9 (tuple (Array.mk [int i64 dh,bool di,int
 i64 dj])) m' []->∃(R_10:RT),True/\CX Tryz.prog 10 (Array.mk [yL]) m' [] R_10/\Za1 (Shape.tup [Shape.slice,Shape.int i64]) R_10/\∀(a:Option Addr)(dk c:Nat)(dl:Int)(af:Mem),m'.le af->R_10
 (tuple (Array.mk [slice a dk c,int i64 dl])) af []->∃(R_11:RT),True/\CX Tryz.prog 20 (Array.mk [yL,int i64 0,int i64 3]) af [] R_11/\Za1 (Shape.tup [Shape.int i64,Shape.bool,Shape.int i64]) R_11/\∀(dm:
 Int) (dn:Bool) (dp:Int) (m':Mem),af.le m'->R_11 (tuple (Array.mk [int i64 dm,bool dn,int i64 dp])) m' []->∃(R_12:RT),True/\CX Tryz.prog 20 (Array.mk [yL,int i64 0,int i64 5]) m' [] R_12/\Za1
 (Shape.tup [Shape.int i64,Shape.bool,Shape.int i64]) R_12/\∀(gj:Int)(dq:Bool)(dr:Int)(aa:Mem),m'.le aa->R_12 (tuple (Array.mk [int i64 gj,bool dq,int i64 dr])) aa []->br (!i64.wrap
 (i64.wrap (i64.wrap (i64.wrap (dg+dj)+dl)+dp)+dr) == (0:Int)) (rtM m aa R (bool false)) (br (!n == (2:Int)) (rtM m aa R (bool false)) (br (!b) (rtM m aa R (bool false)) (br (!dh == (3
 : Int)) (rtM m aa R (bool false)) (br (!di) (rtM m aa R (bool false)) (br (!dm == (2:Int)) (rtM m aa R (bool false)) (br (!dn) (rtM m aa R (bool false)) (br dq (rtM m aa R (bool false)) (∀(b:Nat),lE (some (Box.mk
 b [int i64 0,int i64 0,int i64 0,int i64 4,int i64 0,int i64 5] 37 6 true true)::xL) λxL=>aa.free b->kB Tryz.prog 30 [slice a dk c,slice (some (Addr.mk b 0 none)) 3 3] (aa.add b [int i64 0,int i64
 0,int i64 0,int i64 4,int i64 0,int i64 5]) λb m'=>br (!b) (rtM m m' R (bool false)) (∀(b:Nat),lM (m'.add b [int i64 0,int i64 0,int i64 0,int i64 5]) λmL=>lE (some (Box.mk b [int i64 0,int i64
 0,int i64 0,int i64 5] 37 4 true true)::xL) λxL=>m'.free b->∃(R_13:RT),True/\CX Tryz.prog 11 (Array.mk [yL,slice (some (Addr.mk b 0 none)) 2 2]) mL [] R_13/\Za1 (Shape.tup [Shape.bool,Shape.int
 i64]) R_13/\∀(b:Bool)(n:Int)(m':Mem),mL.le m'->R_13 (tuple (Array.mk [bool b,int i64 n])) m' []->∀(ag:Nat),lM (m'.add ag [int i64 0,int i64 5,int i64 0,int i64 0]) λmL=>lE (some (Box.mk
 ag [int i64 0,int i64 5,int i64 0,int i64 0] 37 4 true true)::xL) λxL=>m'.free ag->∃(R_14:RT),True/\CX Tryz.prog 11 (Array.mk [yL,slice (some (Addr.mk ag 0 none)) 2 2]) mL [] R_14/\Za1 (Shape.tup
 [Shape.bool,Shape.int i64]) R_14/\∀(ds:Bool)(dt:Int)(m':Mem),mL.le m'->R_14 (tuple (Array.mk [bool ds,int i64 dt])) m' []->∀(ah:Nat),lM (m'.add ah [int i64 0,int i64 2]) λmL=>lE (some
 (Box.mk ah [int i64 0,int i64 2] 37 2 true true)::xL) λxL=>m'.free ah->∃(R_15:RT),True/\CX Tryz.prog 11 (Array.mk [yL,slice (some (Addr.mk ah 0 none)) 1 1]) mL [] R_15/\Za1 (Shape.tup [Shape.bool,
 Shape.int i64]) R_15/\∀(du:Bool)(dv:Int)(m':Mem),mL.le m'->R_15 (tuple (Array.mk [bool du,int i64 dv])) m' []->∃(dw:Bool),lV [bool dw] λai=>br (i64.wrap (i64.wrap (n+dt) +
 dv) == (0:Int)) (br b (br (!ds) (Zad xL/\[bool !du]=ai) (Zad xL/\[bool false]=ai)) (Zad xL/\[bool false]=ai)) (Zad xL/\[bool false]=ai)/\rtM m m' R (bool dw))))))))))):CX Tryz.prog 8 #[] m [] R:=
 Zae (E:=Zlw) Zak mix Tryz.func8 [] [] (by kernel_rfl) (Eq.mp (by kernel_rfl) h)
noncomputable def Zbq:Env:={ EB with
 loops:=(λi=>bif Nat.beq i 4 then⟨[(13,.int .i64)],[],[],false⟩ else⟨[],[],[],false⟩)
 dr:=(λi=>bif Nat.beq i 6 then[⟨0,[],[],none,[],[]⟩,⟨1,[],[],none,[],[]⟩,⟨2,[],[],none,[0,1],[]⟩,⟨3,[],[],none,[0,1,2],[]⟩,⟨4,[],[],none,[],[]⟩,⟨5,[],[],none,[],[]⟩,⟨6,[],[],none,[4,5],[]⟩,⟨7,[],[],none,[4,5,6],[]⟩,⟨8,[],[],none,[0,1,2,3,4,5,6,7],[]⟩]else[]) }
theorem Zbl(p0a:Option Addr)(p0n p0c:Nat)(p1a:Option Addr)(p1n p1c:Nat)(m:Mem)(R:RT)(h:
 br (!(↑p0n:Int) == (↑p1n:Int)) (rtM m m R (bool false)) (∃(I:IT),inI I [int i64 0] [] [] m/\∀(n:Int)(m':Mem)(n_1:Nat),m.le m'->I [int i64 n] [] [] m' n_1->br (decide (n < (↑p0n:Int))) (atA p0a
 λb o=>Zag n p0n/\∃v v_1:Value,m'.reads b (o+Int.toNat n*2) [v,v_1]/\atA p1a λb o=>Zag n p1n/\∃v_2 v_3:Value,m'.reads b (o+Int.toNat n*2) [v_2,
 v_3]/\∃(b:Bool),EqIs Tryz.prog 37 (agg (Array.mk [v,v_1])) (agg (Array.mk [v_2,v_3])) b/\br (!b) (rtM m m' R (bool false)) (nxI n_1 I [int i64 (i64.wrap (n+(1:Int)))] [] [] m')) (rtM m m' R (bool
 true)))):CX Tryz.prog 30 #[.slice p0a p0n p0c,.slice p1a p1n p1c] m [] R:=
 Zae (E:=Zbq) Zak mix Tryz.func30 [.v (.slice p0a p0n p0c),.v (.slice p1a p1n p1c)] [] (by kernel_rfl) (Eq.mp (by kernel_rfl) h)
end Go.Proofs.YtojlhhphofhaoaaGreatDoor
namespace Go.Proofs.YtojlhhphofhaoaaGreatDoor
open Go Go.Eng Go.Rx Go.Proofs Go.RowKit
set_option maxRecDepth 100000
def ruK(k n:Int)(s:ByteArray):Ru:=⟨k,false,false,T0,s,n,none,0,[],⟨#[]⟩,0⟩
def ZzS:List Ru:=[ruK 4 5 ⟨#[]⟩,ruK 2 0 ⟨#[97]⟩,ruK 4 3 ⟨#[]⟩,ruK 3 0 ⟨#[]⟩,ruK 4 3 ⟨#[]⟩,ruK 3 0 ⟨#[]⟩]
def exS(sa ra:Option Addr):Sc:=⟨4,none,0,[],sa,1,[⟨⟨#[97]⟩,ra,6,ZzS⟩]⟩
theorem ZCh(sa ra:Option Addr):okS (exS sa ra)=true:=by kernel_rfl
theorem ZAo(sa ra:Option Addr):ZbH (exS sa ra)=[((0:Int),(0:Int)),(0,4),(0,5)]:=by kernel_rfl
theorem ZCi(sa ra:Option Addr):Zgo toO (exS sa ra) 0=ZeF 2 true 0:=by kernel_rfl
theorem ZCj(sa ra:Option Addr):Zgo eoO (exS sa ra) 0=ZeF 3 true 0:=by kernel_rfl
theorem ZAp(sa ra:Option Addr):ZxG (exS sa ra) 0 3=ZeF 2 true 0:=by kernel_rfl
theorem ZAq(sa ra:Option Addr):ZxG (exS sa ra) 0 5=ZeF 0 false 0:=by kernel_rfl
theorem ZzT:Zxz [((0:Int),(0:Int)),(0,4),(0,5)] [(0,0),(0,5)]=true/\Zxz [((0:Int),(0:Int)),(0,4),(0,5)] [(0,5),(0,0)]=false/\Zxz [((0:Int),(0:Int)),(0,4),(0,5)] [(0,2)]=false:=by decide
theorem ZzU(n:Int)(m:Mem):CX Tryz.prog 27 #[.int .i64 n] m [] (Ret (.agg (ruK 4 n ⟨#[]⟩).cs.toArray)):=by
 apply ZgM
 exact λb=>Zac (Mem.le_refl _) rfl
theorem ZBC(m:Mem):CX Tryz.prog 28 #[] m [] (Ret (.agg (ruK 2 0 ⟨#[97]⟩).cs.toArray)):=by
 apply Zjm
 exact λb=>Zac (Mem.le_refl _) rfl
theorem ZA1(m:Mem):CX Tryz.prog 29 #[] m [] (Ret (.agg (ruK 3 0 ⟨#[]⟩).cs.toArray)):=by
 apply ZnC
 exact λb=>Zac (Mem.le_refl _) rfl
theorem Zgp{r:Ru}:∀(v:Value)(m':Mem) (css:List (List Value)),Ret (.agg r.cs.toArray) v m' css->Shape.fits (.agg [.int .u8,.bool,.bool,.int .u8,.int .u64,.int .u64,.int .u64,.int .u64,.int .i64,.int .i64,.slice,.str,.int .i64,.slice,.str,.int .i64]) v=true:=λv _ _ h=>by rw[show v=_ from h];rfl
theorem ZvH{r:Ru}{m:Mem}{K:Int->Bool->Bool->Int->Int->Int->Int->Int->Int->Int->Option Addr->Nat->Nat->ByteArray->Int->Option Addr->Nat->Nat->ByteArray->Int->Mem->Prop}(k:∀m',m.le m'->K r.k r.bg r.en r.t.k r.t.s0 r.t.s1 r.t.s2 r.t.s3 r.t.mn r.t.mx r.t.a r.t.subs.length r.t.c r.s r.n r.aa r.acts.length r.ac r.go r.code m'):
  ∀(k1:Int)(k2 k3:Bool)(k4 k5 k6 k7 k8 k9 k10:Int)(ka:Option Addr)(kb kc:Nat)(ks:ByteArray)(kd:Int)(ke:Option Addr)(kf kg:Nat)(kh:ByteArray)(ki:Int)(m':Mem),m.le m'->Ret (.agg r.cs.toArray) (.agg #[.int .u8 k1,.bool k2,.bool k3,.int .u8 k4,.int .u64 k5,.int .u64 k6,.int .u64 k7,.int .u64 k8,.int .i64 k9,.int .i64 k10,.slice ka kb kc,.string ks,.int .i64 kd,.slice ke kf kg,.string kh,.int .i64 ki]) m' []->K k1 k2 k3 k4 k5 k6 k7 k8 k9 k10 ka kb kc ks kd ke kf kg kh ki m':=by
 intro k1 k2 k3 k4 k5 k6 k7 k8 k9 k10 ka kb kc ks kd ke kf kg kh ki m' hm hv
 have hv:Value.agg _=Value.agg r.cs.toArray:=hv
 simp only[Ru.cs,Value.agg.injEq,Array.mk.injEq,List.cons.injEq,Value.int.injEq,Value.bool.injEq,Value.string.injEq,Value.slice.injEq,true_and,and_true]at hv
 obtain⟨rfl,rfl,rfl,rfl,rfl,rfl,rfl,rfl,rfl,rfl,⟨rfl,rfl,rfl⟩,rfl,rfl,⟨rfl,rfl,rfl⟩,rfl,rfl⟩:=hv
 exact k m' hm
theorem ZAr{m:Mem}{k n:Int}{s:ByteArray}(hk:0<=k/\k < 256)(hn:I64 n)(hs:s.size<=1000000000000000):RepR m (ruK k n s):=⟨hk,ZyS m,hs,hn,by show 0<=few;omega,.inl rfl,by simp[ruK],by show(ByteArray.mk #[]).size<=_;decide,by show I64 0;unfold I64;omega⟩
def ZB8(l:List Ru)(a:Option Addr)(c:Nat):Value->Mem->List (List Value)->Prop:=λv m' _=>∃sa,v=(⟨4,none,0,[],sa,1,[⟨⟨#[97]⟩,a,c,l⟩]⟩:Sc).v/\rowRd m' sa [.string ⟨#[97]⟩,.slice a l.length c]
theorem Zw3{l a c}:∀(v:Value)(m':Mem) (css:List (List Value)),ZB8 l a c v m' css->Shape.fits (.agg [.int .i64,.slice,.slice]) v=true:=λv _ _ ⟨_,h,_⟩=>by rw[h];rfl
theorem Zy7(l:List Ru)(a:Option Addr)(c:Nat)(m:Mem):CX Tryz.prog 26 #[.slice a l.length c] m [] (ZB8 l a c):=by
 apply ZnB
 intro b b2 hf
 exact ZaQ (Mem.le_add hf _) ⟨_,rfl,Zbx⟩
theorem ZuD(l r:List Dd)(a a':Option Addr)(c c':Nat)(m:Mem)(hl:l.length<=1000000000000000)(h1:rowRd m a (l.map dC).flatten)(h2:rowRd m a' (r.map dC).flatten):
  CX Tryz.prog 30 #[.slice a l.length c,.slice a' r.length c'] m [] (Ret (.bool (decide (l=r)))):=by
 apply Zbl
 refine Zaa (λh=>Zac (Mem.le_refl _) ?_) (λh=>?_)
 ·have dJ:¬(l.length:Int)=r.length:=by simpa using h
  show Value.bool false=Value.bool _
  rw[decide_eq_false (λe=>dJ (by rw[e]))]
 have aX:l.length=r.length:=by
  have:(l.length:Int)=r.length:=by simpa using h
  omega
 refine⟨λxs _ _ m' q=>∃i:Nat,i<=l.length/\xs=[.int .i64 i]/\l.take i=r.take i/\q=l.length - i,⟨l.length,0,by omega,rfl,rfl,rfl⟩,?_⟩
 rintro n m1 q aB ⟨i,hi,hx,heq,rfl⟩
 obtain rfl:n=i:=by simpa using hx
 refine Zaz (λaP=>?_) (λbX=>Zac aB ?_)
 ·obtain⟨x,hx⟩:=Zdw (show i < l.length by omega)
  obtain⟨y,hy⟩:=Zdw (show i < r.length by omega)
  obtain⟨b1,o1,gT,dM⟩:=Zal ZnA (h1.mono aB) hx (by omega)
  obtain⟨b2,o2,kJ,ik⟩:=Zal ZnA (h2.mono aB) hy (by omega)
  refine⟨b1,o1,gT,⟨by omega,aP⟩,_,_,dM,b2,o2,kJ,⟨by omega,by omega⟩,_,_,ik,_,ZvG x.1 x.2 y.1 y.2,Zaa (λh=>Zac aB ?_) (λh=>?_)⟩
  ·have dJ:¬x=y:=by
    intro e
    subst e;simp at h
   show Value.bool false=Value.bool _
   rw[decide_eq_false (λe=>dJ (by subst e;rw[hx]at hy;exact Option.some.inj hy))]
  ·have e:x=y:=by
    have:(x.1,x.2)=(y.1,y.2):=by simpa using h
    exact this
   subst e
   exact⟨l.length - (i+1),by omega,i+1,by omega,by rw[Zan (by omega) (by omega)];rfl,by rw[List.take_add_one,List.take_add_one,hx,hy,heq],rfl⟩
 ·have hi:i=l.length:=by omega
  subst hi
  show Value.bool true=Value.bool _
  rw[List.take_length,aX,List.take_length]at heq
  rw[decide_eq_true heq]
set_option maxHeartbeats 2000000 in
theorem ZrC(m:Mem):CX Tryz.prog 8 #[] m [] (Ret (.bool true)):=by
 apply Zjn
 refine Zai (ZzU 5 m) Zgp (ZvH λm1 aB=>Zai (ZBC m1) Zgp (ZvH λm2 aN=>Zai (ZzU 3 m2) Zgp (ZvH λm3 aW=>Zai (ZA1 m3) Zgp (ZvH λm4 bV=>Zai (ZzU 3 m4) Zgp (ZvH λm5 dD=>Zai (ZA1 m5) Zgp (ZvH λm6 gM=>?_))))))
 intro b hf
 have jA:=mLt aB (mLt aN (mLt aW (mLt bV (mLt dD gM))))
 refine Zai (Zy7 ZzS (some ⟨b,0,none⟩) 6 _) Zw3 ?_
 rintro n1 a1 n2 c2 a3 n3 c3 m7 jB ⟨sa,hv,aM⟩
 simp only[Sc.v,Value.agg.injEq,Array.mk.injEq,List.cons.injEq,Value.int.injEq,Value.slice.injEq,true_and,and_true]at hv
 obtain⟨rfl,⟨rfl,rfl,rfl⟩,rfl,rfl,rfl⟩:=hv
 have sx:=mLt jA (mLt (Mem.le_add hf _) jB)
 have pK:rowRd m7 (some ⟨b,0,none⟩) (ZzS.map Ru.cs).flatten:=(show rowRd (m6.add b (ZzS.map Ru.cs).flatten) (some ⟨b,0,none⟩) (ZzS.map Ru.cs).flatten from Zbx).mono jB
 have hC:RepC m7 (exS a3 (some ⟨b,0,none⟩)):=by
  refine⟨by show I64 4;unfold I64;omega,by show 0<=few;omega,.inl rfl,by simp[exS],by show 1<=few;unfold few;omega,aM,?_,Nat.le_refl _,Nat.le_refl _⟩
  intro x hx
  have hx:x∈[(⟨⟨#[97]⟩,some ⟨b,0,none⟩,6,ZzS⟩:Sta)]:=hx
  rw[List.mem_singleton]at hx;subst hx
  refine⟨by show(ByteArray.mk #[97]).size<=_;decide,by show 6<=few;unfold few;omega,pK,?_⟩
  intro r hr
  have hr:r∈ZzS:=hr
  simp only[ZzS,List.mem_cons,List.not_mem_nil,or_false]at hr
  rcases hr with rfl|rfl|rfl|rfl|rfl|rfl <;> exact ZAr (by omega) (by unfold I64;omega) (by decide)
 have eT:Zgo toO (exS a3 (some ⟨b,0,none⟩)) 0=ZeF 2 true 0:=ZCi _ _
 have eE:Zgo eoO (exS a3 (some ⟨b,0,none⟩)) 0=ZeF 3 true 0:=ZCj _ _
 have e3:ZxG (exS a3 (some ⟨b,0,none⟩)) 0 3=ZeF 2 true 0:=ZAp _ _
 have e5:ZxG (exS a3 (some ⟨b,0,none⟩)) 0 5=ZeF 0 false 0:=ZAq _ _
 have eO:okS (exS a3 (some ⟨b,0,none⟩))=true:=ZCh _ _
 have eD:ZbH (exS a3 (some ⟨b,0,none⟩))=[((0:Int),(0:Int)),(0,4),(0,5)]:=ZAo _ _
 have c1:=λM=>Zix (exS a3 (some ⟨b,0,none⟩)) 0 M
 have c2:=λM=>Zy1 (exS a3 (some ⟨b,0,none⟩)) 0 M
 have c3:=λM=>Zy2 (exS a3 (some ⟨b,0,none⟩)) 0 3 M
 have c5:=λM=>Zy2 (exS a3 (some ⟨b,0,none⟩)) 0 5 M
 rw[eT]at c1;rw[eE]at c2;rw[e3]at c3;rw[e5]at c5
 intro b1
 refine Zai (c1 m7 hC) ZdK λn4 b4 e4 m8 gY qC=>?_
 obtain⟨rfl,rfl,rfl⟩:=ZeZ qC
 refine Zai (c2 m8 (hC.mono gY)) ZdK λn5 b5 e5' m9 ni nf=>?_
 obtain⟨rfl,rfl,rfl⟩:=ZeZ nf
 have uu:=mLt gY ni
 refine Zai (Zn6 (exS a3 (some ⟨b,0,none⟩)) m9 (hC.mono uu)) Ziy λa6 n6 c6 e6 m10 lz nV=>?_
 have nV:=Zlt nV
 rw[eO]at nV
 obtain⟨rfl,rfl,_,pL⟩:=nV
 have pM:=mLt uu lz
 refine Zai (c3 m10 (hC.mono pM)) ZdK λn7 b7 e7 m11 lD nW=>?_
 obtain⟨rfl,rfl,rfl⟩:=ZeZ nW
 have pN:=mLt pM lD
 refine Zai (c5 m11 (hC.mono pN)) ZdK λn8 b8 e8 m12 iU ii=>?_
 obtain⟨rfl,rfl,rfl⟩:=ZeZ ii
 have sS:=mLt pN iU
 refine ZcI rfl (ZcI rfl (ZcI rfl (ZcI rfl (ZcI rfl (ZcI rfl (ZcI rfl (ZcI rfl λb9 uv=>?_)))))))
 have sT:=mLt sS (Mem.le_add uv (([((0:Int),(0:Int)),(0,4),(0,5)]:List Dd).map dC).flatten)
 have uw:=ZuD (ZbH (exS a3 (some ⟨b,0,none⟩))) [((0:Int),(0:Int)),(0,4),(0,5)] a6 (some ⟨b9,0,none⟩) c6 3 (m12.add b9 (([((0:Int),(0:Int)),(0,4),(0,5)]:List Dd).map dC).flatten) (by rw[eD];decide) (pL.mono (mLt (mLt lD iU) (Mem.le_add uv _))) Zbx
 rw[decide_eq_true eD]at uw
 refine Zah uw λm13 kA=>ZcI rfl λb10 nr=>?_
 have hK:=λ(l:List Dd)(a:Option Addr)(c:Nat)(M:Mem)(h:m7.le M)(hl:l.length<=1000000000000000) (hr:rowRd M a (l.map dC).flatten)=>ZuC (exS a3 (some ⟨b,0,none⟩)) l a c M (hC.mono h) hl hr
 rw[eO,eD]at hK
 have pO:=mLt sT (mLt kA (Mem.le_add nr (([((0:Int),(0:Int)),(0,5)]:List Dd).map dC).flatten))
 refine Zai (hK [(0,0),(0,5)] (some ⟨b10,0,none⟩) 2 _ pO (by decide) Zbx) Zlu λb11 e11 m15 sU pP=>?_
 obtain⟨rfl,rfl⟩:=Zn7 pP
 intro b12 nk
 have pQ:=mLt pO (mLt sU (Mem.le_add nk (([((0:Int),(5:Int)),(0,0)]:List Dd).map dC).flatten))
 refine Zai (hK [(0,5),(0,0)] (some ⟨b12,0,none⟩) 2 _ pQ (by decide) Zbx) Zlu λb13 e13 m17 sV pR=>?_
 obtain⟨rfl,rfl⟩:=Zn7 pR
 intro b14 sW
 have pS:=mLt pQ (mLt sV (Mem.le_add sW (([((0:Int),(2:Int))]:List Dd).map dC).flatten))
 refine Zai (hK [(0,2)] (some ⟨b14,0,none⟩) 1 _ pS (by decide) Zbx) Zlu λb15 e15 m19 sX sY=>?_
 obtain⟨rfl,rfl⟩:=Zn7 sY
 rw[ZzT.1,ZzT.2.1,ZzT.2.2]
 exact⟨true,ZgR rfl (ZgR rfl (ZgR rfl ⟨rfl,rfl⟩)),Zac (mLt sx (mLt pS sX)) rfl⟩
end Go.Proofs.YtojlhhphofhaoaaGreatDoor