/- Part of the proof: functions of the program. No condition. -/
import Derived.Test.YtojlhhphofhaoaaGreatDoorPC25MC
import Derived.Test.YtojlhhphofhaoaaGreatDoorPVET
import Derived.Test.YtojlhhphofhaoaaGreatDoorPVEN
import Derived.Test.YtojlhhphofhaoaaGreatDoorMr
import Derived.Test.YtojlhhphofhaoaaGreatDoorPEnv
import Derived.KernelRfl
import Derived.Test.YtojlhhphofhaoaaGreatDoorMc
set_option linter.unusedVariables false
set_option linter.unusedSimpArgs false
set_option linter.unusedSectionVars false
noncomputable section
namespace Go.Proofs.YtojlhhphofhaoaaGreatDoor
open Go Go.Eng Go.Rx Go.Proofs Go.RowKit
set_option maxRecDepth 100000
theorem Zl3{α:Type}{cs:α->List Value}{n:Nat}(hn:∀x,(cs x).length=n)(h1:∀x,∀u∈cs x,u.oneCell'=true){m3:Mem}{b3:Nat}(hf:m3.free b3){a:Option Addr}{ts:List α}(t:α)(aN:rowRd m3 a (ts.map cs).flatten)(sz:Nat)(bV:(ts.length+1)*sz<=140737488355328)(hl:ts.length<=1000000){P Q:Prop}(hp:P\/Q){K:Option Addr->Nat->Mem->Prop}
  (k:∀(a':Option Addr)(c':Nat)(m4:Mem),(m3.add b3 (cs t)).le m4->rowRd m4 a' ((ts++[t]).map cs).flatten->ts.length+1<=c'->K a' c' m4):
  (P\/Q)/\∃xs ys:List Value,xs.length=ts.length*n/\ys.length=1*n/\rowRd (m3.add b3 (cs t)) a xs/\rowRd (m3.add b3 (cs t)) (some ⟨b3,0,none⟩) ys/\(∀u:Value,u∈ys->u.oneCell'=true)/\(ts.length+1)*sz<=140737488355328/\ts.length+1<=9223372036854775807/\
   ∀(a':Option Addr)(c':Nat)(m4:Mem),(m3.add b3 (cs t)).le m4->rowRd m4 a' (List.append xs ys)->ts.length+1<=c'->K a' c' m4:=
 ⟨hp,(ts.map cs).flatten,cs t,Za1 hn ts,by rw[hn,Nat.one_mul],aN.mono (Mem.le_add hf _),ZbF,h1 t,bV,by omega,λa' c' m4 hm hr hc=>k a' c' m4 hm (by rw[Zl0];exact hr) hc⟩
structure SSta where
 a:Option Addr
 l:List SRul
 d:Nat
def SSta.cs(x:SSta):List Value:=[.slice x.a x.l.length x.d]
theorem SSta.len(x:SSta):x.cs.length=1:=rfl
structure RepSS (m:Mem)(x:SSta):Prop where
 l:x.l.length<=1000000000000000
 d:x.l.length<=x.d
 row:rowRd m x.a (x.l.map SRul.cs).flatten
 all:∀r∈x.l,RepSR m r
theorem RepSS.mono{m m':Mem}{x:SSta}(h:RepSS m x)(hm:m.le m'):RepSS m' x:=⟨h.l,h.d,h.row.mono hm,λa ha=>(h.all a ha).mono hm⟩
structure SScr where
 n:Nat
 va:Option Addr
 vl:List Nat
 vd:Nat
 sa:Option Addr
 sl:List SSta
 sd:Nat
def SScr.cs(x:SScr):List Value:=[.int .u8 x.n,.slice x.va x.vl.length x.vd,.slice x.sa x.sl.length x.sd]
theorem SScr.len(x:SScr):x.cs.length=3:=rfl
structure RepSC (m:Mem)(x:SScr):Prop where
 n:x.n < 256
 v:BytU m x.va x.vl
 vl:x.vl.length<=1000000000000000
 sl:x.sl.length<=1000000000000000
 sd:x.sl.length<=x.sd
 row:rowRd m x.sa (x.sl.map SSta.cs).flatten
 all:∀s∈x.sl,RepSS m s
theorem RepSC.mono{m m':Mem}{x:SScr}(h:RepSC m x)(hm:m.le m'):RepSC m' x:=⟨h.n,h.v.mono hm,h.vl,h.sl,h.sd,h.row.mono hm,λa ha=>(h.all a ha).mono hm⟩
def ByR:Value->Mem->List (List Value)->Prop:=λv _ _=>∃n:Nat,v=.int .i64 n/\n < 256
theorem Zxt:∀(v:Value)(m':Mem) (css:List (List Value)),ByR v m' css->Shape.fits (.int .i64) v=true:=λv _ _ ⟨_,h,_⟩=>by rw[h];rfl
theorem ZAV(x:SScr)(b:Nat)(i:Nat)(m:Mem)(hb:m.reads b 0 x.cs)(hx:RepSC m x)(hi:i<=1000):CX Tryz.prog 31 #[.int .i64 i,.pointer (some ⟨b,0,none⟩)] m [] ByR:=by
 apply Zik
 have h1:=hb 1 _ rfl
 refine⟨_,h1,Zaa rfl (Zab (λh=>ZaX (Mem.le_refl _) ⟨0,rfl,by omega⟩) (λh=>⟨_,h1,_,h1,Zaa rfl ⟨?_,Zaa rfl ?_⟩⟩))⟩
 ·show(x.vl.length:Int)≠0
  have:¬((x.vl.length:Int)=0):=by simpa[slN]using h
  exact this
 have h0:x.vl.length≠0:=by
  intro e
  have:¬((x.vl.length:Int)=0):=by simpa[slN]using h
  omega
 have aO:i % x.vl.length < x.vl.length:=Nat.mod_lt _ (by omega)
 obtain⟨n,hn⟩:=Zas aO
 obtain⟨jX,b1,o1,gD,eM⟩:=hx.v.get hn
 have lN:Int.tmod (i:Int) ((slN (.slice x.va x.vl.length x.vd):Nat):Int)=((i % x.vl.length:Nat):Int):=rfl
 refine⟨b1,o1,gD,by rw[lN];exact⟨by omega,by show((i % x.vl.length:Nat):Int) < (x.vl.length:Nat);omega⟩,_,by rw[lN,zA8];exact eM,_,rfl,ZaX (Mem.le_refl _) ⟨n,?_,jX⟩⟩
 rw[Zan (by omega) (by omega)]
theorem ZCq(n:Int):ConvIs Tryz.prog 3 87 (.int .i64 n) (.float .f64 (FloatKind.f64.nearest n)):=λw=>by
 simp[convert,Tryz.underlying3,Tryz.underlying87,Conv.intToFloat]
theorem ZDS:∀n:Fin 5,((FloatKind.f64.format.div (FloatKind.f64.nearest (n:Nat)) 4611686018427387904).any ZfI)=true:=by decide +kernel
theorem ZDT:∀j < 5,∃s:ByteArray,[Value.string ⟨#[]⟩,.string ⟨#[97]⟩,.string ⟨#[98,98]⟩,.string ⟨#[49]⟩,.string ⟨#[48,46,53]⟩][j*1]?=some (.string s)/\s.size<=3:=by
 intro j hj
 have:j=0\/j=1\/j=2\/j=3\/j=4:=by omega
 rcases this with rfl|rfl|rfl|rfl|rfl <;> exact⟨_,rfl,by decide⟩
theorem Va.one(a:Va):∀u∈a.cs,u.oneCell'=true:=by
 intro u hu
 simp only[Va.cs,List.mem_cons,List.not_mem_nil,or_false]at hu
 rcases hu with rfl|rfl|rfl|rfl <;> rfl
theorem Sta.one(a:Sta):∀u∈a.cs,u.oneCell'=true:=by
 intro u hu
 simp only[Sta.cs,List.mem_cons,List.not_mem_nil,or_false]at hu
 rcases hu with rfl|rfl <;> rfl
theorem Ru.one(a:Ru):∀u∈a.cs,u.oneCell'=true:=by
 intro u hu
 simp only[Ru.cs,List.mem_cons,List.not_mem_nil,or_false]at hu
 rcases hu with rfl|rfl|rfl|rfl|rfl|rfl|rfl|rfl|rfl|rfl|rfl|rfl|rfl|rfl|rfl|rfl <;> rfl
def ScR:Value->Mem->List (List Value)->Prop:=λv m' _=>∃s:Sc,v=s.v/\RepC m' s/\MkC s
theorem ZAW:∀(v:Value)(m':Mem) (css:List (List Value)),ScR v m' css->Shape.fits (.agg [.int .i64,.slice,.slice]) v=true:=λv _ _ ⟨_,h,_⟩=>by rw[h];rfl
theorem Zt9{α:Type}{L:List α}{t:α}{P:Nat->α->Prop}(h:∀j v,L[j]?=some v->P j v)(ht:P L.length t):∀j v,(L++[t])[j]?=some v->P j v:=by
 intro j v hv
 rcases Nat.lt_or_ge j L.length with aO|bO
 ·rw[zA5 aO]at hv;exact h j v hv
 ·have hj:=(zA0 hv).1
  rw[zA1,List.length_singleton]at hj
  obtain rfl:j=L.length:=by omega
  simp at hv;subst hv;exact ht
theorem ZAX{i:Nat}{v:Va}(h:MkV i v):RepV v:=by
 have hm:=zA2 h.name
 refine⟨?_,?_⟩
 ·rcases List.mem_append.1 hm with hm|hm
  ·have:=Zl1 _ hm;omega
  ·have:=Zl2 _ hm;omega
 ·rcases h.kind with⟨_,_,h,_⟩|⟨_,_,h,_⟩
  ·rw[h,ZaT];omega
  ·omega
set_option maxHeartbeats 2000000 in
theorem ZAY(x:SScr)(m:Mem)(hx:RepSC m x):CX Tryz.prog 9 #[.agg x.cs.toArray] m [] ScR:=by
 apply ZlS
 intro b m1 aB hb b1
 have eW:=hx.mono aB
 have s7:Int.tmod (x.n:Int) 11=((x.n % 11:Nat):Int):=rfl
 have ma:IntKind.i64.wrap (2+IntKind.i64.wrap (Int.tmod (x.n:Int) 11))=((2+x.n % 11:Nat):Int):=by rw[s7,Zan (n:=((x.n % 11:Nat):Int)) (by omega) (by omega),Zan (by omega) (by omega)];omega
 have s8:x.n % 11 < 11:=Nat.mod_lt _ (by omega)
 refine⟨_,rfl,by omega,λb2=>Zai (ZiV m1) ZdH ?_⟩
 rintro a0 n0 c0 m2 aM ⟨a',c',na,fX⟩
 simp only[Value.slice.injEq]at na
 obtain⟨rfl,rfl,rfl⟩:=na
 rw[ma]
 generalize x.n % 11=u at s8
 have bY:=mLt aB aM
 refine⟨λxs css tvs m' q=>∃(L:List Va)(a:Option Addr)(d:Nat),L.length<=4/\xs=[.int .i64 L.length]/\css=[[.int .i64 ((2+u:Nat):Int),.slice a L.length d,.slice none 0 0]]/\tvs=[.slice a L.length d]/\L.length<=d/\rowRd m' a (L.map Va.cs).flatten/\(∀j v,L[j]?=some v->MkV j v)/\q=4 - L.length,⟨4,[],none,0,by simp,rfl,rfl,rfl,by simp,.inl rfl,by simp,rfl⟩,?_⟩
 rintro z cs a n1 d m3 q aY ⟨L,a',d',xx,hz,cD,eI,wK,aN,jo,rfl⟩
 simp only[List.cons.injEq,Value.slice.injEq,Value.int.injEq,true_and,and_true]at hz cD eI
 obtain⟨rfl,rfl,rfl⟩:=eI
 subst hz cD
 have pR:=mLt aM aY
 refine Zar (λaO=>?_) (λbO=>?_)
 ·have aW:L.length < 4:=by have:(L.length:Int) < (Zkv.length:Nat):=aO;have:Zkv.length=4:=rfl;omega
  obtain⟨s,hs⟩:=Zas (l:=Zkv) (k:=L.length) aW
  obtain⟨b3,o3,gl,cK⟩:=Zc0 (fX.mono aY) hs
  refine⟨b3,o3,gl,⟨by omega,aO⟩,_,cK,s,rfl,λ_ _ _=>ByR,Zaq rfl ⟨_,rfl,ZAV x b L.length m3 (hb.mono pR) (eW.mono pR) (by omega),Zxt,?_⟩⟩
  rintro n4 m4 bP ⟨n,hn,jX⟩
  obtain rfl:n4=n:=by simpa using hn
  have hq:=ZDS ⟨n % 5,Nat.mod_lt _ (by omega)⟩
  obtain⟨r,hr,gB⟩:=(Option.any_eq_true ..).1 hq
  have hr:FloatKind.f64.format.div (FloatKind.f64.nearest ((n % 5:Nat):Int)) 4611686018427387904=some r:=hr
  have qZ:Int.tmod (n:Int) 5=((n % 5:Nat):Int):=rfl
  refine⟨by omega,_,ZCq _,_,by rw[qZ];exact Zxq _ hr,Zaa rfl (Zaa rfl (Zaa rfl λb5 jG=>Zaa rfl ?_))⟩
  have hw:IntKind.i64.wrap ((L.length:Int)+1)=((L.length+1:Nat):Int):=by rw[Zan (by omega) (by omega)];rfl
  refine Zl3 Va.len Va.one jG (⟨s,true,.empty,r⟩:Va) (aN.mono bP) 48 (by omega) (by omega) (.inl rfl) λa6 c6 m6 fR jk nD=>Zaa rfl λM _ _ _ hM=>⟨rfl,4 - (L.length+1),by omega,L++[⟨s,true,.empty,r⟩],a6,c6,by rw[zA1];exact aW,by rw[hw,zA1];rfl,by rw[zA1];rfl,by rw[zA1];rfl,by rw[zA1];exact nD,jk.mono hM,Zt9 jo ⟨by rw[zA5 aW];exact hs,.inl ⟨aW,rfl,rfl,gB⟩⟩,by rw[zA1];rfl⟩
 have hL:L.length=4:=by have:¬(L.length:Int) < (Zkv.length:Nat):=bO;have:Zkv.length=4:=rfl;omega
 refine Zai (ZoX m3) ZdH ?_
 rintro a5 n5 c5 m4 bP ⟨a',c',iv,gJ⟩
 simp only[Value.slice.injEq]at iv
 obtain⟨rfl,rfl,rfl⟩:=iv
 have jz:=mLt pR bP
 refine⟨λxs css tvs m' q=>∃(W:List Va)(a:Option Addr)(d i:Nat),i<=2/\W.length=4+i/\xs=[.int .i64 i]/\css=[[.int .i64 ((2+u:Nat):Int),.slice a W.length d,.slice none 0 0]]/\tvs=[.slice a W.length d]/\W.length<=d/\rowRd m' a (W.map Va.cs).flatten/\(∀j v,W[j]?=some v->MkV j v)/\q=2 - i,⟨2,L,a,d,0,by omega,by omega,rfl,rfl,rfl,wK,aN.mono bP,jo,rfl⟩,?_⟩
 rintro z cs a7 n7 d7 m5 q cL ⟨W,a',d',i,jr,wL,hz,cD,eI,uA,la,lO,rfl⟩
 simp only[List.cons.injEq,Value.slice.injEq,Value.int.injEq,true_and,and_true]at hz cD eI
 obtain⟨rfl,rfl,rfl⟩:=eI
 subst hz cD
 have s9:=mLt jz cL
 refine Zar (λaO=>?_) (λbO=>?_)
 ·have aW:i < 2:=by have:(i:Int) < (Zfq.length:Nat):=aO;have:Zfq.length=2:=rfl;omega
  obtain⟨s,hs⟩:=Zas (l:=Zfq) (k:=i) aW
  obtain⟨b3,o3,gl,cK⟩:=Zc0 (gJ.mono cL) hs
  have sK:IntKind.i64.wrap ((i:Int)+4)=((i+4:Nat):Int):=by rw[Zan (by omega) (by omega)];rfl
  have hw:IntKind.i64.wrap ((i:Int)+1)=((i+1:Nat):Int):=by rw[Zan (by omega) (by omega)];rfl
  rw[sK,hw]
  refine⟨b3,o3,gl,⟨by omega,aO⟩,_,cK,s,rfl,λ_ _ _=>ByR,Zaq rfl λb4 jh=>⟨_,rfl,ZAV x b (i+4) m5 (hb.mono s9) (eW.mono s9) (by omega),Zxt,?_⟩⟩
  rintro n4 m6 fR ⟨n,hn,jX⟩
  obtain rfl:n4=n:=by simpa using hn
  have qZ:Int.tmod (n:Int) 5=((n % 5:Nat):Int):=rfl
  have h5:n % 5 < 5:=Nat.mod_lt _ (by omega)
  obtain⟨s1,pI,mh⟩:=ZDT (n % 5) h5
  refine⟨by omega,by rw[qZ];exact⟨by omega,by omega⟩,λV _ _ _=>Zaq (by rw[qZ,zA8];exact pI) ⟨s1,rfl,λV2 wM _ _ b5 jG=>Zaa rfl ?_⟩⟩
  refine Zl3 Va.len Va.one jG (⟨s,false,s1,0⟩:Va) (la.mono wM) 48 (by omega) (by omega) (.inl rfl) λa6 c6 m7 i6 jk nD=>Zaa rfl λM _ _ _ _ hM=>⟨rfl,rfl,2 - (i+1),by omega,W++[⟨s,false,s1,0⟩],a6,c6,i+1,by omega,by rw[zA1];simp;omega,rfl,by rw[zA1];rfl,by rw[zA1];rfl,by rw[zA1];exact nD,jk.mono hM,Zt9 lO ⟨by rw[wL,zA4 (show Zkv.length<=4+i by show 4<=_;omega)];show Zfq[4+i - 4]?=_;rw[show 4+i - 4=i by omega];exact hs,.inr ⟨by omega,rfl,mh,rfl⟩⟩,rfl⟩
 have hW:W.length=6:=by have:¬(i:Int) < (Zfq.length:Nat):=bO;have:Zfq.length=2:=rfl;omega
 have fZ:=hx.sl
 have xy:=hx.sd
 have hN:(if(4:Int) < (x.sl.length:Int)then(4:Int)else(x.sl.length:Int))=((min 4 x.sl.length:Nat):Int):=by split <;> omega
 simp only[hN,zA8,Nat.sub_zero]
 generalize qW:min 4 x.sl.length=N
 refine⟨⟨by omega,by omega⟩,λxs css tvs m' q=>∃(S:List Sta)(a:Option Addr)(e:Nat),S.length<=N/\xs=[.int .i64 S.length]/\css=[[.int .i64 ((2+u:Nat):Int),.slice a7 W.length d7,.slice a S.length e]]/\tvs=[.slice a S.length e]/\S.length<=e/\rowRd m' a (S.map Sta.cs).flatten/\(∀y∈S,RepS m' y)/\(∀j y,S[j]?=some y->MkS N j y)/\q=N - S.length,⟨N,[],none,0,by simp,rfl,rfl,rfl,by simp,.inl rfl,by simp,by simp,rfl⟩,?_⟩
 rintro z cs a8 n8 d8 m6 q fR ⟨S,a',d',xz,hz,cD,eI,wN,mt,mu,pS,rfl⟩
 simp only[List.cons.injEq,Value.slice.injEq,Value.int.injEq,true_and,and_true]at hz cD eI
 obtain⟨rfl,rfl,rfl⟩:=eI
 subst hz cD
 have ol:=mLt s9 fR
 have nB:=eW.mono ol
 have uB:∀v∈W,RepV v:=λv hv=>by
  obtain⟨j,hj⟩:=List.getElem?_of_mem hv
  exact ZAX (lO j v hj)
 refine Zar (λaO=>?_) (λbO=>?_)
 ·have aW:S.length < N:=by omega
  obtain⟨y,hy⟩:=Zas (l:=x.sl) (k:=S.length) (by omega)
  obtain⟨b3,o3,gl,iy⟩:=Zaj SSta.len nB.row hy (by omega)
  have mX:=nB.all y (zA2 hy)
  refine⟨b3,o3,gl,⟨by omega,aO⟩,_,iy 0 _ rfl,Zai (Zrc m6) ZdH ?_⟩
  rintro a9 n9 c9 m7 i6 ⟨a',c',uC,mY⟩
  simp only[Value.slice.injEq]at uC
  obtain⟨rfl,rfl,rfl⟩:=uC
  obtain⟨s,hs⟩:=Zas (l:=Zzy) (k:=S.length) (by show S.length < 4;omega)
  obtain⟨b4,o4,pD,cK⟩:=Zc0 mY hs
  have gO:=mX.l
  have xA:=mX.d
  have wO:(if(5:Int) < (slN (.slice y.a y.l.length y.d):Nat)then(5:Int)else(slN (.slice y.a y.l.length y.d):Nat))=((min 5 y.l.length:Nat):Int):=by
   show(if(5:Int) < (y.l.length:Int)then(5:Int)else(y.l.length:Int))=_
   split <;> omega
  have wP:=mX.mono i6
  refine⟨b4,o4,pD,⟨by omega,by show(S.length:Int) < (4:Nat);omega⟩,_,cK,s,rfl,λb5=>Zaa rfl (Zaa rfl ?_)⟩
  simp only[wO,zA8,Nat.sub_zero]
  generalize qG:min 5 y.l.length=K
  have wQ:=ZoP s (zA2 hs)
  refine⟨⟨by omega,by show((K:Nat):Int)<=(y.d:Nat);omega⟩,λxs css tvs m' q=>∃(T:List Ru)(a:Option Addr)(e:Nat),T.length<=K/\xs=[.int .i64 T.length]/\css=[[.string s,.slice a T.length e]]/\tvs=[.slice a T.length e]/\rowRd m' a (T.map Ru.cs).flatten/\(∀r∈T,RepR m' r)/\(∀r∈T,MkR N r)/\q=K - T.length,⟨K,[],none,0,by simp,rfl,rfl,rfl,.inl rfl,by simp,by simp,rfl⟩,?_⟩
  rintro z cs a10 n10 d10 m8 q ia ⟨T,a',d',xB,hz,cD,eI,mw,my,pT,rfl⟩
  simp only[List.cons.injEq,Value.slice.injEq,Value.int.injEq,true_and,and_true]at hz cD eI
  obtain⟨rfl,rfl,rfl⟩:=eI
  subst hz cD
  refine Zar (λdQ=>?_) (λeH=>?_)
  ·have kW:T.length < K:=by omega
   obtain⟨r,hr⟩:=Zas (l:=y.l) (k:=T.length) (by omega)
   have uD:=wP.mono ia
   obtain⟨b6,o6,jF,fA⟩:=Zaj SRul.len uD.row hr (by omega)
   have hw:IntKind.i64.wrap ((T.length:Int)+1)=((T.length+1:Nat):Int):=by rw[Zan (by omega) (by omega)];rfl
   refine⟨b6,o6,jF,⟨by omega,dQ⟩,_,_,_,_,_,_,fA,λb7=>Zaa rfl ⟨λ_ _ _=>RuR N,Zaq rfl ⟨_,rfl,ZyT r N m8 (uD.all r (zA2 hr)) (by omega),ZAS,?_⟩⟩⟩
   rintro k1 k2 k3 k4 k5 k6 k7 k8 k9 k10 ka kb kc ks kd ke kf kg kh ki m9 mr ⟨w,hv,lp,s6⟩ b10 nI
   simp only[Ru.cs,Value.agg.injEq,Array.mk.injEq,List.cons.injEq,Value.int.injEq,Value.bool.injEq,Value.string.injEq,Value.slice.injEq,true_and,and_true]at hv
   obtain⟨rfl,rfl,rfl,rfl,rfl,rfl,rfl,rfl,rfl,rfl,⟨rfl,rfl,rfl⟩,rfl,rfl,⟨rfl,rfl,rfl⟩,rfl,rfl⟩:=hv
   refine Zaa rfl ?_
   refine Zl3 Ru.len Ru.one nI w (mw.mono mr) 168 (by omega) (by omega) (.inl rfl) λa5 c5 m5 cL cO _=>Zaa rfl λM _ gP iM ji=>⟨trivial,trivial,K - (T.length+1),by omega,T++[w],a5,c5,by rw[zA1];exact kW,by rw[hw,zA1];rfl,by rw[zA1];rfl,by rw[zA1];rfl,cO.mono ji,?_,?_,by rw[zA1];rfl⟩
   ·intro z hz
    rcases List.mem_append.1 hz with hz|hz
    ·exact(my z hz).mono (mLt mr gP)
    ·rw[List.mem_singleton]at hz;subst hz;exact lp.mono gP
   ·intro z hz
    rcases List.mem_append.1 hz with hz|hz
    ·exact pT z hz
    ·rw[List.mem_singleton]at hz;subst hz;exact s6
  ·have hw:IntKind.i64.wrap ((S.length:Int)+1)=((S.length+1:Nat):Int):=by rw[Zan (by omega) (by omega)];rfl
   have uE:=mLt i6 ia
   refine Zaq rfl (Zaa rfl λb6 iW=>Zaa rfl ?_)
   refine Zl3 Sta.len Sta.one iW (⟨s,a10,d10,T⟩:Sta) (mt.mono uE) 40 (by omega) (by omega) (.inl rfl) λa5 c5 m5 cL cO sN=>Zaa rfl ⟨trivial,trivial,N - (S.length+1),by omega,S++[⟨s,a10,d10,T⟩],a5,c5,by rw[zA1];exact aW,by rw[hw,zA1];rfl,by rw[zA1];rfl,by rw[zA1];rfl,by rw[zA1];exact sN,cO,?_,Zt9 pS ⟨hs,by show T.length<=5;omega,pT⟩,by rw[zA1];rfl⟩
   have fS:=mLt (Mem.le_add iW (⟨s,a10,d10,T⟩:Sta).cs) cL
   intro z hz
   rcases List.mem_append.1 hz with hz|hz
   ·exact(mu z hz).mono (mLt uE fS)
   ·rw[List.mem_singleton]at hz;subst hz
    exact⟨by show s.size<=_;omega,by show T.length<=few;unfold few;omega,mw.mono fS,λr hr=>(my r hr).mono fS⟩
 ·have wT:S.length=N:=by omega
  have iJ:=mLt aB ol
  have pU:W.length<=few:=by unfold few;omega
  have hn:I64 ((2+u:Nat):Int):=by unfold I64;omega
  have uF:m5.le m6:=fR
  refine Zaq rfl (Zaa rfl (Zab (λh0=>λb3 iT=>Zaa rfl (Zaa rfl ?_)) (λh0=>Zaa rfl (ZaX iJ ⟨⟨((2+u:Nat):Int),a7,d7,W,a8,d8,S⟩,rfl,⟨hn,pU,la.mono uF,uB,by show S.length<=few;unfold few;omega,mt,mu,uA,wN⟩,⟨by show 2<=((2+u:Nat):Int)/\((2+u:Nat):Int)<=12;omega,hW,lO,?_,?_⟩⟩))))
  ·have fS:=Mem.le_add iT [Value.string ⟨#[97]⟩,.slice none 0 0]
   refine ZaX (mLt iJ fS) ⟨⟨((2+u:Nat):Int),a7,d7,W,some ⟨b3,0,none⟩,1,[⟨⟨#[97]⟩,none,0,[]⟩]⟩,rfl,⟨hn,pU,(la.mono uF).mono fS,uB,by show 1<=few;unfold few;omega,ZbF,?_,uA,by show 1<=1;omega⟩,⟨by show 2<=((2+u:Nat):Int)/\((2+u:Nat):Int)<=12;omega,hW,lO,by show 1<=1/\1<=4;omega,?_⟩⟩
   ·intro y hy
    rw[List.mem_singleton]at hy;subst hy
    exact⟨by show(ByteArray.mk #[97]).size<=_;decide,by show 0<=few;omega,.inl rfl,by simp⟩
   ·intro j y hy
    have:j=0:=by have:=(zA0 hy).1;simp at this;omega
    subst this
    simp at hy;subst hy
    exact⟨rfl,by show 0<=5;omega,by simp⟩
  ·have:¬((S.length:Int)=0):=by simpa[slN]using h0
   show 1<=S.length/\S.length<=4
   omega
  ·intro j y hy
   show MkS S.length j y
   rw[wT];exact pS j y hy
def ZDo(o:Option Nat):Int:=match o with
 | none=>-1
 | some t=>(t:Nat)
def ZCr(o:Option Nat):Value:=.tuple #[.int .i64 (ZrH o),.bool o.isSome]
theorem ZyU(o:Option Nat):(if(0:Int) > ZDo o then(0:Int)else ZDo o)=ZrH o:=by
 cases o with
 | none=>rfl
 | some t=>show(if(0:Int) > (t:Nat)then _ else _)=((t:Nat):Int);rw[if_neg (by omega)];rfl
theorem ZAZ(o:Option Nat):decide (ZDo o ≥ 0)=o.isSome:=by
 cases o with
 | none=>rfl
 | some t=>exact decide_eq_true (show((t:Nat):Int) ≥ 0 by omega)
set_option maxHeartbeats 1000000 in
theorem Zua(l:List Ru)(a:Option Addr)(c:Nat)(g1 g2:Nat)(cnt:Ru->Bool)(key:Ru->Int)(m:Mem)(hl:l.length<=1000000)(hr:rowRd m a (l.map Ru.cs).flatten)
  (h1:∀x∈l,∀m',m.le m'->CX Tryz.prog g1 #[.agg x.cs.toArray] m' [] (Ret (.bool (cnt x)))) (h2:∀x∈l,∀m',m.le m'->CX Tryz.prog g2 #[.agg x.cs.toArray] m' [] (Ret (.int .i64 (key x)))):
  CX Tryz.prog 83 #[.slice a l.length c,.func (.func g1) #[] #[],.func (.func g2) #[] #[]] m [] (Ret (ZCr (ZDm l cnt key))):=by
 apply Zdo a l.length c g1 [] [] g2 [] []
 refine⟨λxs _ _ m' q=>∃i:Nat,i<=l.length/\xs=[.int .i64 (ZDo (ZeJ l cnt key i)),.int .i64 i]/\q=l.length - i,⟨l.length,0,by omega,rfl,rfl⟩,?_⟩
 rintro n n1 m1 q aB ⟨i,hi,hx,rfl⟩
 simp only[List.cons.injEq,Value.int.injEq,true_and,and_true]at hx
 obtain⟨rfl,rfl⟩:=hx
 have hw:IntKind.i64.wrap ((i:Int)+1)=((i+1:Nat):Int):=by rw[Zan (by omega) (by omega)];rfl
 refine Zar (λaO=>?_) (λbO=>Zac aB ?_)
 ·have aW:i < l.length:=by omega
  obtain⟨x,hx⟩:=Zde aW
  have jC:=zA2 hx
  have dF:=Zsn (cnt:=cnt) (key:=key) hx
  obtain⟨b,o,ha,dI⟩:=Zaj Ru.len (hr.mono aB) hx (by omega)
  refine⟨b,o,ha,⟨by omega,aO⟩,_,_,_,_,_,_,_,_,_,_,_,_,_,_,_,_,dI,λb1=>Zaa rfl ?_⟩
  refine⟨λk _ _=>if k=2 then Ret (.bool (cnt x))else if k=9 then Ret (.int .i64 (key x))else Ret (.int .i64 (key ((l[(ZeJ l cnt key i).getD 0]?).getD x))),_,rfl,h1 x jC m1 aB,λv _ _ e=>by rw[show v=_ from e];rfl,?_⟩
  intro bb m2 aM hb
  obtain rfl:bb=cnt x:=by simpa[Ret]using hb
  refine Zab (λhc=>?_) (λhc M hM _ _ _=>⟨l.length - (i+1),by omega,i+1,aW,by rw[dF,hc,hw];rfl,rfl⟩)
  rw[hc,Bool.true_and]at dF
  cases ht:ZeJ l cnt key i with
  | none=>
   rw[ht]at dF
   refine Zar (λ_ M _ _ _ _=>⟨l.length - (i+1),by omega,i+1,aW,by rw[dF,hw];rfl,rfl⟩) (λh=>absurd (show ZDo none < 0 by decide) h)
  | some t=>
   rw[ht]at dF
   obtain⟨xC,y,hy,_⟩:=Zb4 ht
   have q7:=zA2 hy
   refine Zar (λh=>absurd (show((t:Nat):Int) < 0 from h) (by omega)) (λ_=>?_)
   refine⟨_,rfl,h2 x jC m2 (mLt aB aM),λv _ _ e=>by rw[show v=_ from e];rfl,?_⟩
   intro k1 m3 aY iO
   obtain rfl:k1=key x:=by simpa[Ret]using iO
   obtain⟨b2,o2,iI,iy⟩:=Zaj Ru.len (hr.mono (mLt aB aM)) hy (by omega)
   have ju:((t:Nat):Int) < l.length:=by omega
   refine⟨b2,o2,iI,⟨by show(0:Int)<=(t:Nat);omega,ju⟩,_,_,_,_,_,_,_,_,_,_,_,_,_,_,_,_,by show Mem.reads _ _ (o2+Int.toNat ((t:Nat):Int)*16) _;rw[zA8];exact iy,_,rfl,?_,λv _ _ e=>by rw[show v=_ from e];rfl,?_⟩
   ·show CX _ _ _ _ _ (Ret (.int .i64 (key ((l[t]?).getD x))))
    rw[hy];exact h2 y q7 m3 (mLt aB (mLt aM aY))
   ·intro k2 m4 bP jt
    have jt:k2=key y:=by
     have:Value.int .i64 k2=.int .i64 (key ((l[t]?).getD x)):=jt
     rw[hy]at this;simpa using this
    subst jt
    intro M _ _ _ _
    have i5:Zvl l key (some t) x=decide (key x < key y):=by show(match l[t]? with|some y=>decide (key x < key y)|none=>false)=_;rw[hy]
    rw[i5]at dF
    refine Zar (λh=>⟨l.length - (i+1),by omega,i+1,aW,?_,rfl⟩) (λh=>⟨l.length - (i+1),by omega,i+1,aW,?_,rfl⟩)
    ·rw[dF,decide_eq_true h,hw];rfl
    ·rw[dF,decide_eq_false h,hw];rfl
 ·have:i=l.length:=by omega
  subst this
  show Value.tuple #[.int .i64 _,.bool _]=Value.tuple #[.int .i64 _,.bool _]
  rw[ZyU,ZAZ];rfl
theorem ZgF{o}:∀(v:Value)(m':Mem) (css:List (List Value)),Ret (ZCr o) v m' css->Shape.fits (.tup [.int .i64,.bool]) v=true:=λv _ _ e=>by rw[show v=_ from e];rfl
theorem ZDU{n:Int}{b:Bool}{o:Option Nat}{m':Mem}(h:Ret (ZCr o) (.tuple #[.int .i64 n,.bool b]) m' []):n=ZrH o/\b=o.isSome:=by
 have h:Value.tuple #[.int .i64 n,.bool b]=ZCr o:=h
 unfold ZCr at h
 simpa using h
theorem ZA0(x:Sta)(m:Mem)(hx:RepS m x):CX Tryz.prog 49 #[.agg x.cs.toArray] m [] (Ret (ZCr (toO x))):=by
 apply ZgL
 intro b m1 aB _
 refine Zai (Zua x.rules x.ra x.rc 84 85 ZCX ZD8 m1 (by have:=hx.len;unfold few at this;omega) (hx.row.mono aB) (λr hr m' hm'=>?_) (λr hr m' hm'=>?_)) ZgF λn b1 m2 aM hv=>?_
 ·apply Ze6
  exact λb m1 aB _=>Zac aB rfl
 ·apply Ze7
  exact λb m1 aB _=>Zac aB rfl
 ·exact Zac (mLt aB aM) hv
theorem ZA1(x:Sta)(m:Mem)(hx:RepS m x):CX Tryz.prog 50 #[.agg x.cs.toArray] m [] (Ret (ZCr (eoO x))):=by
 apply ZnE
 intro b m1 aB _
 refine Zai (Zua x.rules x.ra x.rc 86 87 ZCY ZD9 m1 (by have:=hx.len;unfold few at this;omega) (hx.row.mono aB) (λr hr m' hm'=>?_) (λr hr m' hm'=>?_)) ZgF λn b1 m2 aM hv=>?_
 ·apply Zja
  exact λb m1 aB _=>Zac aB rfl
 ·apply Zjb
  exact λb m1 aB _=>Zac aB rfl
 ·exact Zac (mLt aB aM) hv
def okS(s:Sc):Bool:=s.check.2 == 0
def ZdR(s:Sc)(i:Int):Int:=if okS s then(if i < 0\/i ≥ s.states.length then 250 else 0)else 400
theorem Zub(s:Sc)(i:Int)(m:Mem)(hr:RepC m s):CX Tryz.prog 48 #[s.v,.int .i64 i] m [] (Ret (.int .i64 (ZdR s i))):=by
 apply Zjc
 intro b m1 aB _
 refine Zae (ZlO s m1 (hr.mono aB)) λm2 aM=>?_
 have bY:=mLt aB aM
 show br (!okS s) _ _
 refine Zab (λh=>Zac bY ?_) (λh=>⟨decide (i < 0\/i ≥ s.states.length),Zar (λh=>⟨rfl,Zah ?_⟩) (λh=>⟨rfl,Zah ?_⟩),Zar (λh1=>Zac bY ?_) (λh1=>Zac bY ?_)⟩)
 ·have:okS s=false:=by simpa using h
  unfold ZdR;rw[this];rfl
 ·exact(decide_eq_true (.inl h)).symm
 ·rw[decide_eq_decide];omega
 ·have:okS s=true:=by simpa using h
  unfold ZdR;rw[this,if_pos rfl,if_pos h1]
 ·have:okS s=true:=by simpa using h
  unfold ZdR;rw[this,if_pos rfl,if_neg h1]
theorem Zl4{s:Sc}{i:Int}(h:ZdR s i=0):okS s=true/\∃(k:Nat)(x:Sta),i=k/\s.states[k]?=some x:=by
 unfold ZdR at h
 split at h
 ·rename_i hs
  split at h
  ·omega
  ·rename_i hi
   obtain⟨x,hx⟩:=Zde (l:=s.states) (n:=i.toNat) (by omega)
   exact⟨hs,i.toNat,x,by omega,hx⟩
 ·omega
def ZeS(n:Int)(b:Bool)(e:Int):Value:=.tuple #[.int .i64 n,.bool b,.int .i64 e]
theorem Zf5{n b e}:∀(v:Value)(m':Mem) (css:List (List Value)),Ret (ZeS n b e) v m' css->Shape.fits (.tup [.int .i64,.bool,.int .i64]) v=true:=λv _ _ e=>by rw[show v=_ from e];rfl
theorem ZiW{n n' e e':Int}{b b':Bool}{m':Mem}(h:Ret (ZeS n b e) (.tuple #[.int .i64 n',.bool b',.int .i64 e']) m' []):n'=n/\b'=b/\e'=e:=by
 have h:Value.tuple #[.int .i64 n',.bool b',.int .i64 e']=ZeS n b e:=h
 unfold ZeS at h
 simpa using h
def ZCs(f:Sta->Option Nat)(s:Sc)(i:Int):Option Nat:=match s.states[i.toNat]? with
 | some x=>f x
 | none=>none
def Zir(f:Sta->Option Nat)(s:Sc)(i:Int):Value:=if ZdR s i=0 then ZeS (ZrH (ZCs f s i)) (ZCs f s i).isSome 0 else ZeS 0 false (ZdR s i)
theorem ZyV(f:Sta->Option Nat)(s:Sc)(i:Int):∃n b e,Zir f s i=ZeS n b e:=by unfold Zir;split <;> exact⟨_,_,_,rfl⟩
theorem Zm7(s:Sc)(i:Int)(m:Mem)(hr:RepC m s):CX Tryz.prog 18 #[s.v,.int .i64 i] m [] (Ret (Zir toO s i)):=by
 apply ZgM
 intro b m1 aB _
 refine Zav (Zub s i m1 (hr.mono aB)) λm2 aM=>Zab (λh=>Zac (mLt aB aM) ?_) (λh=>?_)
 ·have:¬ZdR s i=0:=by simpa using h
  unfold Zir;rw[if_neg this];rfl
 ·have h:ZdR s i=0:=by simpa using h
  obtain⟨_,k,x,rfl,hx⟩:=Zl4 h
  have bY:=mLt aB aM
  obtain⟨b1,o1,ha,dI⟩:=Zaj Sta.len (hr.mono bY).row hx (by omega)
  have hk:=(zA0 hx).1
  refine⟨b1,o1,ha,⟨by omega,by omega⟩,_,_,by rw[zA8];exact dI,Zai (ZA0 x m2 ((hr.mono bY).all x (zA2 hx))) ZgF λn b2 m3 aY hv=>?_⟩
  obtain⟨rfl,rfl⟩:=ZDU hv
  refine Zac (mLt bY aY) ?_
  show _=Zir toO s k
  unfold Zir ZCs
  rw[if_pos h,zA8,hx];rfl
theorem ZCt(s:Sc)(i:Int)(m:Mem)(hr:RepC m s):CX Tryz.prog 19 #[s.v,.int .i64 i] m [] (Ret (Zir eoO s i)):=by
 apply ZnF
 intro b m1 aB _
 refine Zav (Zub s i m1 (hr.mono aB)) λm2 aM=>Zab (λh=>Zac (mLt aB aM) ?_) (λh=>?_)
 ·have:¬ZdR s i=0:=by simpa using h
  unfold Zir;rw[if_neg this];rfl
 ·have h:ZdR s i=0:=by simpa using h
  obtain⟨_,k,x,rfl,hx⟩:=Zl4 h
  have bY:=mLt aB aM
  obtain⟨b1,o1,ha,dI⟩:=Zaj Sta.len (hr.mono bY).row hx (by omega)
  have hk:=(zA0 hx).1
  refine⟨b1,o1,ha,⟨by omega,by omega⟩,_,_,by rw[zA8];exact dI,Zai (ZA1 x m2 ((hr.mono bY).all x (zA2 hx))) ZgF λn b2 m3 aY hv=>?_⟩
  obtain⟨rfl,rfl⟩:=ZDU hv
  refine Zac (mLt bY aY) ?_
  show _=Zir eoO s k
  unfold Zir ZCs
  rw[if_pos h,zA8,hx];rfl
def ZCu(s:Sc)(i t:Int):Bool:=match s.states[i.toNat]? with
 | some x=>(match toO x with
  | some k=>(match x.rules[k]? with
   | some r=>r.n == t
   | none=>false)
  | none=>false)
 | none=>false
def ZzA(s:Sc)(i t:Int):Value:=if ZdR s i=0 then(if ZCu s i t then ZeS (ZrH (ZCs toO s i)) true 0 else ZeS 0 false 0)else ZeS 0 false (ZdR s i)
theorem ZA2(s:Sc)(i t:Int)(m:Mem)(hr:RepC m s):CX Tryz.prog 20 #[s.v,.int .i64 i,.int .i64 t] m [] (Ret (ZzA s i t)):=by
 apply ZnG
 intro b m1 aB _
 obtain⟨n0,b0,e0,hA⟩:=ZyV toO s i
 have hT:=Zm7 s i m1 (hr.mono aB)
 rw[hA]at hT
 refine Zai hT Zf5 λn b1 e m2 aM hv=>?_
 obtain⟨rfl,rfl,rfl⟩:=ZiW hv
 have bY:=mLt aB aM
 by_cases hp:ZdR s i=0
 ·obtain⟨_,k,x,rfl,hx⟩:=Zl4 hp
  unfold Zir at hA
  rw[if_pos hp]at hA
  have hO:ZCs toO s k=toO x:=by unfold ZCs;rw[zA8,hx]
  rw[hO]at hA
  obtain⟨rfl,rfl,rfl⟩:n=ZrH (toO x)/\b1=(toO x).isSome/\e=0:=by
   unfold ZeS at hA;simp at hA;exact⟨hA.1.symm,hA.2.1.symm,hA.2.2.symm⟩
  have hk:=(zA0 hx).1
  have hB:ZCu s k t=(match toO x with
   | some k=>(match x.rules[k]? with
    | some r=>r.n == t
    | none=>false)
   | none=>false):=by unfold ZCu;rw[zA8,hx]
  have hV:ZzA s k t=if ZCu s k t then ZeS (ZrH (toO x)) true 0 else ZeS 0 false 0:=by unfold ZzA;rw[if_pos hp,hO]
  refine⟨!ZCu s k t,ZdQ rfl (Zab (λh=>⟨rfl,Zah ?_⟩) (λh=>?_)),Zab (λh=>Zac bY ?_) (λh=>Zac bY ?_)⟩
  ·have:toO x=none:=by simpa using h
   rw[hB,this];rfl
  ·obtain⟨j,hj⟩:∃j,toO x=some j:=by
    cases hj:toO x with
    | none=>rw[hj]at h;cases h
    | some j=>exact⟨j,rfl⟩
   obtain⟨_,r,eM,_⟩:=Zb4 hj
   have oh:=(zA0 eM).1
   obtain⟨b2,o2,iI,dI⟩:=Zaj Sta.len (hr.mono bY).row hx (by omega)
   obtain⟨b3,o3,gl,fA⟩:=Zaj Ru.len ((hr.mono bY).all x (zA2 hx)).row eM (by omega)
   rw[hB,hj,show ZrH (some j)=(j:Nat) from rfl]
   refine⟨b2,o2,iI,⟨by omega,by omega⟩,.slice x.ra x.rules.length x.rc,by rw[zA8];exact dI 1 _ rfl,Zaa rfl ⟨b3,o3,gl,⟨by omega,by show((j:Nat):Int) < (x.rules.length:Nat);omega⟩,.int .i64 r.n,by rw[zA8];exact fA 12 _ rfl,Zaa rfl ⟨rfl,Zah ?_⟩⟩⟩
   show(!(r.n == t))=!(match x.rules[j]? with|some r=>r.n == t|none=>false)
   rw[eM]
  ·have:ZCu s k t=false:=by simpa using h
   show _=ZzA s k t
   rw[hV,this];rfl
  ·have:ZCu s k t=true:=by simpa using h
   show _=ZzA s k t
   rw[hV,this];rfl
 ·unfold Zir at hA
  rw[if_neg hp]at hA
  obtain⟨rfl,rfl,rfl⟩:n=0/\b1=false/\e=ZdR s i:=by
   unfold ZeS at hA;simp at hA;exact⟨hA.1.symm,hA.2.1,hA.2.2.symm⟩
  refine⟨true,ZrB (by simpa using hp) ⟨rfl,rfl⟩,ZrB rfl (Zac bY ?_)⟩
  show _=ZzA s i t
  unfold ZzA;rw[if_neg hp];rfl
theorem ZA3(s:Sc)(m:Mem):CX Tryz.prog 36 #[s.v] m [] (λv m' _=>∃b,v=.func (.func 68) #[] #[.pointer (some ⟨b,0,none⟩)]/\m'.reads b 0 s.cs):=by
 apply Zll
 intro b m' hm hb
 exact⟨m',hm,Mem.le_refl _,b,rfl,hb⟩
theorem Zwg{m:Mem}{s:Sc}(hr:RepC m s)(n:Nat):(deadU s n).length<=few*n:=by
 induction n with
 | zero=>simp[deadU]
 | succ n ih=>
  rw[deadU,zA1,Nat.mul_succ]
  refine Nat.add_le_add ih ?_
  split
  ·rename_i x hx
   exact Nat.le_trans (Zla n x x.rules.length) (hr.all x (zA2 hx)).len
  ·simp
theorem Zl5{m:Mem}{s:Sc}(hr:RepC m s):(Za0 s).length<=10000000000:=by
 refine Nat.le_trans (Zwg hr s.states.length) (Nat.le_trans (Nat.mul_le_mul_left _ hr.len) ?_)
 unfold few;omega
theorem Zuc{s:Sc}{i:Nat}{x:Sta}{k:Nat}{r:Ru}(hx:s.states[i]?=some x)(hr:x.rules[k]?=some r)(hb:Zb8 x k r=true):(Za0 s)[(deadU s i).length+(ZbW i x k).length]?=some ((i:Int),(k:Int)):=by
 have hi:=(zA0 hx).1
 have hk:=(zA0 hr).1
 obtain⟨r1,h1⟩:=Zp6 (s:=s) (show i+1<=s.states.length by omega)
 obtain⟨r2,h2⟩:=Zp5 (i:=i) (x:=x) (show k+1<=x.rules.length by omega)
 unfold Za0
 rw[h1,Zeq hx,h2,ZfN hr,hb]
 rw[List.append_assoc,List.append_assoc,List.append_assoc,zA4 (by omega),Nat.add_sub_cancel_left,zA4 (Nat.le_refl _),Nat.sub_self]
 rfl
set_option maxHeartbeats 1000000 in
theorem ZyW(s:Sc)(m:Mem)(c0b:Nat)(hr:RepC m s)(hb:m.reads c0b 0 s.cs):IX Tryz.prog 68 [] [.pointer (some ⟨c0b,0,none⟩)] m ((Za0 s).map λd=>[dV d]):=by
 apply ZhQ 0 [] [] c0b 0
 intro l
 have fZ:=hr.len
 unfold few at fZ
 refine⟨.slice s.sa s.states.length s.sc,hb 2 _ rfl,Zaa rfl ?_⟩
 refine⟨λxs _ _ m' q=>∃i:Nat,i<=s.states.length/\xs=[.int .i64 ((deadU s i).length:Nat),.int .i64 i]/\q=s.states.length - i,⟨s.states.length,0,by omega,rfl,rfl⟩,?_⟩
 rintro y n m1 q aB ⟨i,hi,hx,rfl⟩
 simp only[List.cons.injEq,Value.int.injEq,true_and,and_true]at hx
 obtain⟨rfl,rfl⟩:=hx
 have hw:IntKind.i64.wrap ((i:Int)+1)=((i+1:Nat):Int):=by rw[Zan (by omega) (by omega)];rfl
 refine Zar (λaO=>?_) (λbO=>.inl ?_)
 ·have aO:(i:Int) < (s.states.length:Nat):=aO
  obtain⟨x,hx⟩:=Zde (show i < s.states.length by omega)
  have jC:=zA2 hx
  obtain⟨b1,o1,gD,dI⟩:=Zaj Sta.len (hr.mono aB).row hx (by omega)
  have cQ:=(hr.mono aB).all x jC
  have jD:=cQ.len
  unfold few at jD
  refine Zaa rfl ⟨b1,o1,gD,⟨by omega,aO⟩,_,_,dI,λb2=>Zaa rfl (Zai (ZA0 x m1 cQ) ZgF λn2 b3 m2 aM kV=>Zai (ZA1 x m2 (cQ.mono aM)) ZgF λn3 b4 m3 aY oq=>?_)⟩
  obtain⟨rfl,rfl⟩:=ZDU kV
  obtain⟨rfl,rfl⟩:=ZDU oq
  have pR:=mLt aM aY
  have td:=cQ.mono pR
  refine Zaa rfl ⟨λxs _ _ m' q=>∃k:Nat,k<=x.rules.length/\xs=[.int .i64 ((deadU s i).length+(ZbW i x k).length:Nat),.int .i64 k]/\q=x.rules.length - k,⟨x.rules.length,0,by omega,by simp[ZbW],rfl⟩,?_⟩
  rintro y n4 m4 q2 bP ⟨k,hk,gR,rfl⟩
  simp only[List.cons.injEq,Value.int.injEq,true_and,and_true]at gR
  obtain⟨rfl,rfl⟩:=gR
  have jK:IntKind.i64.wrap ((k:Int)+1)=((k+1:Nat):Int):=by rw[Zan (by omega) (by omega)];rfl
  refine Zar (λdQ=>?_) (λeH=>?_)
  ·have dQ:(k:Int) < (x.rules.length:Nat):=dQ
   obtain⟨r,eX⟩:=Zde (show k < x.rules.length by omega)
   obtain⟨b5,o5,jU,fA⟩:=Zaj Ru.len (td.mono bP).row eX (by omega)
   have dF:=ZfN (i:=i) eX
   have y1:Zb8 x k r=true->List.get?Internal (List.map (λd=>[dV d]) (Za0 s)) (Int.toNat (((deadU s i).length+(ZbW i x k).length:Nat):Int))=some [Value.agg #[.int .i64 i,.int .i64 k]]:=λh=>by
    show(List.map (λd=>[dV d]) (Za0 s))[((((deadU s i).length+(ZbW i x k).length:Nat):Int)).toNat]?=some [Value.agg #[.int .i64 i,.int .i64 k]]
    rw[zA8,List.getElem?_map,Zuc hx eX h];rfl
   have y2:Zb8 x k r=true->(∃n':Nat,n' < x.rules.length - k/\∃k':Nat,k'<=x.rules.length/\[Value.int .i64 ((((deadU s i).length+(ZbW i x k).length:Nat):Int)+1),Value.int .i64 (IntKind.i64.wrap ((k:Int)+1))]=[.int .i64 ((deadU s i).length+(ZbW i x k').length:Nat),.int .i64 k']/\n'=x.rules.length - k'):=λh=>⟨x.rules.length - (k+1),by omega,k+1,by omega,by rw[dF,h,jK];simp;omega,rfl⟩
   have no:Zb8 x k r=false->(∃n':Nat,n' < x.rules.length - k/\∃k':Nat,k'<=x.rules.length/\[Value.int .i64 (((deadU s i).length+(ZbW i x k).length:Nat):Int),Value.int .i64 (IntKind.i64.wrap ((k:Int)+1))]=[.int .i64 ((deadU s i).length+(ZbW i x k').length:Nat),.int .i64 k']/\n'=x.rules.length - k'):=λh=>⟨x.rules.length - (k+1),by omega,k+1,by omega,by rw[dF,h,jK];simp,rfl⟩
   refine Zaa rfl ⟨b5,o5,jU,⟨by omega,dQ⟩,_,_,_,_,_,_,_,_,_,_,_,_,_,_,_,_,fA,λb6=>Zaa rfl (Zaa rfl (Zab (λh4=>?_) (λh4=>?_)))⟩
   ·have h4':(r.k == 4)=true:=h4
    refine Zab (λdH=>?_) (λdH=>Zaa rfl (Zab (λh3=>?_) (λh3=>?_)))
    ·have e:Zb8 x k r=true:=by unfold Zb8;rw[h4',dH];rfl
     exact⟨⟨rfl,Int.natCast_nonneg _,y1 e⟩,⟨rfl,y2 e⟩,.inr rfl⟩
    ·have:r.k=4:=by simpa using h4'
     have h3':(r.k == 3)=true:=h3
     rw[this]at h3';cases h3'
    ·exact⟨rfl,no (by unfold Zb8;rw[dH,show(r.k == 3)=false from h3];simp)⟩
   ·have h4':(r.k == 4)=false:=h4
    refine Zaa rfl (Zab (λh3=>Zab (λdH=>?_) (λdH=>?_)) (λh3=>?_))
    ·have e:Zb8 x k r=true:=by unfold Zb8;rw[h4',show(r.k == 3)=true from h3,dH];rfl
     exact⟨⟨rfl,Int.natCast_nonneg _,y1 e⟩,⟨rfl,y2 e⟩,.inr rfl⟩
    ·exact⟨rfl,no (by unfold Zb8;rw[h4',dH];simp)⟩
    ·exact⟨rfl,no (by unfold Zb8;rw[h4',show(r.k == 3)=false from h3];simp)⟩
  ·have eH:¬(k:Int) < (x.rules.length:Nat):=eH
   have:k=x.rules.length:=by omega
   subst this
   exact⟨s.states.length - (i+1),by omega,i+1,by omega,by rw[Zeq hx,zA1,hw],rfl⟩
 ·have bO:¬(i:Int) < (s.states.length:Nat):=bO
  have:i=s.states.length:=by omega
  subst this
  rw[List.length_map];rfl
theorem Zl6(d:Dd):(dC d).length=2:=rfl
theorem ZCv(d:Dd):∀u∈dC d,u.oneCell'=true:=by
 intro u hu
 simp only[dC,List.mem_cons,List.not_mem_nil,or_false]at hu
 rcases hu with rfl|rfl <;> rfl
def ZyX(s:Sc):Value->Mem->List (List Value)->Prop:=λv m' _=>∃(a:Option Addr)(n c:Nat)(e:Int),v=.tuple #[.slice a n c,.int .i64 e]/\(if okS s then e=0/\n=(Za0 s).length/\n<=c/\rowRd m' a ((Za0 s).map dC).flatten else e=400/\a=none/\n=0/\c=0)
theorem ZiX{s}:∀(v:Value)(m':Mem) (css:List (List Value)),ZyX s v m' css->Shape.fits (.tup [.slice,.int .i64]) v=true:=λv _ _ ⟨_,_,_,_,e,_⟩=>by rw[e];rfl
theorem Zl7{s:Sc}{a:Option Addr}{n c:Nat}{e:Int}{m':Mem}(h:ZyX s (.tuple #[.slice a n c,.int .i64 e]) m' []):if okS s then e=0/\n=(Za0 s).length/\n<=c/\rowRd m' a ((Za0 s).map dC).flatten else e=400/\a=none/\n=0/\c=0:=by
 obtain⟨a',n',c',e',hv,h⟩:=h
 simp only[Value.tuple.injEq,Array.mk.injEq,List.cons.injEq,Value.slice.injEq,Value.int.injEq,true_and,and_true]at hv
 obtain⟨⟨rfl,rfl,rfl⟩,rfl⟩:=hv
 exact h
theorem ZA4{α:Type}{cs:α->List Value}{L:List α}{q:Nat}{x:α}(h:L[q]?=some x):((L.take (q+1)).map cs).flatten=((L.take q).map cs).flatten++cs x:=by
 rw[List.take_add_one,h];simp
theorem ZoZ(s:Sc)(m:Mem)(hr:RepC m s):CX Tryz.prog 10 #[s.v] m [] (ZyX s):=by
 apply Zlm
 intro b m1 aB _
 refine Zae (ZlO s m1 (hr.mono aB)) λm2 aM=>?_
 have bY:=mLt aB aM
 have bA:=Zl5 hr
 show br (!okS s) _ _
 refine Zab (λh=>ZaX bY ⟨_,_,_,_,rfl,?_⟩) (λh=>λb2=>?_)
 ·have:okS s=false:=by simpa using h
  rw[this];exact⟨rfl,rfl,rfl,rfl⟩
 have cE:okS s=true:=by simpa using h
 refine Zai (ZA3 s m2) (λv m' css h=>by obtain⟨_,rfl,_⟩:=h;rfl) ?_
 rintro g fi ca m3 aY ⟨b3,hv,eY⟩
 obtain⟨rfl,rfl,rfl⟩:=ZbZ hv
 have dM:=mLt bY aY
 refine⟨_,ZyW s m3 b3 (hr.mono dM) eY,λy hy=>?_,λxs css tvs m' q=>∃(a:Option Addr)(c:Nat),q<=(Za0 s).length/\xs=[]/\css=[[.slice a q c]]/\tvs=[.slice a q c]/\q<=c/\rowRd m' a (((Za0 s).take q).map dC).flatten,⟨none,0,by omega,rfl,rfl,rfl,by omega,.inl rfl⟩,?_,?_⟩
 ·obtain⟨z,_,rfl⟩:=List.mem_map.1 hy;rfl
 ·rintro n n1 cs a n2 c m4 q bP hq ⟨a',c',qO,_,cD,eI,te,aN⟩ b4
  simp only[List.cons.injEq,Value.slice.injEq,and_true]at eI
  obtain⟨rfl,rfl,rfl⟩:=eI
  obtain rfl:cs=[.slice a n2 c]:=by simpa using cD
  have hq:(List.map (λd=>[dV d]) (Za0 s))[n2]?=some [Value.agg #[.int .i64 n,.int .i64 n1]]:=hq
  rw[List.getElem?_map]at hq
  obtain⟨d,hd,q8⟩:=Option.map_eq_some_iff.1 hq
  have q8:dV d=.agg #[.int .i64 n,.int .i64 n1]:=by simpa using q8
  have aO:=(zA0 hd).1
  obtain⟨rfl,rfl⟩:d.1=n/\d.2=n1:=by unfold dV at q8;simpa using q8
  have l4:((Za0 s).take n2).length=n2:=by rw[List.length_take];omega
  refine Zaq rfl λb5 jG=>Zaa rfl ⟨.inl rfl,_,dC d,?_,rfl,aN.mono (Mem.le_add jG _),ZbF,ZCv d,?_,?_,λa6 c6 m6 fR jk nD=>⟨rfl,a6,c6,by omega,rfl,rfl,rfl,nD,?_⟩⟩
  ·rw[Za1 Zl6,l4];rfl
  ·show(n2+1)*16<=_;omega
  ·show n2+1<=_;omega
  ·rw[ZA4 hd];exact jk
 ·rintro cs a n c m4 bP ⟨a',c',_,_,cD,eI,te,aN⟩
  rw[List.length_map]at cD eI te aN
  simp only[List.cons.injEq,Value.slice.injEq,and_true]at eI
  obtain⟨rfl,rfl,rfl⟩:=eI
  obtain rfl:cs=[.slice a (Za0 s).length c]:=by simpa using cD
  rw[List.take_length]at aN
  refine Zaq rfl (ZaX (mLt dM bP) ⟨a,_,c,0,rfl,?_⟩)
  rw[cE];exact⟨rfl,rfl,te,aN⟩
theorem Zud(a b a' b':Int):EqIs Tryz.prog 37 (.agg #[.int .i64 a,.int .i64 b]) (.agg #[.int .i64 a',.int .i64 b']) (decide (((a,b):Dd)=(a',b'))):=by
 refine⟨λw=>?_,λop ox oy w=>Zie (by kernel_rfl) op ox oy _ _ w⟩
 have u3:=Tryz.underlying3
 have a3:=Tryz.isAgg3
 have z3:=Tryz.sizeOf3
 rw[Op.equal,Op.maxDepth,show(10000:Nat)=9999+1 from rfl]
 rw[run_equalIn_agg _ _ _ _ _ (by kernel_rfl) (by kernel_rfl)]
 have hf:(Tryz.prog.fieldsOf 37).toList=[⟨ "State",3,0,false, "", "",0⟩,⟨ "Rule",3,1,false, "", "",8⟩]:=by kernel_rfl
 rw[hf]
 go_simp
 by_cases h1:a=a' <;> by_cases h2:b=b' <;> simp[h1,h2]
def ZDc(l:List Dd)(d:Dd):Int:=match l.findIdx? (· == d)with
 | some i=>(i:Nat)
 | none=>-1
theorem Zwh(l:List Dd)(a:Option Addr)(c:Nat)(d:Dd)(m:Mem)(hl:l.length<=1000000000000000)(hr:rowRd m a (l.map dC).flatten):
  CX Tryz.prog 37 #[.slice a l.length c,dV d] m [] (Ret (.int .i64 (ZDc l d))):=by
 apply Zbo
 intro b m1 aB _
 refine⟨λxs _ _ m' q=>∃i:Nat,i<=l.length/\xs=[.int .i64 i]/\(∀j x,j < i->l[j]?=some x->x≠d)/\q=l.length - i,⟨l.length,0,by omega,rfl,λj x hj=>by omega,rfl⟩,?_⟩
 rintro n m2 q aM ⟨i,hi,hx,gk,rfl⟩
 obtain rfl:n=i:=by simpa using hx
 have bY:=mLt aB aM
 refine Zar (λaO=>?_) (λbO=>Zac bY ?_)
 ·obtain⟨x,hx⟩:=Zde (show i < l.length by omega)
  obtain⟨b1,o1,ha,eW⟩:=Zaj Zl6 (hr.mono bY) hx (by omega)
  refine⟨b1,o1,ha,⟨by omega,aO⟩,_,_,eW,_,Zud d.1 d.2 x.1 x.2,Zar (λh=>Zac bY ?_) (λh=>?_)⟩
  ·have h:d=x:=h
   subst h
   have hf:l.findIdx? (· == d)=some i:=List.findIdx?_eq_some_iff_getElem.2 ⟨(zA0 hx).1,by rw[(zA0 hx).2];simp,λj hj=>by
    have:=gk j (l[j]'(by omega)) hj (zA3 (by omega))
    simpa using this⟩
   show Value.int .i64 i=Value.int .i64 (ZDc l d)
   unfold ZDc;rw[hf]
  ·have h:¬d=x:=h
   refine⟨rfl,l.length - (i+1),by omega,i+1,by omega,by rw[Zan (by omega) (by omega)];rfl,λj y hj hy=>?_,rfl⟩
   rcases Nat.lt_or_ge j i with h1|h1
   ·exact gk j y h1 hy
   ·obtain rfl:j=i:=by omega
    rw[hx]at hy;cases hy
    exact λe=>h e.symm
 ·have hi:i=l.length:=by omega
  subst hi
  have hf:l.findIdx? (· == d)=none:=by
   rw[List.findIdx?_eq_none_iff]
   intro x hx
   obtain⟨j,hj⟩:=List.getElem?_of_mem hx
   have:=gk j x (zA0 hj).1 hj
   simpa using this
  show Value.int .i64 (-1)=Value.int .i64 (ZDc l d)
  unfold ZDc;rw[hf]
theorem Zwi{α:Type}{cs:α->List Value}{n:Nat}(hn:∀x,(cs x).length=n){m:Mem}{a:Option Addr}{L:List α}{c:Nat}(h:rowRd m a (L.map cs).flatten){i:Nat}(hi:i<=L.length)(hc:L.length<=c):rowRd m (Za4 a i c n) ((L.drop i).map cs).flatten:=by
 rcases Nat.lt_or_ge i L.length with aO|bO
 ·unfold Za4
  cases h0:Nat.beq i 0 with
  | true=>
   have:i=0:=Nat.eq_of_beq_eq_true h0
   subst this;exact h
  | false=>
   have wU:Nat.beq c i=false:=by
    cases hb:Nat.beq c i with
    | false=>rfl
    | true=>have:=Nat.eq_of_beq_eq_true hb;omega
   rw[wU]
   rcases h with h|⟨b,o,ha,h⟩
   ·have h2:=congrArg List.length h
    rw[Za1 hn]at h2
    refine .inl (List.eq_nil_of_length_eq_zero ?_)
    rw[Za1 hn,List.length_drop]
    have h2:L.length*n=0:=by simpa using h2
    rcases Nat.mul_eq_zero.1 h2 with e|e
    ·omega
    ·rw[e,Nat.mul_zero]
   ·refine .inr ⟨b,o+i*n,by rw[ha];show some (Addr.add _ (i*n))=_;rw[ZbX],λj v hj=>?_⟩
    have e:(L.map cs).flatten=((L.take i).map cs).flatten++((L.drop i).map cs).flatten:=by rw[<-List.flatten_append,<-List.map_append,List.take_append_drop]
    have hl:((L.take i).map cs).flatten.length=i*n:=by rw[Za1 hn,List.length_take,Nat.min_eq_left (by omega)]
    rw[Nat.add_assoc]
    refine h (i*n+j) v ?_
    rw[e,zA4 (by omega),hl,Nat.add_sub_cancel_left];exact hj
 ·exact .inl (by rw[List.drop_of_length_le bO];rfl)
def Zue(b:Bool)(e:Int):Value:=.tuple #[.bool b,.int .i64 e]
theorem Zl8{b e}:∀(v:Value)(m':Mem) (css:List (List Value)),Ret (Zue b e) v m' css->Shape.fits (.tup [.bool,.int .i64]) v=true:=λv _ _ e=>by rw[show v=_ from e];rfl
theorem Zo0{b b':Bool}{e e':Int}{m':Mem}(h:Ret (Zue b e) (.tuple #[.bool b',.int .i64 e']) m' []):b'=b/\e'=e:=by
 have h:Value.tuple #[.bool b',.int .i64 e']=Zue b e:=h
 unfold Zue at h
 simpa using h
theorem Zwj(s:Sc)(l:List Dd)(a:Option Addr)(c:Nat)(m:Mem)(hr:RepC m s)(hl:l.length<=1000000000000000)(aN:rowRd m a (l.map dC).flatten):CX Tryz.prog 11 #[s.v,.slice a l.length c] m [] (Ret (if okS s then Zue (Zzw (Za0 s) l) 0 else Zue false 400)):=by
 apply Zje
 intro b m1 aB _
 have bA:=Zl5 hr
 refine Zai (ZoZ s m1 (hr.mono aB)) ZiX λa1 n1 c1 e m2 aM hv=>?_
 have hv:=Zl7 hv
 have bY:=mLt aB aM
 cases cE:okS s with
 | false=>
  rw[cE]at hv
  obtain⟨rfl,rfl,rfl,rfl⟩:=hv
  exact ZrB rfl (Zac bY rfl)
 | true=>
  rw[cE]at hv
  obtain⟨rfl,rfl,hc,pV⟩:=hv
  refine ZdQ rfl ⟨λxs _ _ m' q=>∃(i:Nat)(A:List Dd)(a':Option Addr)(c':Nat),i<=l.length/\xs=[.slice a' A.length c',.int .i64 i]/\A.length<=c'/\A.length<=10000000000/\rowRd m' a' (A.map dC).flatten/\Zzw (Za0 s) l=Zzw A (l.drop i)/\q=l.length - i,⟨l.length,0,Za0 s,a1,c1,by omega,rfl,hc,bA,pV,rfl,rfl⟩,?_⟩
  rintro a2 n2 c2 i0 m3 q aY ⟨i,A,a',c',hi,hx,wV,xD,mz,eG,rfl⟩
  simp only[List.cons.injEq,Value.slice.injEq,Value.int.injEq,true_and,and_true]at hx
  obtain⟨⟨rfl,rfl,rfl⟩,rfl⟩:=hx
  have dM:=mLt bY aY
  refine Zar (λaO=>?_) (λbO=>Zac dM ?_)
  ·obtain⟨d,hd⟩:=Zde (show i < l.length by omega)
   obtain⟨b3,o3,gl,mf⟩:=Zaj Zl6 (aN.mono dM) hd (by omega)
   have ig:l.drop i=d::l.drop (i+1):=ZpR hd
   refine⟨b3,o3,gl,⟨by omega,aO⟩,_,_,mf,λb4=>Zaa rfl (Zav (Zwh A a2 c2 d m3 (by omega) mz) λm4 bP=>?_)⟩
   have dF:Zzw (Za0 s) l=(match A.findIdx? (· == d)with
    | none=>false
    | some j=>Zzw (A.drop (j+1)) (l.drop (i+1))):=by rw[eG,ig,Zzw];rfl
   unfold ZDc
   cases hf:A.findIdx? (· == d)with
   | none=>
    rw[hf]at dF
    refine ZrB (by decide) (Zac (mLt dM bP) ?_)
    show _=Zue (Zzw (Za0 s) l) 0
    rw[dF];rfl
   | some j=>
    rw[hf]at dF
    obtain⟨oh,_,_⟩:=List.findIdx?_eq_some_iff_getElem.1 hf
    have ot:IntKind.i64.wrap ((j:Int)+1)=((j+1:Nat):Int):=by rw[Zan (by omega) (by omega)];rfl
    refine Zar (λh=>absurd (show((j:Nat):Int) < 0 from h) (by omega)) (λ_=>?_)
    show((0:Int)<=IntKind.i64.wrap ((j:Int)+1)/\IntKind.i64.wrap ((j:Int)+1)<=_)/\_
    rw[ot,zA8]
    refine⟨⟨by omega,by omega⟩,rfl,l.length - (i+1),by omega,i+1,A.drop (j+1),_,_,by omega,by rw[List.length_drop,Zan (n:=(i:Int)+1) (by omega) (by omega)];rfl,by rw[List.length_drop];omega,by rw[List.length_drop];omega,(Zwi Zl6 mz (by omega) wV).mono bP,dF,rfl⟩
  ·have:i=l.length:=by omega
   subst this
   show _=Zue (Zzw (Za0 s) l) 0
   rw[eG,List.drop_length]
   cases A <;> rfl
end Go.Proofs.YtojlhhphofhaoaaGreatDoor
namespace Go.Proofs.YtojlhhphofhaoaaGreatDoor
open Go Go.Eng Go.Proofs Go.RowKit
open Go.Value (int slice agg bool string tuple func)
open Go.IntKind (u8 u64 i64)
set_option maxRecDepth 100000
def Zrg:Env:=EB
theorem Zol(p0a:Option Addr)(p0n p0c:Nat)(m:Mem)(R:RT)(h:
 ∀(b b:Nat),m.free b->rtM m (m.add b [string (ByteArray.mk (Array.mk [97])),slice p0a p0n p0c]) R (agg (Array.mk [int i64 4,slice none 0 0,slice (some (Addr.mk b 0 none)) 1 1]))):CX Tryz.prog 26 #[.slice p0a p0n p0c] m [] R:=
 Zag (E:=Zrg) Zak mix Tryz.func26 [.v (.slice p0a p0n p0c)] [] (by kernel_rfl) (Eq.mp (by kernel_rfl) h)
def Zis:Env:=EB
theorem Zg4(p0:Int)(m:Mem)(R:RT)(h:
 ∀(b:Nat),rtM m m R (agg (Array.mk [int u8 4,bool false,bool false,int u8 0,int u64 0,int u64 0,int u64 0,int u64 0,int i64 0,int i64 0,slice none 0 0,string bE0,int i64 p0,slice
 none 0 0,string bE0,int i64 0]))):CX Tryz.prog 27 #[.int .i64 p0] m [] R:=
 Zag (E:=Zis) Zak mix Tryz.func27 [.v (.int .i64 p0)] [] (by kernel_rfl) (Eq.mp (by kernel_rfl) h)
def Zl9:Env:=EB
theorem ZjN  (m:Mem)(R:RT)(h:
 ∀(b:Nat),rtM m m R (agg (Array.mk [int u8 2,bool false,bool false,int u8 0,int u64 0,int u64 0,int u64 0,int u64 0,int i64 0,int i64 0,slice none 0 0,string (ByteArray.mk (Array.mk [97])),int
 i64 0,slice none 0 0,string bE0,int i64 0]))):CX Tryz.prog 28 #[] m [] R:=
 Zag (E:=Zl9) Zak mix Tryz.func28 [] [] (by kernel_rfl) (Eq.mp (by kernel_rfl) h)
def Zrh:Env:=EB
theorem Zom  (m:Mem)(R:RT)(h:
 ∀(b:Nat),rtM m m R (agg (Array.mk [int u8 3,bool false,bool false,int u8 0,int u64 0,int u64 0,int u64 0,int u64 0,int i64 0,int i64 0,slice none 0 0,string bE0,int i64 0,slice
 none 0 0,string bE0,int i64 0]))):CX Tryz.prog 29 #[] m [] R:=
 Zag (E:=Zrh) Zak mix Tryz.func29 [] [] (by kernel_rfl) (Eq.mp (by kernel_rfl) h)
def Zma:Env:={ EB with
 joins:=(λi=>bif Nat.beq i 12 then some [(0,.bool)]else none) }
theorem ZjO  (m:Mem)(R:RT)(h:
 ∃(R_1:RT),True/\CX Tryz.prog 27 (Array.mk [int i64 5]) m [] R_1/\ZaZ (Shape.agg [Shape.int u8,Shape.bool,Shape.bool,Shape.int u8,Shape.int u64,Shape.int u64,Shape.int u64,Shape.int u64,Shape.int i64,
 Shape.int i64,Shape.slice,Shape.str,Shape.int i64,Shape.slice,Shape.str,Shape.int i64]) R_1/\∀(n:Int)(b dx:Bool)(dy dz d0 d1 d2 d3 d4:Int)(a:Option Addr)(d5 c:Nat)(s:ByteArray)(d6:Int) (d7:
 Option Addr) (d8 d9:Nat) (ea:ByteArray) (eb:Int) (m':Mem),lX (bool b) λyL=>lX (string s) λak=>lX (string ea) λal=>lX (bool dx) λam=>lX (int i64 d3) λan=>lX (int u64 d0) λao=>lX
 (int u64 d2) λap=>lX (int u64 d1) λaq=>lX (int u8 dy) λar=>lX (int i64 d4) λau=>lX (int i64 eb) λav=>lX (int u8 n) λaw=>lX (int u64 dz) λax=>lX (int i64 d6) λay=>lX (slice a d5 c)
 λaz=>lX (slice d7 d8 d9) λa0=>m.le m'->R_1 (agg (Array.mk [aw,yL,am,ar,ax,ao,aq,ap,an,au,az,ak,ay,a0,al,av])) m' []->∃(R_2:RT),True/\CX Tryz.prog 28 (Array.mk []) m' [] R_2/\ZaZ
 (Shape.agg [Shape.int u8,Shape.bool,Shape.bool,Shape.int u8,Shape.int u64,Shape.int u64,Shape.int u64,Shape.int u64,Shape.int i64,Shape.int i64,Shape.slice,Shape.str,Shape.int i64,Shape.slice,Shape.str,
 Shape.int i64]) R_2/\∀(n:Int)(b ec:Bool)(ed ee ef eg eh ei ej:Int)(a:Option Addr)(ek c:Nat)(s:ByteArray)(el:Int)(em:Option Addr)(en eo:Nat)(ep:ByteArray)(eq:Int)(ac:Mem),lX (bool
 ec) λa1=>lX (bool b) λa2=>lX (string s) λa3=>lX (string ep) λa4=>lX (int u64 eh) λa5=>lX (int i64 eq) λa6=>lX (int u8 n) λa7=>lX (int i64 ej) λa8=>lX (int u64 ef) λa9=>lX
 (int u64 eg) λba=>lX (int i64 ei) λbb=>lX (int i64 el) λbc=>lX (int u64 ee) λbd=>lX (int u8 ed) λbe=>lX (slice a ek c) λbf=>lX (slice em en eo) λbg=>m'.le ac->R_2 (agg (Array.mk
 [a7,a2,a1,be,bd,a9,ba,a5,bb,a8,bf,a3,bc,bg,a4,a6])) ac []->∃(R_3:RT),True/\CX Tryz.prog 27 (Array.mk [int i64 3]) ac [] R_3/\ZaZ (Shape.agg [Shape.int u8,Shape.bool,Shape.bool,Shape.int u8,
 Shape.int u64,Shape.int u64,Shape.int u64,Shape.int u64,Shape.int i64,Shape.int i64,Shape.slice,Shape.str,Shape.int i64,Shape.slice,Shape.str,Shape.int i64]) R_3/\∀(n:Int)(b er:Bool) (es et eu ev ew ex
 ey:Int) (a:Option Addr) (ez c:Nat) (s:ByteArray) (e0:Int) (e1:Option Addr) (e2 e3:Nat) (e4:ByteArray) (e5:Int) (m':Mem),lX (bool b) λbh=>lX (string e4) λbi=>lX (bool er) λbj=>lX
 (string s) λbk=>lX (int u64 ev) λbl=>lX (int u64 ew) λbm=>lX (int i64 ey) λbn=>lX (int i64 ex) λbo=>lX (int u8 es) λbp=>lX (int u64 eu) λbq=>lX (int u64 et) λbs=>lX (int i64 e0)
 λbt=>lX (int u8 n) λbu=>lX (int i64 e5) λbv=>lX (slice e1 e2 e3) λbw=>lX (slice a ez c) λbx=>ac.le m'->R_3 (agg (Array.mk [bu,bh,bj,bp,bs,bq,bl,bm,bo,bn,bx,bk,bt,bw,bi,bv]))
 m' []->∃(R_4:RT),True/\CX Tryz.prog 29 (Array.mk []) m' [] R_4/\ZaZ (Shape.agg [Shape.int u8,Shape.bool,Shape.bool,Shape.int u8,Shape.int u64,Shape.int u64,Shape.int u64,Shape.int u64,Shape.int i64,
 Shape.int i64,Shape.slice,Shape.str,Shape.int i64,Shape.slice,Shape.str,Shape.int i64]) R_4/\∀(n:Int)(b e6:Bool)(e7 e8 e9 fa fb fc fd:Int)(a:Option Addr)(fe c:Nat)(s:ByteArray)(ff:Int) (fg:
 Option Addr) (fh fi:Nat) (fj:ByteArray) (fk:Int) (ad:Mem),lX (bool e6) λbz=>lX (string fj) λca=>lX (bool b) λcb=>lX (string s) λcc=>lX (int u64 fa) λcd=>lX (int u64 fb) λce=>lX
 (int i64 ff) λcf=>lX (int u64 e9) λcg=>lX (int i64 fc) λch=>lX (int u8 e7) λci=>lX (int u8 n) λcj=>lX (int i64 fk) λck=>lX (int i64 fd) λcl=>lX (int u64 e8) λcm=>lX (slice fg fh
 fi) λcn=>lX (slice a fe c) λco=>m'.le ad->R_4 (agg (Array.mk [cj,cb,bz,ci,cm,cg,cd,ce,ch,cl,co,cc,cf,cn,ca,ck])) ad []->∃(R_5:RT),True/\CX Tryz.prog 27 (Array.mk [int i64 3]) ad []
 R_5/\ZaZ (Shape.agg [Shape.int u8,Shape.bool,Shape.bool,Shape.int u8,Shape.int u64,Shape.int u64,Shape.int u64,Shape.int u64,Shape.int i64,Shape.int i64,Shape.slice,Shape.str,Shape.int i64,Shape.slice,
 Shape.str,Shape.int i64]) R_5/\∀(n:Int)(b fl:Bool)(fm fn fo fp fq fr fs:Int)(a:Option Addr)(ft c:Nat)(s:ByteArray)(fu:Int)(fv:Option Addr)(fw fx:Nat)(fy:ByteArray)(fz:Int)(m':Mem),
 lX (string fy) λcp=>lX (string s) λcq=>lX (bool fl) λcr=>lX (bool b) λcs=>lX (int u8 n) λct=>lX (int i64 fr) λcu=>lX (int i64 fu) λcv=>lX (int u64 fo) λcw=>lX (int u64 fn) λcx
 => lX (int i64 fs) λcy=>lX (int u8 fm) λcz=>lX (int i64 fz) λda=>lX (int u64 fp) λdb=>lX (int u64 fq) λdc=>lX (slice a ft c) λdd=>lX (slice fv fw fx) λde=>ad.le m'->R_5 (agg
 (Array.mk [ct,cs,cr,cz,cx,cw,db,dc,cu,cy,dd,cq,cv,de,cp,da])) m' []->∃(R_6:RT),True/\CX Tryz.prog 29 (Array.mk []) m' [] R_6/\ZaZ (Shape.agg [Shape.int u8,Shape.bool,Shape.bool,Shape.int u8,
 Shape.int u64,Shape.int u64,Shape.int u64,Shape.int u64,Shape.int i64,Shape.int i64,Shape.slice,Shape.str,Shape.int i64,Shape.slice,Shape.str,Shape.int i64]) R_6/\∀(n:Int)(b f0:Bool) (f1 f2 f3 f4 f5 f6
 f7:Int) (a:Option Addr) (f8 c:Nat) (s:ByteArray) (f9:Int) (ga:Option Addr) (gb gc:Nat) (gd:ByteArray) (ge:Int) (ab:Mem),lV [int u8 n,bool b,bool f0,int u8 f1,int u64 f2,int u64 f3,int u64 f4,
 int u64 f5,int i64 f6,int i64 f7,slice a f8 c,string s,int i64 f9,slice ga gb gc,string gd,int i64 ge] λxL=>lV (aw::yL::am::ar::ax::ao::aq::ap::an::au::az::ak::ay::a0::al::av
 :: a7::a2::a1::be::bd::a9::ba::a5::bb::a8::bf::a3::bc::bg::a4::a6::bu::bh::bj::bp::bs::bq::bl::bm::bo::bn::bx::bk::bt::bw::bi::bv::cj::cb::bz::ci ::
 cm::cg::cd::ce::ch::cl::co::cc::cf::cn::ca::ck::ct::cs::cr::cz::cx::cw::db::dc::cu::cy::dd::cq::cv::de::cp::da::xL) λaj=>m'.le ab->R_6 (agg (Array.mk
 xL)) ab []->∀(b:Nat),lE [some (Box.mk b aj 57 96 true true)] λxL=>ab.free b->∃(R_7:RT),True/\CX Tryz.prog 26 (Array.mk [slice (some (Addr.mk b 0 none)) 6 6]) (ab.add b aj) [] R_7/\ZaZ
 (Shape.agg [Shape.int i64,Shape.slice,Shape.slice]) R_7/\∀(n:Int)(a:Option Addr)(gf c:Nat)(gg:Option Addr)(gh gi:Nat)(m':Mem),lV [int i64 n,slice a gf c,slice gg gh gi] λdf=>lX (agg
 (Array.mk df)) λyL=>Mem.le (ab.add b aj) m'->R_7 yL m' []->∀(b:Nat),∃(R_8:RT),lE (some (Box.mk b df 30 3 false true)::xL) λxL=>True/\CX Tryz.prog 18 (Array.mk [yL,int i64 0]) m' [] R_8/\ZaZ
 (Shape.tup [Shape.int i64,Shape.bool,Shape.int i64]) R_8/\∀(n:Int)(b:Bool)(dg:Int)(ae:Mem),m'.le ae->R_8 (tuple (Array.mk [int i64 n,bool b,int i64 dg])) ae []->∃(R_9:RT),True/\CX Tryz.prog
 19 (Array.mk [yL,int i64 0]) ae [] R_9/\ZaZ (Shape.tup [Shape.int i64,Shape.bool,Shape.int i64]) R_9/\∀(dh:Int)(di:Bool)(dj:Int)(m':Mem),ae.le m'->R_9 (tuple (Array.mk [int i64 dh,bool di,int
 i64 dj])) m' []->∃(R_10:RT),True/\CX Tryz.prog 10 (Array.mk [yL]) m' [] R_10/\ZaZ (Shape.tup [Shape.slice,Shape.int i64]) R_10/\∀(a:Option Addr)(dk c:Nat)(dl:Int)(af:Mem),m'.le af->R_10
 (tuple (Array.mk [slice a dk c,int i64 dl])) af []->∃(R_11:RT),True/\CX Tryz.prog 20 (Array.mk [yL,int i64 0,int i64 3]) af [] R_11/\ZaZ (Shape.tup [Shape.int i64,Shape.bool,Shape.int i64]) R_11/\∀(dm:
 Int) (dn:Bool) (dp:Int) (m':Mem),af.le m'->R_11 (tuple (Array.mk [int i64 dm,bool dn,int i64 dp])) m' []->∃(R_12:RT),True/\CX Tryz.prog 20 (Array.mk [yL,int i64 0,int i64 5]) m' [] R_12/\ZaZ
 (Shape.tup [Shape.int i64,Shape.bool,Shape.int i64]) R_12/\∀(gj:Int)(dq:Bool)(dr:Int)(aa:Mem),m'.le aa->R_12 (tuple (Array.mk [int i64 gj,bool dq,int i64 dr])) aa []->br (!i64.wrap
 (i64.wrap (i64.wrap (i64.wrap (dg+dj)+dl)+dp)+dr) == (0:Int)) (rtM m aa R (bool false)) (br (!n == (2:Int)) (rtM m aa R (bool false)) (br (!b) (rtM m aa R (bool false)) (br (!dh == (3
 : Int)) (rtM m aa R (bool false)) (br (!di) (rtM m aa R (bool false)) (br (!dm == (2:Int)) (rtM m aa R (bool false)) (br (!dn) (rtM m aa R (bool false)) (br dq (rtM m aa R (bool false)) (∀(b:Nat),lE (some (Box.mk
 b [int i64 0,int i64 0,int i64 0,int i64 4,int i64 0,int i64 5] 37 6 true true)::xL) λxL=>aa.free b->kB Tryz.prog 30 [slice a dk c,slice (some (Addr.mk b 0 none)) 3 3] (aa.add b [int i64 0,int i64
 0,int i64 0,int i64 4,int i64 0,int i64 5]) λb m'=>br (!b) (rtM m m' R (bool false)) (∀(b:Nat),lM (m'.add b [int i64 0,int i64 0,int i64 0,int i64 5]) λmL=>lE (some (Box.mk b [int i64 0,int i64
 0,int i64 0,int i64 5] 37 4 true true)::xL) λxL=>m'.free b->∃(R_13:RT),True/\CX Tryz.prog 11 (Array.mk [yL,slice (some (Addr.mk b 0 none)) 2 2]) mL [] R_13/\ZaZ (Shape.tup [Shape.bool,Shape.int
 i64]) R_13/\∀(b:Bool)(n:Int)(m':Mem),mL.le m'->R_13 (tuple (Array.mk [bool b,int i64 n])) m' []->∀(ag:Nat),lM (m'.add ag [int i64 0,int i64 5,int i64 0,int i64 0]) λmL=>lE (some (Box.mk
 ag [int i64 0,int i64 5,int i64 0,int i64 0] 37 4 true true)::xL) λxL=>m'.free ag->∃(R_14:RT),True/\CX Tryz.prog 11 (Array.mk [yL,slice (some (Addr.mk ag 0 none)) 2 2]) mL [] R_14/\ZaZ (Shape.tup
 [Shape.bool,Shape.int i64]) R_14/\∀(ds:Bool)(dt:Int)(m':Mem),mL.le m'->R_14 (tuple (Array.mk [bool ds,int i64 dt])) m' []->∀(ah:Nat),lM (m'.add ah [int i64 0,int i64 2]) λmL=>lE (some
 (Box.mk ah [int i64 0,int i64 2] 37 2 true true)::xL) λxL=>m'.free ah->∃(R_15:RT),True/\CX Tryz.prog 11 (Array.mk [yL,slice (some (Addr.mk ah 0 none)) 1 1]) mL [] R_15/\ZaZ (Shape.tup [Shape.bool,
 Shape.int i64]) R_15/\∀(du:Bool)(dv:Int)(m':Mem),mL.le m'->R_15 (tuple (Array.mk [bool du,int i64 dv])) m' []->∃(dw:Bool),lV [bool dw] λai=>br (i64.wrap (i64.wrap (n+dt) +
 dv) == (0:Int)) (br b (br (!ds) (Zad xL/\[bool !du]=ai) (Zad xL/\[bool false]=ai)) (Zad xL/\[bool false]=ai)) (Zad xL/\[bool false]=ai)/\rtM m m' R (bool dw))))))))))):CX Tryz.prog 8 #[] m [] R:=
 Zag (E:=Zma) Zak mix Tryz.func8 [] [] (by kernel_rfl) (Eq.mp (by kernel_rfl) h)
def Zbx:Env:={ EB with
 loops:=(λi=>bif Nat.beq i 4 then⟨[(13,.int .i64)],[],[],false⟩ else⟨[],[],[],false⟩)
 dr:=(λi=>bif Nat.beq i 6 then[⟨0,[],[],none,[],[]⟩,⟨1,[],[],none,[],[]⟩,⟨2,[],[],none,[0,1],[]⟩,⟨3,[],[],none,[0,1,2],[]⟩,⟨4,[],[],none,[],[]⟩,⟨5,[],[],none,[],[]⟩,⟨6,[],[],none,[4,5],[]⟩,⟨7,[],[],none,[4,5,6],[]⟩,⟨8,[],[],none,[0,1,2,3,4,5,6,7],[]⟩]else[]) }
theorem Zbr(p0a:Option Addr)(p0n p0c:Nat)(p1a:Option Addr)(p1n p1c:Nat)(m:Mem)(R:RT)(h:
 br (!(↑p0n:Int) == (↑p1n:Int)) (rtM m m R (bool false)) (∃(I:IT),inI I [int i64 0] [] [] m/\∀(n:Int)(m':Mem)(n_1:Nat),m.le m'->I [int i64 n] [] [] m' n_1->br (decide (n < (↑p0n:Int))) (atA p0a
 λb o=>Zaf n p0n/\∃v v_1:Value,m'.reads b (o+Int.toNat n*2) [v,v_1]/\atA p1a λb o=>Zaf n p1n/\∃v_2 v_3:Value,m'.reads b (o+Int.toNat n*2) [v_2,
 v_3]/\∃(b:Bool),EqIs Tryz.prog 37 (agg (Array.mk [v,v_1])) (agg (Array.mk [v_2,v_3])) b/\br (!b) (rtM m m' R (bool false)) (nxI n_1 I [int i64 (i64.wrap (n+(1:Int)))] [] [] m')) (rtM m m' R (bool
 true)))):CX Tryz.prog 30 #[.slice p0a p0n p0c,.slice p1a p1n p1c] m [] R:=
 Zag (E:=Zbx) Zak mix Tryz.func30 [.v (.slice p0a p0n p0c),.v (.slice p1a p1n p1c)] [] (by kernel_rfl) (Eq.mp (by kernel_rfl) h)
end Go.Proofs.YtojlhhphofhaoaaGreatDoor
namespace Go.Proofs.YtojlhhphofhaoaaGreatDoor
open Go Go.Eng Go.Rx Go.Proofs Go.RowKit
set_option maxRecDepth 100000
def ruK(k n:Int)(s:ByteArray):Ru:=⟨k,false,false,T0,s,n,none,0,[],⟨#[]⟩,0⟩
def ZBP:List Ru:=[ruK 4 5 ⟨#[]⟩,ruK 2 0 ⟨#[97]⟩,ruK 4 3 ⟨#[]⟩,ruK 3 0 ⟨#[]⟩,ruK 4 3 ⟨#[]⟩,ruK 3 0 ⟨#[]⟩]
def exS(sa ra:Option Addr):Sc:=⟨4,none,0,[],sa,1,[⟨⟨#[97]⟩,ra,6,ZBP⟩]⟩
theorem ZEu(sa ra:Option Addr):okS (exS sa ra)=true:=by kernel_rfl
theorem ZCw(sa ra:Option Addr):Za0 (exS sa ra)=[((0:Int),(0:Int)),(0,4),(0,5)]:=by kernel_rfl
theorem ZEv(sa ra:Option Addr):Zir toO (exS sa ra) 0=ZeS 2 true 0:=by kernel_rfl
theorem ZEw(sa ra:Option Addr):Zir eoO (exS sa ra) 0=ZeS 3 true 0:=by kernel_rfl
theorem ZCx(sa ra:Option Addr):ZzA (exS sa ra) 0 3=ZeS 2 true 0:=by kernel_rfl
theorem ZCy(sa ra:Option Addr):ZzA (exS sa ra) 0 5=ZeS 0 false 0:=by kernel_rfl
theorem ZBQ:Zzw [((0:Int),(0:Int)),(0,4),(0,5)] [(0,0),(0,5)]=true/\Zzw [((0:Int),(0:Int)),(0,4),(0,5)] [(0,5),(0,0)]=false/\Zzw [((0:Int),(0:Int)),(0,4),(0,5)] [(0,2)]=false:=by decide
theorem ZBR(n:Int)(m:Mem):CX Tryz.prog 27 #[.int .i64 n] m [] (Ret (.agg (ruK 4 n ⟨#[]⟩).cs.toArray)):=by
 apply Zg4
 exact λb=>Zac (Mem.le_refl _) rfl
theorem ZDV(m:Mem):CX Tryz.prog 28 #[] m [] (Ret (.agg (ruK 2 0 ⟨#[97]⟩).cs.toArray)):=by
 apply ZjN
 exact λb=>Zac (Mem.le_refl _) rfl
theorem ZDd(m:Mem):CX Tryz.prog 29 #[] m [] (Ret (.agg (ruK 3 0 ⟨#[]⟩).cs.toArray)):=by
 apply Zom
 exact λb=>Zac (Mem.le_refl _) rfl
theorem ZgG{r:Ru}:∀(v:Value)(m':Mem) (css:List (List Value)),Ret (.agg r.cs.toArray) v m' css->Shape.fits (.agg [.int .u8,.bool,.bool,.int .u8,.int .u64,.int .u64,.int .u64,.int .u64,.int .i64,.int .i64,.slice,.str,.int .i64,.slice,.str,.int .i64]) v=true:=λv _ _ h=>by rw[show v=_ from h];rfl
theorem Zxu{r:Ru}{m:Mem}{K:Int->Bool->Bool->Int->Int->Int->Int->Int->Int->Int->Option Addr->Nat->Nat->ByteArray->Int->Option Addr->Nat->Nat->ByteArray->Int->Mem->Prop}(k:∀m',m.le m'->K r.k r.bg r.en r.t.k r.t.s0 r.t.s1 r.t.s2 r.t.s3 r.t.mn r.t.mx r.t.a r.t.subs.length r.t.c r.s r.n r.aa r.acts.length r.ac r.go r.code m'):
  ∀(k1:Int)(k2 k3:Bool)(k4 k5 k6 k7 k8 k9 k10:Int)(ka:Option Addr)(kb kc:Nat)(ks:ByteArray)(kd:Int)(ke:Option Addr)(kf kg:Nat)(kh:ByteArray)(ki:Int)(m':Mem),m.le m'->Ret (.agg r.cs.toArray) (.agg #[.int .u8 k1,.bool k2,.bool k3,.int .u8 k4,.int .u64 k5,.int .u64 k6,.int .u64 k7,.int .u64 k8,.int .i64 k9,.int .i64 k10,.slice ka kb kc,.string ks,.int .i64 kd,.slice ke kf kg,.string kh,.int .i64 ki]) m' []->K k1 k2 k3 k4 k5 k6 k7 k8 k9 k10 ka kb kc ks kd ke kf kg kh ki m':=by
 intro k1 k2 k3 k4 k5 k6 k7 k8 k9 k10 ka kb kc ks kd ke kf kg kh ki m' hm hv
 have hv:Value.agg _=Value.agg r.cs.toArray:=hv
 simp only[Ru.cs,Value.agg.injEq,Array.mk.injEq,List.cons.injEq,Value.int.injEq,Value.bool.injEq,Value.string.injEq,Value.slice.injEq,true_and,and_true]at hv
 obtain⟨rfl,rfl,rfl,rfl,rfl,rfl,rfl,rfl,rfl,rfl,⟨rfl,rfl,rfl⟩,rfl,rfl,⟨rfl,rfl,rfl⟩,rfl,rfl⟩:=hv
 exact k m' hm
theorem ZCz{m:Mem}{k n:Int}{s:ByteArray}(hk:0<=k/\k < 256)(hn:I64 n)(hs:s.size<=1000000000000000):RepR m (ruK k n s):=⟨hk,ZAT m,hs,hn,by show 0<=few;omega,.inl rfl,by simp[ruK],by show(ByteArray.mk #[]).size<=_;decide,by show I64 0;unfold I64;omega⟩
def ZEl(l:List Ru)(a:Option Addr)(c:Nat):Value->Mem->List (List Value)->Prop:=λv m' _=>∃sa,v=(⟨4,none,0,[],sa,1,[⟨⟨#[97]⟩,a,c,l⟩]⟩:Sc).v/\rowRd m' sa [.string ⟨#[97]⟩,.slice a l.length c]
theorem ZyY{l a c}:∀(v:Value)(m':Mem) (css:List (List Value)),ZEl l a c v m' css->Shape.fits (.agg [.int .i64,.slice,.slice]) v=true:=λv _ _ ⟨_,h,_⟩=>by rw[h];rfl
theorem ZA5(l:List Ru)(a:Option Addr)(c:Nat)(m:Mem):CX Tryz.prog 26 #[.slice a l.length c] m [] (ZEl l a c):=by
 apply Zol
 intro b b2 hf
 exact ZaX (Mem.le_add hf _) ⟨_,rfl,ZbF⟩
theorem Zwk(l r:List Dd)(a a':Option Addr)(c c':Nat)(m:Mem)(hl:l.length<=1000000000000000)(h1:rowRd m a (l.map dC).flatten)(h2:rowRd m a' (r.map dC).flatten):
  CX Tryz.prog 30 #[.slice a l.length c,.slice a' r.length c'] m [] (Ret (.bool (decide (l=r)))):=by
 apply Zbr
 refine Zab (λh=>Zac (Mem.le_refl _) ?_) (λh=>?_)
 ·have dH:¬(l.length:Int)=r.length:=by simpa using h
  show Value.bool false=Value.bool _
  rw[decide_eq_false (λe=>dH (by rw[e]))]
 have bA:l.length=r.length:=by
  have:(l.length:Int)=r.length:=by simpa using h
  omega
 refine⟨λxs _ _ m' q=>∃i:Nat,i<=l.length/\xs=[.int .i64 i]/\l.take i=r.take i/\q=l.length - i,⟨l.length,0,by omega,rfl,rfl,rfl⟩,?_⟩
 rintro n m1 q aB ⟨i,hi,hx,heq,rfl⟩
 obtain rfl:n=i:=by simpa using hx
 refine Zar (λaO=>?_) (λbO=>Zac aB ?_)
 ·obtain⟨x,hx⟩:=Zde (show i < l.length by omega)
  obtain⟨y,hy⟩:=Zde (show i < r.length by omega)
  obtain⟨b1,o1,gD,dI⟩:=Zaj Zl6 (h1.mono aB) hx (by omega)
  obtain⟨b2,o2,iI,iy⟩:=Zaj Zl6 (h2.mono aB) hy (by omega)
  refine⟨b1,o1,gD,⟨by omega,aO⟩,_,_,dI,b2,o2,iI,⟨by omega,by omega⟩,_,_,iy,_,Zud x.1 x.2 y.1 y.2,Zab (λh=>Zac aB ?_) (λh=>?_)⟩
  ·have dH:¬x=y:=by
    intro e
    subst e;simp at h
   show Value.bool false=Value.bool _
   rw[decide_eq_false (λe=>dH (by subst e;rw[hx]at hy;exact Option.some.inj hy))]
  ·have e:x=y:=by
    have:(x.1,x.2)=(y.1,y.2):=by simpa using h
    exact this
   subst e
   exact⟨l.length - (i+1),by omega,i+1,by omega,by rw[Zan (by omega) (by omega)];rfl,by rw[List.take_add_one,List.take_add_one,hx,hy,heq],rfl⟩
 ·have hi:i=l.length:=by omega
  subst hi
  show Value.bool true=Value.bool _
  rw[List.take_length,bA,List.take_length]at heq
  rw[decide_eq_true heq]
set_option maxHeartbeats 2000000 in
theorem ZsS(m:Mem):CX Tryz.prog 8 #[] m [] (Ret (.bool true)):=by
 apply ZjO
 refine Zai (ZBR 5 m) ZgG (Zxu λm1 aB=>Zai (ZDV m1) ZgG (Zxu λm2 aM=>Zai (ZBR 3 m2) ZgG (Zxu λm3 aY=>Zai (ZDd m3) ZgG (Zxu λm4 bP=>Zai (ZBR 3 m4) ZgG (Zxu λm5 cL=>Zai (ZDd m5) ZgG (Zxu λm6 fR=>?_))))))
 intro b hf
 have iJ:=mLt aB (mLt aM (mLt aY (mLt bP (mLt cL fR))))
 refine Zai (ZA5 ZBP (some ⟨b,0,none⟩) 6 _) ZyY ?_
 rintro n1 a1 n2 c2 a3 n3 c3 m7 i6 ⟨sa,hv,aN⟩
 simp only[Sc.v,Value.agg.injEq,Array.mk.injEq,List.cons.injEq,Value.int.injEq,Value.slice.injEq,true_and,and_true]at hv
 obtain⟨rfl,⟨rfl,rfl,rfl⟩,rfl,rfl,rfl⟩:=hv
 have sO:=mLt iJ (mLt (Mem.le_add hf _) i6)
 have pW:rowRd m7 (some ⟨b,0,none⟩) (ZBP.map Ru.cs).flatten:=(show rowRd (m6.add b (ZBP.map Ru.cs).flatten) (some ⟨b,0,none⟩) (ZBP.map Ru.cs).flatten from ZbF).mono i6
 have hC:RepC m7 (exS a3 (some ⟨b,0,none⟩)):=by
  refine⟨by show I64 4;unfold I64;omega,by show 0<=few;omega,.inl rfl,by simp[exS],by show 1<=few;unfold few;omega,aN,?_,Nat.le_refl _,Nat.le_refl _⟩
  intro x hx
  have hx:x∈[(⟨⟨#[97]⟩,some ⟨b,0,none⟩,6,ZBP⟩:Sta)]:=hx
  rw[List.mem_singleton]at hx;subst hx
  refine⟨by show(ByteArray.mk #[97]).size<=_;decide,by show 6<=few;unfold few;omega,pW,?_⟩
  intro r hr
  have hr:r∈ZBP:=hr
  simp only[ZBP,List.mem_cons,List.not_mem_nil,or_false]at hr
  rcases hr with rfl|rfl|rfl|rfl|rfl|rfl <;> exact ZCz (by omega) (by unfold I64;omega) (by decide)
 have eT:Zir toO (exS a3 (some ⟨b,0,none⟩)) 0=ZeS 2 true 0:=ZEv _ _
 have eE:Zir eoO (exS a3 (some ⟨b,0,none⟩)) 0=ZeS 3 true 0:=ZEw _ _
 have e3:ZzA (exS a3 (some ⟨b,0,none⟩)) 0 3=ZeS 2 true 0:=ZCx _ _
 have e5:ZzA (exS a3 (some ⟨b,0,none⟩)) 0 5=ZeS 0 false 0:=ZCy _ _
 have eO:okS (exS a3 (some ⟨b,0,none⟩))=true:=ZEu _ _
 have eD:Za0 (exS a3 (some ⟨b,0,none⟩))=[((0:Int),(0:Int)),(0,4),(0,5)]:=ZCw _ _
 have c1:=λM=>Zm7 (exS a3 (some ⟨b,0,none⟩)) 0 M
 have c2:=λM=>ZCt (exS a3 (some ⟨b,0,none⟩)) 0 M
 have c3:=λM=>ZA2 (exS a3 (some ⟨b,0,none⟩)) 0 3 M
 have c5:=λM=>ZA2 (exS a3 (some ⟨b,0,none⟩)) 0 5 M
 rw[eT]at c1;rw[eE]at c2;rw[e3]at c3;rw[e5]at c5
 intro b1
 refine Zai (c1 m7 hC) Zf5 λn4 b4 e4 m8 ia qR=>?_
 obtain⟨rfl,rfl,rfl⟩:=ZiW qR
 refine Zai (c2 m8 (hC.mono ia)) Zf5 λn5 b5 e5' m9 mr kV=>?_
 obtain⟨rfl,rfl,rfl⟩:=ZiW kV
 have uG:=mLt ia mr
 refine Zai (ZoZ (exS a3 (some ⟨b,0,none⟩)) m9 (hC.mono uG)) ZiX λa6 n6 c6 e6 m10 pH oq=>?_
 have oq:=Zl7 oq
 rw[eO]at oq
 obtain⟨rfl,rfl,_,pX⟩:=oq
 have pY:=mLt uG pH
 refine Zai (c3 m10 (hC.mono pY)) Zf5 λn7 b7 e7 m11 nJ ou=>?_
 obtain⟨rfl,rfl,rfl⟩:=ZiW ou
 have pZ:=mLt pY nJ
 refine Zai (c5 m11 (hC.mono pZ)) Zf5 λn8 b8 e8 m12 j3 iv=>?_
 obtain⟨rfl,rfl,rfl⟩:=ZiW iv
 have tf:=mLt pZ j3
 refine ZdQ rfl (ZdQ rfl (ZdQ rfl (ZdQ rfl (ZdQ rfl (ZdQ rfl (ZdQ rfl (ZdQ rfl λb9 uH=>?_)))))))
 have tg:=mLt tf (Mem.le_add uH (([((0:Int),(0:Int)),(0,4),(0,5)]:List Dd).map dC).flatten)
 have uI:=Zwk (Za0 (exS a3 (some ⟨b,0,none⟩))) [((0:Int),(0:Int)),(0,4),(0,5)] a6 (some ⟨b9,0,none⟩) c6 3 (m12.add b9 (([((0:Int),(0:Int)),(0,4),(0,5)]:List Dd).map dC).flatten) (by rw[eD];decide) (pX.mono (mLt (mLt nJ j3) (Mem.le_add uH _))) ZbF
 rw[decide_eq_true eD]at uI
 refine Zae uI λm13 kR=>ZdQ rfl λb10 nI=>?_
 have hK:=λ(l:List Dd)(a:Option Addr)(c:Nat)(M:Mem)(h:m7.le M)(hl:l.length<=1000000000000000) (hr:rowRd M a (l.map dC).flatten)=>Zwj (exS a3 (some ⟨b,0,none⟩)) l a c M (hC.mono h) hl hr
 rw[eO,eD]at hK
 have p7:=mLt tg (mLt kR (Mem.le_add nI (([((0:Int),(0:Int)),(0,5)]:List Dd).map dC).flatten))
 refine Zai (hK [(0,0),(0,5)] (some ⟨b10,0,none⟩) 2 _ p7 (by decide) ZbF) Zl8 λb11 e11 m15 ti p8=>?_
 obtain⟨rfl,rfl⟩:=Zo0 p8
 intro b12 nF
 have p9:=mLt p7 (mLt ti (Mem.le_add nF (([((0:Int),(5:Int)),(0,0)]:List Dd).map dC).flatten))
 refine Zai (hK [(0,5),(0,0)] (some ⟨b12,0,none⟩) 2 _ p9 (by decide) ZbF) Zl8 λb13 e13 m17 tj qa=>?_
 obtain⟨rfl,rfl⟩:=Zo0 qa
 intro b14 tn
 have qb:=mLt p9 (mLt tj (Mem.le_add tn (([((0:Int),(2:Int))]:List Dd).map dC).flatten))
 refine Zai (hK [(0,2)] (some ⟨b14,0,none⟩) 1 _ qb (by decide) ZbF) Zl8 λb15 e15 m19 tq tu=>?_
 obtain⟨rfl,rfl⟩:=Zo0 tu
 rw[ZBQ.1,ZBQ.2.1,ZBQ.2.2]
 exact⟨true,ZrB rfl (ZrB rfl (ZrB rfl ⟨rfl,rfl⟩)),Zac (mLt sO (mLt qb tq)) rfl⟩
end Go.Proofs.YtojlhhphofhaoaaGreatDoor
namespace Go.Proofs.YtojlhhphofhaoaaGreatDoor
open Go Go.Eng Go.Proofs Go.RowKit
open Go.Value (int slice agg bool string tuple func)
open Go.IntKind (u8 u64 i64)
set_option maxRecDepth 100000
def Zri:Env:={ EB with
 loops:=(λi=>bif Nat.beq i 3 then⟨[(12,.int .i64)],[],[],false⟩ else⟨[],[],[],false⟩)
 dr:=(λi=>bif Nat.beq i 5 then[⟨0,[1],[],none,[],[]⟩,⟨1,[1],[],none,[0],[]⟩,⟨2,[],[],none,[],[]⟩,⟨3,[4],[],none,[],[]⟩,⟨4,[],[],none,[3],[]⟩,⟨5,[],[],none,[0,1,2,3,4],[]⟩]else[])
 thaw:=true
 stAt:=(λi=>bif Nat.beq i 22 then some 7 else none)
 last:=(λi=>bif Nat.beq i 5 then true else false)
 tokC:=(λi=>bif Nat.beq i 7 then some (7,8)else none) }
theorem Zon(aA aC aD aE aU aR aS:Int)(aQ:Option Addr)(aP aT:Nat)(m:Mem)(R:RT)(h:
 ∀(b b_1:Nat),∃(R_1:RT),CXT Tryz.prog 131 (Array.mk [slice aQ aP aT]) m 8 R_1/\ZaZ Shape.slice R_1/\∀(a:Option Addr)(n c:Nat)(m':Mem),lX (slice a n c) λyL=>lV [int u8 aA,int u64
 aC,int u64 aD,int u64 aE,int u64 aU,int i64 aR,int i64 aS,yL] λxL=>m.le m'->R_1 yL m' []->∃(I:IT),inI I [int i64 0] [] [] m'/\∀(n_1:Int)(m':Mem)(n_2:Nat),lE (Int.toNat n_1 *
 8) λyL_1=>True->I [int i64 n_1] [] [] m' n_2->br (decide (n_1 < (↑n:Int))) (atA a λb_2 o=>Zaf n_1 n/\∃v v_1 v_2 v_3 v_4 v_5 v_6 v_7:Value,lV [v,v_1,v_2,v_3,v_4,v_5,v_6,v_7] λxL_1=>m'.reads b_2 (o+yL_1) xL_1/\∀(b_3:Nat),chk (v.oneCell'&&(v_1.oneCell'&&(v_2.oneCell' &&
 (v_3.oneCell'&&(v_4.oneCell'&&(v_5.oneCell'&&(v_6.oneCell'&&(v_7.oneCell'&&true)))))))) (∃(f:Fx),∃(R:RT),R=f 4 [agg (Array.mk xL_1)] m'/\CX Tryz.prog 108 (Array.mk [agg
 (Array.mk xL_1)]) m' [] R/\ZaZ (shT) R/\∀(n_3 n_4 n_5 n_6 n_7 n_8 n_9:Int)(a_5:Option Addr)(n_10 c_1:Nat)(m'_1:Mem),lV [int u8 n_3,int u64 n_4,int u64 n_5,int u64 n_6,int u64 n_7,int i64 n_8,int
 i64 n_9,slice a_5 n_10 c_1] λxL_2=>m'.le m'_1->R (agg (Array.mk xL_2)) m'_1 []->atA a λb_4 o=>Zaf n_1 n/\∀(M:Mem),m'.le M->m'_1.le M->yL=slice (some (Addr.mk b_4 0 none)) n c/\o +
 yL_1+8<=n*8/\Zad [some (Box.mk b_1 [int u8 0,int u64 0,int u64 0,int u64 0,int u64 0,int i64 0,int i64 0,slice none 0 0] 52 8 false true),some (Box.mk b xL 52 8 false true)]/\[some (Tok.mk yL 8)] =
 [some (Tok.mk yL 8)]/\nxI n_2 I [int i64 (i64.wrap (n_1+(1:Int)))] [] [] (Mem.upd M b_4 (o+yL_1) xL_2))) (rtM m m' R (agg (Array.mk xL)))):CX Tryz.prog 108 #[.agg #[.int .u8 aA,.int .u64 aC,.int .u64 aD,.int .u64 aE,.int .u64 aU,.int .i64 aR,.int .i64 aS,.slice aQ aP aT]] m [] R:=
 Zal (E:=Zri) Zak mix Tryz.func108 (by kernel_rfl) (Eq.mp (by kernel_rfl) h)
def Zb9:Env:={ EB with
 tokOf:=(λi=>bif Nat.beq i 2 then 7 else bif Nat.beq i 7 then 7 else 0)
 tokC:=(λi=>bif Nat.beq i 5 then some (7,8)else none)
 thaw:=true }
theorem ZbT(p0a:Option Addr)(p0n p0c:Nat)(m:Mem)(R:RT)(h:
 lE (0+p0n) λyL=>br (Option.isNone p0a) (slice none 0 0=slice none 0 0/\R (slice none 0 0) m []) (((0:Int)=(0:Int)/\(0:Int)<=(0:Int)/\(0:Int)*(↑(80:Nat):Int)<=(281474976710656:Int)/\(0
 : Int)<=(9223372036854775807:Int))/\∀(b:Nat),lX (slice (some (Addr.mk b 0 none)) 0 (Int.toNat (0:Int))) λyL_1=>m.free b->Mem.k m b=none->(Tok.mk yL_1 8=Tok.mk yL_1 8\/yL_1=slice none 0 0\/
 Int.toNat (0:Int) < yL)/\∃(xs:List Value),∃(ys:List Value),xs.length=0*8/\ys.length=p0n*8/\rowRd m (some (Addr.mk b 0 none)) xs/\rowRd m p0a ys/\(∀(u:Value),u∈ys->u.oneCell'
 = true)/\yL*80<=140737488355328/\yL<=9223372036854775807/\∀(a':Option Addr)(c':Nat)(m':Mem),lE (some (Tok.mk (slice a' yL c') 8)) λyL_2=>m.le m'->rowRd m' a' (List.append xs ys)->TokFact m
 (some (Addr.mk b 0 none)) a' yL c'->yL_2=yL_2/\R (slice a' yL c') m' [])):CXT Tryz.prog 131 #[.slice p0a p0n p0c] m 8 R:=
 ZiO (E:=Zb9) Zak mix Tryz.func131 [.v (.slice p0a p0n p0c)] (by kernel_rfl) (Eq.mp (by kernel_rfl) h)
end Go.Proofs.YtojlhhphofhaoaaGreatDoor
end
