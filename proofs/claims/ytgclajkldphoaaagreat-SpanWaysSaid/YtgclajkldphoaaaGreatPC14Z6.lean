/- Part of the proof: conditions and contracts of functions of this program. No condition of its own. -/
import Derived.Test.YtgclajkldphoaaaGreatMr
import Derived.Test.YtgclajkldphoaaaGreatPVSC
import Derived.Test.YtgclajkldphoaaaGreatPC14T
set_option linter.unusedVariables false
set_option linter.unusedSimpArgs false
set_option linter.unusedSectionVars false
namespace Go.Proofs.YtgclajkldphoaaaGreat
open Go Go.Eng Go.Rx Go.Proofs Go.RowKit
set_option maxRecDepth 100000
theorem Zuk{t:T}(hc:t.check=0){s:List Nat}(hs:s.length<=512){i:Nat}(hi:i<=s.length):t.wrong s.length (i:Nat)=0/\T.list t s (i:Nat) false=Zsc t s i:=by
 have hw:t.wrong s.length (i:Nat)=0:=by rw[Zft hc];unfold Zzs;rw[if_neg (by omega),if_neg (by omega)]
 refine⟨hw,?_⟩
 unfold T.list
 rw[if_pos hw];rfl
theorem ZsK{t:T}{s:List Nat}(hc:t.check=0)(hs:s.length<=512)(h:s.length∈t.e0 s 0):(ZbG t s).2=0/\(ZbG t s).1.length=t.ngr:=by
 have w:=Zdv hc hs
 unfold ZbG
 rw[if_neg (by rw[w];simp),if_pos h]
 exact⟨rfl,ZnU t s⟩
theorem Zul{E G1 G2 t1 t2:T}{a a1 a2:Option Addr}{c c1 c2:Nat}{s:List Nat}(he:E.er=(Zas 3 0 0 a c [G1,G2]).er)(uD:G1.er=(Zas 6 0 0 a1 c1 [t1]).er)(uE:G2.er=(Zas 6 0 0 a2 c2 [t2]).er)(hc:E.check=0)(uQ:t1.check=0)(yC:t2.check=0)(hs:s.length<=512)(hz:(ZbG E s).2=0):
  ∃i:Nat,i<=s.length/\(ZbG E s).1[0]?=some ((0:Int),(i:Int))/\(ZbG E s).1[1+t1.ngr]?=some ((i:Int),(s.length:Int))/\T.matches t1 (s.take i)=true/\T.matches t2 (s.drop i)=true/\(ZbG E s).1.length=(1+t1.ngr)+(1+t2.ngr):=by
 have h:=Zx9 he uD uE hc hs
 have k1:=ZgV (.inl rfl) hc he (x:=G1) (by simp)
 have k2:=ZgV (.inl rfl) hc he (x:=G2) (by simp)
 cases eZ:(t1.e0 s 0).find? (λi=>decide ((s.drop i).length∈t2.e0 (s.drop i) 0))with
 | none=>rw[eZ]at h;rw[h]at hz;cases hz
 | some i=>
  rw[eZ]at h
  simp only at h
  have fW:i∈t1.e0 s 0:=List.mem_of_find?_eq_some eZ
  have gW:(s.drop i).length∈t2.e0 (s.drop i) 0:=by have:=List.find?_some eZ;simpa using this
  have pZ:=(ZaO s t1 0 (by omega) i fW).2
  have eU:(s.take i).length=i:=by rw[List.length_take];omega
  have tg:(s.drop i).length=s.length - i:=List.length_drop ..
  have tZ:(s.take i).length∈t1.e0 (s.take i) 0:=by
   rw[eU,ZtP s i pZ t1 (Zb1 uQ).1 0 (by omega),ZqZ (Nat.le_refl _)];exact fW
  obtain⟨y1,y2⟩:=ZsK uQ (by omega) tZ
  obtain⟨z1,z2⟩:=ZsK yC (by omega) gW
  have p1:=Zpb uD k1 y1
  have p2:=Zpb uE k2 z1
  rw[p1,p2]at h
  rw[h]
  refine⟨i,pZ,by simp[eU],?_,(Zfm uQ (by omega)).2 tZ,(Zfm yC (by omega)).2 gW,?_⟩
  ·simp only
   rw[List.getElem?_append_right (by simp;omega)]
   have:1+t1.ngr - ((((0:Int),((s.take i).length:Int))::(ZbG t1 (s.take i)).1)).length=0:=by simp;omega
   rw[this,List.map_cons,List.getElem?_cons_zero]
   have:=Zx4 i 0 (s.drop i).length
   rw[show(((0:Nat):Int))=0 from rfl]at this
   rw[this,tg]
   congr 2
   omega
  ·simp only[List.length_append,List.length_map,List.length_cons,y2,z2];omega
set_option maxHeartbeats 6400000 in
theorem ZlK(L L2:List (Nat×Nat×Nat))(pa qa:Option Addr)(pc qc:Nat)(s:List Nat)(sa:Option Addr)(sc:Nat)(m:Mem)(hL:Sm m pa L)(rJ:L.length<=pc)(xw:Sm m qa L2)(r6:L2.length<=qc)(hs:Byt m sa s)(sm:s.length<=sc):
  CX Tryz.prog 3 #[.slice pa L.length pc,.slice qa L2.length qc,.slice sa s.length sc] m [] (Ret (.bool true)):=by
 apply ZgZ
 unfold Zed
 refine Zax (Zri m) λm1 bH=>ZjA rfl ?_
 refine ZaJ (Zvh L pa pc m1 (hL.mono bH) rJ) Zbw (ZfH λt1 m2 bL dA t6=>?_)
 refine ZaJ (Zvh L2 qa qc m2 (xw.mono (mLt bH bL)) r6) Zbw (ZfH λt2 m3 bX fQ uX b1 b2=>?_)
 have xr:(if(14:Int) < (s.length:Int)then(14:Int)else(s.length:Int))=((min 14 s.length:Nat):Int):=by split <;> omega
 simp(maxSteps:=10000000) only[xr,Int.toNat_natCast,Nat.sub_zero]
 have lS:=mLt bH (mLt bL bX)
 have e3:(s.take 14).length=min 14 s.length:=by simp
 have hS:=(ZmI hs 14).mono lS
 rw[<-e3]
 generalize s.take 14=S at *
 have Cz:S.length<=14:=by omega
 have BN:S.length<=sc:=by omega
 have iC:Za0 sa 0 sc 1=sa:=rfl
 simp(maxSteps:=10000000) only[iC]
 replace dA:=dA.mono bX
 have fV:S.length<=512:=by omega
 obtain⟨Fq,oQ,xx,xy⟩:∃F:Fx,(∀l M,F 1 l M=ZfG (Zud t1))/\(∀l M,F 3 l M=ZfG (Zud t2))/\(∀l M,F 5 l M=ZfG (Zwy 3 1 T1 t1 t2)):=
  ⟨λi _ _=>if i=1 then ZfG (Zud t1)else if i=3 then ZfG (Zud t2)else ZfG (Zwy 3 1 T1 t1 t2),λ_ _=>if_pos rfl,λ_ _=>(if_neg (by decide)).trans (if_pos rfl),λ_ _=>(if_neg (by decide)).trans (if_neg (by decide))⟩
 refine⟨⟨by omega,by omega⟩,Fq,_,rfl,?_,?_,?_⟩
 ·rw[oQ];exact ZmH t1 m3 dA
 ·rw[oQ];exact Zbw
 rw[oQ]
 refine ZfH λG1 m4 cA xz t7=>?_
 refine⟨_,rfl,?_,?_,?_⟩
 ·rw[xx];exact ZmH t2 m4 (fQ.mono cA)
 ·rw[xx];exact Zbw
 rw[xx]
 refine ZfH λG2 m5 c9 xA t8=>?_
 obtain⟨cl1,eG1⟩:=ZlJ t6 t7
 obtain⟨cl2,eG2⟩:=ZlJ uX t8
 intro b5 BO
 have ua:=Mem.le_add BO (Rx.Zcu [G1,G2])
 refine⟨_,rfl,?_,?_,?_⟩
 ·rw[xy]
  refine(ZzE [G1,G2] (some ⟨b5,0,none⟩) 2 _ (ZyF (Mem.le_refl _) ((xz.mono c9).mono ua) (xA.mono ua)) (by simp) (by
   intro x hx
   simp at hx
   rcases hx with rfl|rfl
   ·exact cl1
   ·exact cl2)).mono ?_
  rintro v m' css _ ⟨t',e,hr',a,c,hj⟩
  exact⟨t',e,hr',G1,G2,a,c,t7,t8,hj⟩
 ·rw[xy];exact Zbw
 rw[xy]
 refine ZfH λE m6 fE xB BP=>?_
 intro b6 M iG dU sd BQ wx b7 BR
 have xB:=xB.mono wx
 have ub:=dA.mono iG
 have xC:=fQ.mono iG
 have yD:=hS.mono iG
 have sM:∀j:Nat,j < 2->∃X:T,(List.take 8 (List.drop (j*8) (Zak t1.k t1.s0 t1.s1 t1.s2 t1.s3 t1.mn t1.mx t1.a t1.subs.length t1.c E.k E.s0 E.s1 E.s2 E.s3 E.mn E.mx E.a E.subs.length E.c))=X.cs)/\(j=0/\X=t1\/j=1/\X=E):=λj hj=>by
  have:j=0\/j=1:=by omega
  rcases this with rfl|rfl
  ·exact⟨t1,rfl,.inl ⟨rfl,rfl⟩⟩
  ·exact⟨E,rfl,.inr ⟨rfl,rfl⟩⟩
 generalize BS:Zak t1.k t1.s0 t1.s1 t1.s2 t1.s3 t1.mn t1.mx t1.a t1.subs.length t1.c E.k E.s0 E.s1 E.s2 E.s3 E.mn E.mx E.a E.subs.length E.c=X0 at *
 have BT:=mLt lS iG
 obtain⟨mb,iH⟩:∃mb,mb=M.add b7 X0:=⟨_,rfl⟩
 have iQ:M.le mb:=by rw[iH];exact Mem.le_add BR _
 rw[<-iH]
 refine⟨λxs _ _ M q=>∃j:Nat,j<=2/\xs=[.int .i64 (j:Nat)]/\mb.le M/\q=2 - j,⟨_,0,by omega,rfl,Mem.le_refl _,rfl⟩,?_⟩
 rintro jj m7 q _ ⟨j,hj,cJ,lZ,rfl⟩
 obtain rfl:jj=j:=by simpa using cJ
 have yE:m.le m7:=mLt BT (mLt iQ lZ)
 have xD:=mLt iQ lZ
 refine Zab (λbF=>?_) (λcR=>⟨m7,yE,Mem.le_refl _,by trivial⟩)
 have uB:j < 2:=by have:=of_decide_eq_true bF;omega
 obtain⟨X,BU,yF⟩:=sM j uB
 rw[Int.toNat_natCast,BU]
 have BV:IntKind.i64.wrap ((j:Int)+1)=((j+1:Nat):Int):=wr1 (by omega)
 rw[BV]
 have yG:Rep m7 X:=by
  rcases yF with⟨_,rfl⟩|⟨_,rfl⟩
  ·exact ub.mono xD
  ·exact xB.mono xD
 have gN:∀M':Mem,mb.le M'->∃n',n' < 2 - j/\∃j':Nat,j'<=2/\[Value.int .i64 ((j+1:Nat):Int)]=[.int .i64 (j':Nat)]/\mb.le M'/\n'=2 - j':=λM' hM'=>⟨2 - (j+1),by omega,j+1,by omega,rfl,hM',rfl⟩
 refine⟨⟨by omega,by omega⟩,Zaa (Nat.ble_eq_true_of_le (by omega)) λb8=>Zaa rfl (Zaa rfl ?_)⟩
 have xE:=Zn0 false false X m7 yG
 refine ZaJ xE (λv _ _ h=>by unfold Ret at h;rw[h];rfl) ?_
 rintro zc m8 sf sK
 obtain rfl:zc=X.check:=by simpa[Ret]using sK
 refine Zab (λ_=>⟨by trivial,gN m8 (mLt lZ sf)⟩) (λkQ=>?_)
 have kQ:X.check=0:=by simpa using kQ
 have rK:=yG.mono sf
 have xF:=yD.mono (mLt xD sf)
 have BW:X.wrong S.length 0=0:=by rw[Zft kQ];unfold Zzs;rw[if_neg (by omega),if_neg (by omega)]
 have sn:=Zjf X sa S sc m8 rK (λ_=>xF)
 rw[BW]at sn
 refine ZaJ sn (λv _ _ h=>by unfold Ret at h;rw[h];rfl) ?_
 rintro q1 z1 m9 sq yH
 simp only[Ret,Value.tuple.injEq,Array.mk.injEq,List.cons.injEq,Value.int.injEq,Value.bool.injEq,true_and,and_true]at yH
 obtain⟨rfl,rfl⟩:=yH
 refine ZaJ (Zuf X X.er sa S sc m9 rfl (rK.mono sq) (xF.mono sq)) Zug (ZzG λa10 c10 m10 pF kR=>?_)
 rw[Zr3]at kR ⊢
 have nR:mb.le m10:=mLt lZ (mLt sf (mLt sq pF))
 have h0_10:m.le m10:=mLt yE (mLt sf (mLt sq pF))
 have qw:=rK.mono (mLt sq pF)
 have yI:=Zfm kQ fV
 have nE:T.matches X S=true->(ZbG X S).2=0/\(ZbG X S).1.length=X.ngr:=λh=>ZsK kQ fV (yI.1 h)
 have mL:T.matches X S=false->ZbG X S=([],141):=λh=>by
  rcases ZxZ (Zdv kQ fV)with⟨_,h2,_⟩|⟨h2,_⟩
  ·rw[yI.2 h2]at h;cases h
  ·exact h2
 have rF:∀p∈(ZbG X S).1,Zeq S.length p:=ZuZ
 have Av:(ZbG X S).1.length<=9:=by
  cases h:T.matches X S with
  | true=>rw[(nE h).2];exact Zss kQ
  | false=>rw[mL h];simp
 refine⟨λ_ _ _ M=>m10.le M,⟨false,?_,ZjA rfl ⟨by trivial,Mem.le_refl _⟩⟩,?_⟩
 ·refine ZjA rfl ?_
  cases eF:T.matches X S with
  | false=>
   rw[mL eF]
   exact ZjA rfl (ZyJ rfl (ZjA rfl (ZjA rfl (ZjA rfl ⟨by trivial,rfl⟩))))
  | true=>
   obtain⟨y1,y2⟩:=nE eF
   rw[y1]
   refine ZjA rfl (ZjA rfl (ZyJ rfl ⟨_,trivial,Zlo X m10 qw,(λv _ _ h=>by unfold Ret at h;rw[h];rfl),?_⟩))
   rintro zg m11 uc xG
   obtain rfl:zg=X.groups:=by simpa[Ret]using xG
   exact⟨by trivial,by rw[Zjc kQ,<-y2];simp⟩
 rintro m11 _ uc
 have BX:IntKind.i64.wrap ((S.length:Int)+1)=((S.length+1:Nat):Int):=wr1 (by omega)
 rw[BX]
 refine⟨λxs _ _ M q=>∃i:Nat,i<=S.length+1/\xs=[.int .i64 (i:Nat)]/\m10.le M/\q=S.length+1 - i,⟨_,0,by omega,rfl,uc,rfl⟩,?_⟩
 rintro ii m12 q _ ⟨i,hi,cJ,fD,rfl⟩
 obtain rfl:ii=i:=by simpa using cJ
 have h0_12:=mLt h0_10 fD
 refine Zab (λbF=>?_) (λcR=>?_)
 ·
  have xH:i<=S.length:=by have:=of_decide_eq_true bF;omega
  have BY:IntKind.i64.wrap ((i:Int)+1)=((i+1:Nat):Int):=wr1 (by omega)
  rw[BY]
  have qx:=qw.mono fD
  have ud:=xF.mono (mLt sq (mLt pF fD))
  have xI:ZuY X S (i:Nat)=(X.e0 S i,0):=by
   unfold ZuY
   rw[if_neg (by rw[Zdv kQ fV];simp),if_neg (by omega),Int.toNat_natCast]
  have hO:=ZsD X sa S sc (i:Nat) m12 qx (λ_ _=>ud)
  unfold ZAD at hO
  rw[xI]at hO
  refine ZaJ hO (λv _ _ ⟨_,_,h,_⟩=>by rw[h];rfl) ?_
  rintro a13 n13 c13 e13 m13 eC ⟨a',c',hv,rL⟩
  simp only[Value.tuple.injEq,Array.mk.injEq,List.cons.injEq,Value.int.injEq,Value.slice.injEq,true_and,and_true]at hv
  obtain⟨⟨rfl,rfl,rfl⟩,rfl⟩:=hv
  obtain⟨fH,cF⟩:=Zuk kQ fV xH
  have yJ:=Zyl X sa S sc (i:Nat) m13 (qx.mono eC) (λ_=>ud.mono eC)
  rw[fH,cF]at yJ
  refine ZaJ yJ Zmy ?_
  rintro a14 n14 c14 e14 m14 iF ⟨a',c',hv,rM⟩
  simp only[Value.tuple.injEq,Array.mk.injEq,List.cons.injEq,Value.int.injEq,Value.slice.injEq,true_and,and_true]at hv
  obtain⟨⟨rfl,rfl,rfl⟩,rfl⟩:=hv
  have yK:=Zuj kQ fV xH
  have CA:(X.e0 S i).length<=513:=by
   have:=ZbV (d:=0) (i:=i) (s:=S) (Zd9 (Zb1 kQ).1).1 fV xH
   rwa [Za3]at this
  have BZ:(Zsc X S i).length=(X.e0 S i).length:=by
   have h1:=congrArg List.length yK
   rw[Zp0,List.length_map,List.length_map]at h1
   exact h1.symm
  generalize X.e0 S i=O at *
  generalize Zsc X S i=W at *
  refine⟨_,ZnF O a13 c13 m14 (rL.mono iF) (by omega),(λv _ _ ⟨⟨_,_,h,_⟩,_⟩=>by rw[h];rfl),?_⟩
  rintro a15 n15 c15 m15 rN ⟨⟨a',c',hv,rO⟩,qy⟩
  obtain⟨rfl,rfl,rfl⟩:a15=a'/\n15=O.length/\c15=c':=by simpa using hv
  have gG:(O.map λn:Nat=>(n:Int)).length=O.length:=List.length_map _
  have ue:rowRd m15 a15 (ZhK (O.map λn:Nat=>(n:Int))):=by
   have e:ZhK (O.map λn:Nat=>(n:Int))=nsL O:=by unfold ZhK nsL;rw[List.map_map];rfl
   rw[e];exact rO
  have yL:=ZnE (O.map λn:Nat=>(n:Int)) a15 c15 m15 ue (by rw[gG];omega)
  rw[gG,yK]at yL
  refine⟨_,_,yL,(λt ht b hb=>by
   have:t=Tok.mk (.slice a15 O.length c15) 1:=by simpa using ht
   rw[this]at hb;exact hb),(λb hb=>.inl ⟨_,List.mem_singleton.2 rfl,hb⟩),(λv m' css tvs h=>by rw[h.1];rfl),?_⟩
  intro m16 uf _ a16 n16 c16 xJ
  have rP:=xJ.2.2.2
  have gJ:∀mo:Mem,mo.le m14->mo.le m16:=λmo oZ=>Zko (mLt oZ rN) (λb hb=>⟨ZmA oZ (qy b hb).1,Zyw oZ (qy b hb).2⟩) uf
  have h12_14:m12.le m14:=mLt eC iF
  have oI:rowRd m16 a15 (nsL W):=by
   have e:ZhK (W.map λn:Nat=>(n:Int))=nsL W:=by unfold ZhK nsL;rw[List.map_map];rfl
   rw[<-e];exact rP
  refine⟨false,ZjA rfl ⟨Ret (.bool true),trivial,?_,(λv _ _ h=>by unfold Ret at h;rw[h];rfl),?_⟩,ZjA rfl ⟨by trivial,S.length+1 - (i+1),by omega,i+1,by omega,rfl,mLt fD (gJ m12 h12_14),rfl⟩⟩
  ·have:=ZmD W W a15 a14 c15 c14 m16 oI (rM.mono (gJ m14 (Mem.le_refl _))) (by omega)
   rw[beq_self_eq_true]at this
   rw[<-BZ]
   exact this
  ·rintro z m17 xK hz
   obtain rfl:z=true:=by simpa[Ret]using hz
   exact⟨by trivial,by trivial,rfl⟩
 ·
  refine⟨λxs _ _ M q=>∃k:Nat,k<=(ZbG X S).1.length/\xs=[.int .i64 (k:Nat)]/\m10.le M/\q=(ZbG X S).1.length - k,⟨_,0,by omega,rfl,fD,rfl⟩,?_⟩
  rintro kk m13 q _ ⟨k,hk,cJ,eC,rfl⟩
  obtain rfl:kk=k:=by simpa using cJ
  have h0_13:=mLt h0_10 eC
  refine Zab (λbF=>?_) (λcR=>?_)
  ·have bI:k < (ZbG X S).1.length:=by have:=of_decide_eq_true bF;omega
   have rE:IntKind.i64.wrap ((k:Int)+1)=((k+1:Nat):Int):=wr1 (by omega)
   rw[rE]
   obtain⟨p,hp⟩:∃p,(ZbG X S).1[k]?=some p:=⟨_,List.getElem?_eq_getElem bI⟩
   have pE:=rF p (List.mem_of_getElem? hp)
   obtain⟨pb,po,kW,nC⟩:∃b o,a10=some ⟨b,o,none⟩/\m13.reads b o (plV (ZbG X S).1):=by
    rcases kR.mono eC with h|h
    ·have:(plV (ZbG X S).1).length=0:=by rw[h];rfl
     rw[Zvl]at this;omega
    ·exact h
   obtain⟨p1,p2⟩:=Zt7 _ k p hp
   have pY:∃n',n' < (ZbG X S).1.length - k/\True:=⟨(ZbG X S).1.length - (k+1),by omega,trivial⟩
   refine⟨pb,po,kW,⟨by omega,by omega⟩,.int .i64 p.1,.int .i64 p.2,?_,λb9=>Zaa rfl ⟨λ_ _ _=>λv _ _=>v=.agg #[.int .i64 (-1),.int .i64 (-1)],_,rfl,ZsB m13,(λv _ _ h=>by rw[h];rfl),?_⟩⟩
   ·intro i v hi
    have bF:i < 2:=(List.getElem?_eq_some_iff.1 hi).1
    rw[Int.toNat_natCast]
    have:i=0\/i=1:=by omega
    rcases this with rfl|rfl
    ·cases hi;exact nC _ _ p1
    ·cases hi;exact nC _ _ p2
   rintro z1 z2 m14 iF hz
   obtain⟨rfl,rfl⟩:z1=-1/\z2=-1:=by simpa using hz
   refine⟨_,ZsH _ _ _ _,Zab (λcT=>?_) (λ_=>λM sn iQ=>⟨by trivial,(ZbG X S).1.length - (k+1),by omega,k+1,by omega,rfl,mLt eC sn,rfl⟩)⟩
   have iN:0<=p.1/\p.1<=p.2/\p.2<=S.length:=by
    rcases pE with h|h
    ·rw[h]at cT;simp at cT
    ·exact h
   refine Zaa rfl (ZjA (decide_eq_false (by show ¬p.1 < 0;omega)) (Zaa rfl (ZjA (decide_eq_false (by show ¬p.1 > p.2;omega)) (Zaa rfl λM sn iQ=>ZjA (decide_eq_false (by show ¬p.2 > (S.length:Int);omega)) ⟨by trivial,(ZbG X S).1.length - (k+1),by omega,k+1,by omega,rfl,mLt eC sn,rfl⟩))))
  ·
   refine⟨decide (j=0)||!(T.matches X S),?_,Zab (λ_=>⟨by trivial,gN m13 (mLt nR eC)⟩) (λhq=>?_)⟩
   ·refine Zab (λh=>⟨by trivial,?_⟩) (λh=>⟨by trivial,?_⟩)
    ·have:j=0:=by have:(j:Int)=0:=(by simpa using h);omega
     rw[decide_eq_true this];rfl
    ·have:¬j=0:=by have:¬(j:Int)=0:=(by simpa using h);omega
     rw[decide_eq_false this];rfl
   simp only[Bool.or_eq_false_iff,decide_eq_false_iff_not,Bool.not_eq_false']at hq
   obtain⟨B0,eF⟩:=hq
   obtain rfl:X=E:=by
    rcases yF with⟨h,_⟩|⟨_,h⟩
    ·exact absurd h B0
    ·exact h
   obtain⟨y1,y2⟩:=nE eF
   obtain⟨X1,X2,x1,x2,ea,ec,hE⟩:=Zue (.inl rfl) (by decide) t6 uX BP kQ
   obtain⟨i,pZ,g0,gk,gm1,gm2,glen⟩:=Zul hE (show X1.er=(Zas 6 0 0 none 0 [t1]).er from x1) (show X2.er=(Zas 6 0 0 none 0 [t2]).er from x2) kQ t6 uX fV y1
   have hr1_13:=ub.mono (mLt iQ (mLt nR eC))
   have hr2_13:=xC.mono (mLt iQ (mLt nR eC))
   have ug:=yD.mono (mLt iQ (mLt nR eC))
   obtain⟨pb,po,kW,nC⟩:∃b o,a10=some ⟨b,o,none⟩/\m13.reads b o (plV (ZbG X S).1):=by
    rcases kR.mono eC with h|h
    ·have:(plV (ZbG X S).1).length=0:=by rw[h];rfl
     rw[Zvl]at this;omega
    ·exact h
   obtain⟨u1,u2⟩:=Zt7 _ 0 _ g0
   obtain⟨u3,u4⟩:=Zt7 _ _ _ gk
   refine ZaJ (Zlo t1 m13 hr1_13) (λv _ _ h=>by unfold Ret at h;rw[h];rfl) ?_
   rintro zg m14 iF xG
   obtain rfl:zg=t1.groups:=by simpa[Ret]using xG
   have CB:=Zss kQ
   rw[y2]at glen
   have dM:IntKind.i64.wrap (1+t1.groups)=((1+t1.ngr:Nat):Int):=by
    rw[Zjc t6,ZaN (by omega) (by omega)];omega
   rw[dM,Int.toNat_natCast]
   have pG:Zag (0:Int) (ZbG X S).1.length:=⟨by omega,by omega⟩
   have uh:Zag (((1+t1.ngr:Nat)):Int) (ZbG X S).1.length:=⟨by omega,by omega⟩
   have cl:∀(M:Mem),m13.le M->M pb (po+0+0)=some (.int .i64 0)/\M pb (po+0+1)=some (.int .i64 (i:Nat))/\M pb (po+(1+t1.ngr)*2+0)=some (.int .i64 (i:Nat))/\M pb (po+(1+t1.ngr)*2+1)=some (.int .i64 (S.length:Nat)):=λM hM=>
    ⟨hM.c _ _ _ (nC 0 _ u1),hM.c _ _ _ (nC 1 _ u2),hM.c _ _ _ (nC _ _ u3),by rw[Nat.add_assoc];exact hM.c _ _ _ (nC _ _ u4)⟩
   obtain⟨l0,l1,l2,l3⟩:=cl m14 iF
   refine⟨λ_ _ _ M=>m14.le M,ZjA (decide_eq_false (by omega)) ⟨pb,po,kW,pG,_,l0,Zaa rfl (ZjA rfl ⟨pb,po,kW,pG,_,l1,pb,po,kW,uh,_,l2,Zaa rfl (ZjA (by simp[RowKit.intOf]) ⟨pb,po,kW,uh,_,l3,Zaa rfl (ZjA (by simp[RowKit.intOf]) ⟨by trivial,Mem.le_refl _⟩)⟩)⟩)⟩,?_⟩
   rintro m15 _ rN
   have h13_15:m13.le m15:=mLt iF rN
   obtain⟨_,l1',_,_⟩:=cl m15 h13_15
   have uG:RowKit.intOf (.int .i64 (i:Nat))=(i:Int):=rfl
   obtain⟨D,hD⟩:∃D,D=S.drop i:=⟨_,rfl⟩
   have B1:D.length=S.length - i:=by rw[hD];exact List.length_drop ..
   have eM:t1.wrong (S.take i).length 0=0:=by rw[Zft t6];unfold Zzs;rw[if_neg (by simp;omega),if_neg (by omega)]
   have dS:t2.wrong D.length 0=0:=by rw[Zft uX];unfold Zzs;rw[if_neg (by omega),if_neg (by omega)]
   refine⟨λ_ _ _=>Ret (.tuple #[.bool true,.int .i64 0]),pb,po,kW,pG,_,l1',Zaa rfl ?_⟩
   rw[uG,Int.toNat_natCast]
   refine⟨⟨by omega,by omega⟩,_,rfl,?_,(λv _ _ h=>by unfold Ret at h;rw[h];rfl),?_⟩
   ·have:=Zjf t1 sa (S.take i) sc m15 (hr1_13.mono h13_15) (λ_=>ZmI (ug.mono h13_15) i)
    rw[gm1,eM,show(S.take i).length=i by rw[List.length_take];omega]at this
    exact this
   rintro q2 z2 m16 uf ui M1 pH B2
   simp only[Ret,Value.tuple.injEq,Array.mk.injEq,List.cons.injEq,Value.int.injEq,Value.bool.injEq,true_and,and_true]at ui
   obtain⟨rfl,rfl⟩:=ui
   obtain⟨_,l1'',_,_⟩:=cl M1 (mLt h13_15 pH)
   refine⟨λ_ _ _=>Ret (.tuple #[.bool true,.int .i64 0]),pb,po,kW,pG,_,l1'',Zaa rfl ?_⟩
   rw[uG,Int.toNat_natCast,<-B1]
   refine⟨⟨by omega,by omega⟩,_,rfl,?_,(λv _ _ h=>by unfold Ret at h;rw[h];rfl),?_⟩
   ·have B3:Byt M1 (Za0 sa i sc 1) D:=by
     have:=Zvk (ug.mono (mLt h13_15 pH)) i S.length sc BN (Nat.le_refl _) pZ
     rwa [List.take_length,<-hD]at this
    have:=Zjf t2 (Za0 sa i sc 1) D (sc - i) M1 (hr2_13.mono (mLt h13_15 pH)) (λ_=>B3)
    rw[hD,gm2,<-hD,dS]at this
    exact this
   rintro q3 z3 m17 xK uj M2 xL B4
   simp only[Ret,Value.tuple.injEq,Array.mk.injEq,List.cons.injEq,Value.int.injEq,Value.bool.injEq,true_and,and_true]at uj
   obtain⟨rfl,rfl⟩:=uj
   exact⟨false,ZjA rfl (ZjA rfl ⟨by trivial,rfl⟩),ZjA rfl ⟨by trivial,gN M2 (mLt nR (mLt eC (mLt h13_15 (mLt pH xL))))⟩⟩
end Go.Proofs.YtgclajkldphoaaaGreat
namespace Go.Proofs.YtgclajkldphoaaaGreat
open Go Go.Eng Go.Rx Go.Proofs Go.RowKit Go.ChangeShapes Go.WideShapes Go.ChangeAt
set_option maxRecDepth 100000
theorem ZlL(H:Type)(enc:TypeId×Value->H)(W:World)(base:Nat)(args:Array Value)(ds gs:List (DataW H))(before:List MemPlace)
  (gB:∀(j:Nat) t v,Tryz.f3.params[j]?=some t->args[j]?=some v->Value.okWide Tryz.prog W .any base t v)
  (hW:DataW.Whole enc Tryz.prog Tryz.f3.params.toList Rows.spanWaysSpec.vars false W args.toList ds gs before):
  Calls Tryz.prog 3 args W λe W'=>∃v,e=.returned v/\Rows.spanWaysSpec.post enc Tryz.prog Tryz.f3 false true false false W args v W':=by
 have hW':=hW
 obtain⟨p,q,B5,hV,rfl,jI,dC⟩:=hW
 have hA:DataW.TrodAll enc Tryz.prog W 0 (λ_=>true) true Tryz.f3.params.toList args.toList ds p:=B5
 rw[Tryz.params3]at hA gB
 obtain⟨v0,v1,v2,d0,d1,d2,p0,p1,p2,rfl,rfl,rfl,h0,h1,h2⟩:=trodAll_three hA
 obtain⟨rfl,rfl⟩:=trodVars_none hV
 obtain⟨L,pa,pc,rfl,hL,rJ⟩:=Zkm (gB 0 _ v0 rfl rfl) h0
 obtain⟨L2,qa,qc,rfl,xw,r6⟩:=Zkm (gB 1 _ v1 rfl rfl) h1
 obtain⟨s,sa,sc,rfl,hs,sm,B6⟩:=Zyq (gB 2 _ v2 rfl rfl) h2
 exact Ztw (tb:=4) Zyo (by rw[Tryz.params3];intro t ht;simp at ht;rcases ht with rfl|rfl <;> exact⟨by kernel_rfl,of_decide_eq_true (by kernel_rfl)⟩) hW' rfl rfl rfl rfl rfl Tryz.underlying4 (ZlK L L2 pa qa pc qc s sa sc (ZwL W) hL rJ xw r6 hs sm)
theorem Zp1(os:Os)(started:os.Started)(H:Type)(enc:TypeId×Value->H):
  ReturnsInHanded {} Tryz.checked os 3 .any (Rows.spanWaysSpec.pre6 enc Tryz.prog Tryz.f3 Rows.spanWaysRow.domain false) (Rows.spanWaysSpec.post enc Tryz.prog Tryz.f3 false true false false):=by
 refine returnsInHanded_of_change (C:=Tryz.checked) Zzy started (by kernel_rfl) Tryz.func3
  (ChangeSpec.witness6 (enc:=enc) (C:=Tryz.checked) false ⟨#[],#[.slice none 0 0,.slice none 0 0,.slice none 0 0],[]⟩ 8 (by kernel_rfl) (by kernel_rfl) (by kernel_rfl) (by kernel_rfl)) ?_
 intro W base args ds gs before gB hW _ _
 exact ZlL H enc W base args ds gs before gB hW
theorem ways_holds:Rows.SpanWaysSaid:=
 OpenClaim.holds_of_wide 3 Tryz.f3 rfl rfl rfl rfl rfl rfl rfl ⟨rfl,rfl,rfl,rfl,rfl⟩ rfl rfl rfl rfl rfl (by kernel_rfl) Tryz.func3 (by kernel_rfl)
  (of_decide_eq_true (by kernel_rfl)) (by unfold Func.isWrapper;first|(rw[if_pos (by decide +kernel)];kernel_rfl)|(rw[if_neg (by decide +kernel)];exact⟨rfl,rfl⟩))
  (λos started H enc _=>Zp1 os started H enc)
#print axioms ways_holds
end Go.Proofs.YtgclajkldphoaaaGreat