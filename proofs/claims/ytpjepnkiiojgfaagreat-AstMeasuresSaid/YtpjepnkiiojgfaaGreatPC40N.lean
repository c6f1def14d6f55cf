/- Part of the proof: functions of the program. No condition. -/
import Derived.Test.YtpjepnkiiojgfaaGreatPC25PC
import Derived.Test.YtpjepnkiiojgfaaGreatMr
import Derived.Test.YtpjepnkiiojgfaaGreatPEnv
import Derived.Test.YtpjepnkiiojgfaaGreatPC25AV
import Derived.Test.YtpjepnkiiojgfaaGreatPC25AU
import Derived.Test.YtpjepnkiiojgfaaGreatPC25E
set_option linter.unusedVariables false
set_option linter.unusedSimpArgs false
set_option linter.unusedSectionVars false
noncomputable section
namespace Go.Proofs.YtpjepnkiiojgfaaGreat
open Go Go.Eng Go.Rx Go.Proofs Go.RowKit
set_option maxRecDepth 100000
def Zzw(s:Sc)(i k:Nat)(r:Ru):Value->Mem->List (List Value)->Prop:=λv m' _=>∃s':Sc,v=.tuple #[s'.v,.int .i64 0]/\s'.er=(ZxG s i k r).er/\RepC m' s'
theorem ZpR{s:Sc}{i k:Nat}{r:Ru}:∀(v:Value)(m':Mem) (css:List (List Value)),Zzw s i k r v m' css->Shape.fits (.tup [.agg [.int .i64,.slice,.slice],.int .i64]) v=true:=λv _ _ ⟨t,e,_⟩=>by rw[e];rfl
theorem ZkJ{s:Sc}{n e e':Int}{a a1:Option Addr}{p c p1 c1:Nat}(h:Value.tuple #[.agg #[.int .i64 n,.slice a p c,.slice a1 p1 c1],.int .i64 e']=.tuple #[s.v,.int .i64 e]):(n=s.n/\a=s.va/\p=s.vars.length/\c=s.vc/\a1=s.sa/\p1=s.states.length/\c1=s.sc)/\e'=e:=by
 simpa[Sc.v,and_assoc]using h
set_option maxHeartbeats 1000000 in
theorem Zy1(s:Sc)(i k:Nat)(r:Ru)(m:Mem)(hr:RepC m s)(hl:s.light=true){x:Sta}(hx:s.states[i]?=some x)(hk:k < x.rules.length)(hq:RepR m r)(rK:(ZxG s i k r).light=true):CX Tryz.prog 14 #[s.v,.int .i64 i,.int .i64 k,.agg r.cs.toArray] m [] (Zzw s i k r):=by
 have hi:=(zA0 hx).1
 have eW:s.states.length<=100000:=hr.len
 have je:x.rules.length<=100000:=(hr.all x (zA2 hx)).len
 have fZ:ZfU s i k=true:=by
  simp only[ZfU,hl,zA8,hx,Bool.true_and,zA7,decide_eq_true_eq]
  omega
 have aC:LtR r:=by
  have h2:ZxG s i k r=⟨s.n,s.va,s.vc,s.vars,s.sa,s.sc,s.states.set i (Zrq x k r)⟩:=by unfold ZxG;rw[hx]
  refine Zsl rK (Zrq x k r) (by rw[h2];exact List.mem_iff_getElem?.2 ⟨i,List.getElem?_set_self hi⟩) r ?_
  exact List.mem_iff_getElem?.2 ⟨k,List.getElem?_set_self hk⟩
 apply ZpQ
 intro b m1 aE jI gc vR fA b1 m2 aI iA yv yw yx b2
 have cI:=mLt aE aI
 have hc:=Zrk s i k m2 (hr.mono cI)
 rw[fZ]at hc
 refine Zag hc λm3 aP=>Zhy rfl ?_
 have dG:=mLt cI aP
 refine Zan (Zrg s m3 (hr.mono dG) hl) Zml ?_
 rintro n a p c a1 p1 c1 m4 bU ⟨s',hv,jl,cM,cR⟩ b4
 obtain⟨rfl,rfl,rfl,rfl,rfl,rfl,rfl⟩:=ZpM hv
 obtain⟨x',hx',j9⟩:=Zwx jl hx
 obtain⟨cE,dB,tN⟩:=ZfG j9
 have hk':k < x'.rules.length:=by omega
 have hi':=(zA0 hx').1
 rcases cR with h0|⟨bS,μ,cR⟩
 ·rw[h0]at hi';simp at hi'
 obtain⟨j8,⟨v6,nv⟩,bQ,mB⟩:=cR.all i x' hx'
 rcases nv with h0|⟨bR,iO,kM,uu,jR⟩
 ·rw[h0]at hk';simp at hk'
 have aB:(μ i).reads bR 0 (x'.rules.map Ru.cs).flatten:=by
  rcases j8.row with h|⟨b',o',ha,h⟩
  ·have:=congrArg List.length h
   rw[ZaU Ru.len]at this;simp at this;omega
  ·rw[iO]at ha;cases ha;exact h
 have kN:(x'.rules.map Ru.cs).flatten.length=x'.rules.length*16:=ZaU Ru.len _
 have iE:¬(μ i).free bR:=λhf=>by
  have:=aB 0 _ (zA3 (by omega))
  rw[hf]at this;cases this
 have og:bS≠bR:=λe=>iE (e ▸ mB)
 have fN:¬m3.free b:=λhf=>by
  have:=aP _ _ _ (aI _ _ _ (jI 0 _ rfl))
  rw[hf]at this;cases this
 have qX:¬m3.free b1:=λhf=>by
  have:=aP _ _ _ (iA 0 _ rfl)
  rw[hf]at this;cases this
 have uA:=mLt bQ (Zec m3 m4)
 have cT:rowRd m4 (some ⟨bR,0,none⟩) (x'.rules.map Ru.cs).flatten:=.inr ⟨bR,0,rfl,aB.mono uA⟩
 obtain⟨bs0,o0,ky,cB⟩:=Zaj Sta.len cM.row hx' (by omega)
 rw[cR.sa]at ky
 simp only[Option.some.injEq,Addr.mk.injEq,and_true]at ky
 obtain⟨rfl,rfl⟩:=ky
 have bO:∀M:Mem,(m4.off λq=>q=bR).le M->M bS (0+i*2+1)=some (.slice x'.ra x'.rules.length x'.rc):=λM hM=>hM _ _ _ (by
  rw[Mem.off_at (Y:=λq=>q=bR) og];exact(Zec m3 m4) _ _ _ (cB 1 _ rfl))
 have mz:m.le (m4.off λq=>q=bR):=ZfT (mLt dG bU) λq e=>⟨e ▸ Zba dG kM,e ▸ Zd3 dG uu⟩
 have kY:∀(M:Mem)(o:Nat)(vs:List Value),(M.off λq=>q=bR).le (M.upd bR o vs):=λM o vs=>⟨λb o v hv=>by
  by_cases hb:b=bR
  ·rw[Mem.off_free (Y:=λq=>q=bR) hb]at hv;cases hv
  ·rw[Mem.upd_other _ hb];exact Mem.off_le M _ _ _ _ hv,λb e he=>(Mem.off_le M (λq=>q=bR)).k b e he⟩
 obtain⟨bs1,o1,fE,oq⟩:=Zaj Ru.len cT (zA3 hk') (by omega)
 cases fE
 refine⟨bS,0,cR.sa,⟨by omega,by omega⟩,_,bO m4 (Mem.off_le _ _),Zaa rfl ⟨bR,0,iO,⟨by show(0:Int)<=k;omega,by show(k:Int) < (x'.rules.length:Nat);omega⟩,⟨_,Ru.len _,oq⟩,Zba dG kM,rfl,λe=>qX (e ▸ kM),λe=>fN (e ▸ kM),?_⟩⟩
 obtain⟨M1,fP⟩:∃M,M=m4.upd bR (0+k*16) r.cs:=⟨_,rfl⟩
 have kZ:(m4.off λq=>q=bR).le M1:=by rw[fP];exact kY m4 _ _
 have iD:rowRd M1 (some ⟨bR,0,none⟩) ((x'.rules.set k r).map Ru.cs).flatten:=by rw[fP];exact ZqR Ru.len (by omega) cT hk'
 have lb:=ZtM cM cR hx' iO hk' jR kZ iD (hq.mono (mLt mz kZ))
 have uB:=ZtL jl hx j9 (r:=r) (r':=r) rfl k
 have yy:s'.v=(⟨s'.n,s'.va,s'.vc,s'.vars,s'.sa,s'.sc,s'.states.set i (Zrq x' k r)⟩:Sc).v:=by simp only[Sc.v,List.length_set]
 have hL:=ZbW _ M1 lb
 rw[ZcM uB,rK,<-yy,fP]at hL
 refine Zag hL λm5 cC=>Zhy rfl ?_
 have cC:M1.le m5:=by rw[fP];exact cC
 have ju:=mLt kZ cC
 have gn:=mLt mz ju
 refine⟨λ_ _ _=>_,bS,0,cR.sa,⟨by omega,by omega⟩,_,bO m5 ju,_,rfl,Zxe r m5 (hq.mono gn) aC,(λv _ _ ⟨y,h,_⟩=>by rw[h];rfl),?_⟩
 intros
 refine ZpE λys=>?_
 rintro eS ⟨r',hv',uC,uD⟩ M hM uE
 obtain rfl:ys=r'.cs:=by simpa using hv'
 have iV:=mLt gn hM
 have nb:=(iD.mono cC).mono hM
 obtain⟨bs2,o2,fy,jB⟩:=Zaj Ru.len nb (show(x'.rules.set k r)[k]?=some r from List.getElem?_set_self hk') (by omega)
 cases fy
 refine Zaa rfl ⟨bR,0,iO,⟨by show(0:Int)<=k;omega,by show(k:Int) < (x'.rules.length:Nat);omega⟩,⟨_,Ru.len _,jB⟩,Zba dG kM,rfl,λe=>qX (e ▸ kM),λe=>fN (e ▸ kM),?_⟩
 have qY:(m4.off λq=>q=bR).le (M.off λq=>q=bR):=by
  refine⟨λb o v hv=>?_,λb e he=>?_⟩
  ·by_cases hb:b=bR
   ·rw[Mem.off_free (Y:=λq=>q=bR) hb]at hv;cases hv
   ·rw[Mem.off_at (Y:=λq=>q=bR) hb];exact(mLt ju hM) _ _ _ hv
  ·by_cases hb:b=bR
   ·rw[Mem.off_kn (Y:=λq=>q=bR) hb]at he;cases he
   ·rw[Mem.off_k (Y:=λq=>q=bR) hb];exact(mLt ju hM).k _ _ he
 have nf:=mLt qY (kY M (0+k*16) r'.cs)
 have uF:¬m5.free bR:=λhf=>by
  rcases iD.mono cC with h|⟨b',o',ha,h⟩
  ·have:=congrArg List.length h
   rw[ZaU Ru.len,List.length_set]at this;simp at this;omega
  ·cases ha
   have:=h 0 _ (zA3 (by rw[ZaU Ru.len,List.length_set];omega))
   rw[hf]at this;cases this
 have hr':RepR (M.upd bR (0+k*16) r'.cs) r':=uD.mono (mLt (ZfT (Y:=λq=>q=bR) (mLt (Zec _ _) uE) λq e=>⟨by rw[show q=bR from e];exact Znz uF,rfl⟩) (kY M _ _))
 have cU:rowRd (M.upd bR (0+k*16) r'.cs) (some ⟨bR,0,none⟩) ((x'.rules.set k r').map Ru.cs).flatten:=by
  have:=ZqR (y:=r') (k:=k) Ru.len (by omega) nb (by rw[List.length_set];exact hk')
  rwa [List.set_set]at this
 have ld:=ZtM cM cR hx' iO hk' jR nf cU hr'
 exact ZaM (mLt mz nf) ⟨_,by simp only[Sc.v,List.length_set],ZtL jl hx j9 uC k,ld⟩
def Zyd(m:Mem)(s:Sc)(L:List Nat):Value->Mem->List (List Value)->Prop:=λv m' _=>∃k:Sc,v=.tuple #[k.v,.int .i64 0]/\k.n=s.n/\k.vars=s.vars/\k.states.map (λx=>some x.er)=L.map (λi=>(s.states[i]?).map Sta.er)/\RepC (nw m m') k
theorem Zhr{m:Mem}{s:Sc}{L:List Nat}:∀(v:Value)(m':Mem) (css:List (List Value)),Zyd m s L v m' css->Shape.fits (.tup [.agg [.int .i64,.slice,.slice],.int .i64]) v=true:=λv _ _ ⟨t,e,_⟩=>by rw[e];rfl
set_option maxHeartbeats 1000000 in
theorem Zmp(s:Sc)(L:List Nat)(la:Option Addr)(lc:Nat)(m:Mem)(hr:RepC m s)(hl:s.light=true)(aB:rowRd m la (L.map λi:Nat=>Value.int .i64 i))(hL:∀i∈L,i < s.states.length)(hn:L.Nodup)(aH:L.length<=1000):CX Tryz.prog 15 #[s.v,.slice la L.length lc] m [] (Zyd m s L):=by
 have eW:s.states.length<=100000:=hr.len
 apply Zoy
 intro b m1 aE _ _ _ _ b1
 have qG:=ZbW s m1 (hr.mono aE)
 rw[hl]at qG
 refine Zag qG λm2 aI=>Zhy rfl ?_
 have cI:=mLt aE aI
 refine Zan (Zrg s m2 (hr.mono cI) hl) Zml ?_
 rintro n a p c a1 p1 c1 m3 aP ⟨s',hv,jl,lf,_⟩ b2 b3 bm zo dI
 have lJ:(nw m2 m3).le (nw m m3):=Zc3 cI (Mem.le_refl _)
 obtain⟨rfl,rfl,rfl,rfl,rfl,rfl,rfl⟩:=ZpM hv
 have cM:=lf.mono (Zec m2 m3)
 have dG:=mLt cI aP
 have ij:m.k bm=none:=Zd3 dG dI
 have ng:=Zuy jl
 obtain⟨tw,lm⟩:=ZnC jl
 refine⟨λxs css tvs mm q=>∃(i:Nat)(K:List Sta)(ka:Option Addr)(kc:Nat),i<=L.length/\K.length=i/\xs=[.int .i64 i]/\css=[[.int .i64 0,.slice none 0 0,.slice none 0 0],[.int .i64 s'.n,.slice s'.va s'.vars.length s'.vc,.slice ka K.length kc]]/\tvs=[.slice ka K.length kc]/\m3.le mm/\mm.k bm=some (Zx9 (λz:Nat=>Value.int .i64 z) (λ_:Unit=>Value.agg (Array.mk [])) ((L.take i).map λz=>(z,())))/\K.map (λx=>some x.er)=(L.take i).map (λi=>(s.states[i]?).map Sta.er)/\K.length<=kc/\rowRd mm ka (K.map Sta.cs).flatten/\(∀x∈K,RepS (nw m2 m3) x)/\(∀b o,ka=some ⟨b,o,none⟩->m.free b)/\q=L.length - i,⟨L.length,0,[],none,0,by omega,rfl,rfl,rfl,rfl,Mem.le_updK (Mem.le_refl _) dI _,Mem.updK_same _ _ _,rfl,Nat.le_refl _,.inl rfl,(λx hx=>by cases hx),(λb o e=>by cases e),rfl⟩,?_⟩
 rintro z cs0 cs1 ka kn kc mm q _ ⟨i,K,ka',kc',hi,yz,hz,bL,cD,hM,hk,uG,yA,wl,wm,wo,rfl⟩
 obtain rfl:z=i:=by simpa using hz
 obtain⟨rfl,rfl⟩:cs0=_/\cs1=_:=by simpa using bL
 simp only[List.cons.injEq,Value.slice.injEq,and_true]at cD
 obtain⟨rfl,rfl,rfl⟩:=cD
 have js:IntKind.i64.wrap ((i:Int)+1)=((i+1:Nat):Int):=by rw[Zal (by omega) (by omega)];rfl
 have iV:=mLt dG hM
 refine ZaA (λaC=>?_) (λbJ=>Zaa rfl (ZaM iV ?_))
 ·have aC:(i:Int) < (L.length:Nat):=aC
  obtain⟨l,ie⟩:=Zdz (show i < L.length by omega)
  have yB:=zA2 ie
  have ls:=hL l yB
  obtain⟨b4,o4,kw,qx⟩:=ZyP (aB.mono iV) (show(L.map λi:Nat=>Value.int .i64 i)[i]?=some (.int .i64 l) by rw[List.getElem?_map,ie];rfl)
  have ir:l ∉ ((L.take i).map λz=>(z,())).map (·.1):=by
   rw[List.map_map]
   intro fg
   obtain⟨z,hz,rfl⟩:=List.mem_map.1 fg
   obtain⟨j,hj⟩:=List.getElem?_of_mem hz
   have iM:j < i:=by have:=(zA0 hj).1;rw[List.length_take]at this;omega
   rw[List.getElem?_take_of_lt iM]at hj
   have hj:L[j]?=some z:=hj
   obtain⟨g1,g2⟩:=zA0 hj
   obtain⟨g3,g4⟩:=zA0 ie
   have:=(List.getElem_inj (h₀:=g1) (h₁:=g3) hn).1 (g2.trans g4.symm)
   omega
  have heq:∀a b:Nat,EqIs Tryz.prog 3 (.int .i64 (a:Int)) (.int .i64 (b:Int)) (decide (a=b)):=λa b=>by
   have:=Zy0 a b
   rwa [show decide ((a:Int)=(b:Int))=decide (a=b) by congr 1;exact propext (by omega)]at this
  have jz:=Zmc (f:=λz:Nat=>Value.int .i64 z) (g:=λ_:Unit=>Value.agg (Array.mk [])) heq l _ ir
  have yC:=ZqG (f:=λz:Nat=>Value.int .i64 z) (g:=λ_:Unit=>Value.agg (Array.mk [])) heq l () _ ir
  obtain⟨x,hx⟩:∃x,s'.states[l]?=some x:=⟨s'.states[l]'(by omega),zA3 (by omega)⟩
  refine⟨b4,o4,kw,⟨by omega,aC⟩,_,qx,bm,_,_,false,rfl,hk,ZmJ Tryz.underlying3 _,⟨none,jz,rfl,rfl⟩,λb5=>Zaa rfl ⟨false,Zhy rfl (Zaa rfl (Zhy (decide_eq_false (by show ¬(l:Int) < 0;omega)) (Zaa rfl ⟨rfl,rfl,by show[Value.bool (decide ((l:Int) ≥ (s'.states.length:Nat)))]=_;rw[decide_eq_false (by omega)]⟩))),Zhy rfl ⟨bm,_,_,rfl,hk,ZmJ Tryz.underlying3 _,yC,ij,Zak rfl (Zaa rfl ?_)⟩⟩⟩
  have uH:m3.le (mm.updK bm (Zx9 (λz:Nat=>Value.int .i64 z) (λ_:Unit=>Value.agg (Array.mk [])) (((L.take i).map λz=>(z,()))++[(l,())]))):=Mem.le_updK hM dI _
  obtain⟨b6,o6,iw,dB⟩:=Zaj Sta.len (cM.mono uH).row hx (by omega)
  have fu:L.take (i+1)=L.take i++[l]:=by rw[List.take_add_one,ie];rfl
  obtain⟨x0,jL,j9⟩:=Zwx jl.symm hx
  refine⟨b6,o6,iw,⟨by show(0:Int)<=l;omega,by show(l:Int) < (s'.states.length:Nat);omega⟩,_,_,dB,λb7 kx=>Zaa rfl (Zcc Sta.len Sta.one kx x (show rowRd (mm.updK bm _) ka (K.map Sta.cs).flatten from wl) 40 (by omega) (by omega) (.inl rfl) λa8 c8 m8 fh eQ gT=>Zaa rfl λM fP fD gm=>⟨rfl,L.length - (i+1),by omega,i+1,K++[x],a8,c8,by omega,by simp[yz],by rw[js],by rw[zA1];rfl,by rw[zA1];rfl,mLt uH fP,?_,?_,by rw[zA1];exact gT.1,eQ.mono gm,λy hy=>?_,λb o e=>?_,rfl⟩)⟩
  ·rw[fu,List.map_append]
   exact fP.k _ _ (Mem.updK_same _ _ _)
  ·rw[fu,List.map_append,List.map_append,uG]
   congr 1
   simp only[List.map_cons,List.map_nil,jL,Option.map_some,j9]
  ·rcases List.mem_append.1 hy with hy|hy
   ·exact wm y hy
   ·rw[List.mem_singleton]at hy;subst hy
    exact lf.all _ (zA2 hx)
  ·rcases gT.2 with h|⟨b',o',h1,h2⟩
   ·rw[h]at e;cases e
   ·rw[h1]at e;cases e
    rcases h2 with h2|⟨_,h2,_⟩
    ·exact wo b o (h2.trans h1)
    ·exact Zba (mLt dG (mLt uH (Mem.le_add kx _))) h2
 ·have bJ:¬(i:Int) < (L.length:Nat):=bJ
  have:i=L.length:=by omega
  subst this
  rw[List.take_length]at uG
  refine⟨⟨s'.n,s'.va,s'.vc,s'.vars,ka,kc,K⟩,rfl,tw,lm,uG,?_⟩
  have wp:(nw m2 m3).le (nw m mm):=Zc3 cI hM
  have h:=lf.mono wp
  exact⟨h.n,h.vlen,h.vrow,h.vall,by show K.length<=few;unfold few;omega,Zja wl (.inr wo),λx hx=>(wm x hx).mono wp,h.vcap,yA⟩
end Go.Proofs.YtpjepnkiiojgfaaGreat
namespace Go.Proofs.YtpjepnkiiojgfaaGreat
open Go Go.Eng Go.Proofs Go.RowKit
open Go.Value (int slice agg bool string tuple func)
open Go.IntKind (u8 u64 i64)
set_option maxRecDepth 100000
def ZaQ:Env:={ EB with
 loops:=(λi=>bif Nat.beq i 4 then⟨[(17,.int .i64)],[],[],false⟩ else⟨[],[],[],false⟩) }
theorem ZaO(p0a:Option Addr)(p0n p0c:Nat)(p1a:Option Addr)(p1n p1c p2g:Nat)(p2fi p2ca:List Value)(m:Mem)(R:RT)(h:
 br (!(↑p0n:Int) == (↑p1n:Int)) (rtM m m R (bool false)) (∃(I:IT),inI I [int i64 0] [] [] m/\∀(n:Int)(m':Mem)(n_1:Nat),m.le m'->I [int i64 n] [] [] m' n_1->br (decide (n < (↑p0n:Int))) (atA p0a
 λb o=>Zae n p0n/\∃v v_1 v_2 v_3:Value,m'.reads b (o+Int.toNat n*4) [v,v_1,v_2,v_3]/\∀(b:Nat),chk (v.oneCell'&&(v_1.oneCell' &&
 (v_2.oneCell'&&(v_3.oneCell'&&true)))) (atA p1a λb o=>Zae n p1n/\∃v_4 v_5 v_6 v_7:Value,m'.reads b (o+Int.toNat n*4) [v_4,v_5,v_6,v_7]/\
 ∀(b:Nat),chk (v_4.oneCell'&&(v_5.oneCell'&&(v_6.oneCell'&&(v_7.oneCell'&&true)))) (kB Tryz.prog p2g (List.append (List.append p2fi [agg (Array.mk [v,v_1,v_2,v_3]),agg (Array.mk
 [v_4,v_5,v_6,v_7])]) p2ca) m' λb m'=>br (!b) (rtM m m' R (bool false)) (nxI n_1 I [int i64 (i64.wrap (n+(1:Int)))] [] [] m')))) (rtM m m' R (bool true)))):CX Tryz.prog 96 #[.slice p0a p0n p0c,.slice p1a p1n p1c,.func (.func p2g) p2fi.toArray p2ca.toArray] m [] R:=
 Zad (E:=ZaQ) Zao mix Tryz.func96 (by kernel_rfl) (Eq.mp (by kernel_rfl) h)
def ZaE:Env:={ EB with
 loops:=(λi=>bif Nat.beq i 4 then⟨[(17,.int .i64)],[],[],false⟩ else⟨[],[],[],false⟩) }
theorem ZaC(p0a:Option Addr)(p0n p0c:Nat)(p1a:Option Addr)(p1n p1c p2g:Nat)(p2fi p2ca:List Value)(m:Mem)(R:RT)(h:
 br (!(↑p0n:Int) == (↑p1n:Int)) (rtM m m R (bool false)) (∃(I:IT),inI I [int i64 0] [] [] m/\∀(n:Int)(m':Mem)(n_1:Nat),m.le m'->I [int i64 n] [] [] m' n_1->br (decide (n < (↑p0n:Int))) (atA p0a
 λb o=>Zae n p0n/\∃v v_1:Value,m'.reads b (o+Int.toNat n*2) [v,v_1]/\∀(b:Nat),chk (v.oneCell'&&(v_1.oneCell'&&true)) (atA p1a λb o=>Zae n p1n/\∃v_2 v_3:Value,m'.reads b (o+Int.toNat n*2) [v_2,v_3]/\∀(b:Nat),chk (v_2.oneCell'&&(v_3.oneCell'&&true)) (kB Tryz.prog p2g (List.append (List.append p2fi [agg (Array.mk [v,v_1]),
 agg (Array.mk [v_2,v_3])]) p2ca) m' λb m'=>br (!b) (rtM m m' R (bool false)) (nxI n_1 I [int i64 (i64.wrap (n+(1:Int)))] [] [] m')))) (rtM m m' R (bool true)))):CX Tryz.prog 98 #[.slice p0a p0n p0c,.slice p1a p1n p1c,.func (.func p2g) p2fi.toArray p2ca.toArray] m [] R:=
 Zad (E:=ZaE) Zao mix Tryz.func98 (by kernel_rfl) (Eq.mp (by kernel_rfl) h)
def ZaL:Env:={ EB with
 loops:=(λi=>bif Nat.beq i 4 then⟨[(17,.int .i64)],[],[],false⟩ else⟨[],[],[],false⟩) }
theorem ZaJ(p0a:Option Addr)(p0n p0c:Nat)(p1a:Option Addr)(p1n p1c p2g:Nat)(p2fi p2ca:List Value)(m:Mem)(R:RT)(h:
 br (!(↑p0n:Int) == (↑p1n:Int)) (rtM m m R (bool false)) (∃(I:IT),inI I [int i64 0] [] [] m/\∀(n:Int)(m':Mem)(n_1:Nat),m.le m'->I [int i64 n] [] [] m' n_1->br (decide (n < (↑p0n:Int))) (atA p0a
 λb o=>Zae n p0n/\∃v v_1 v_2 v_3 v_4 v_5 v_6 v_7 v_8 v_9 v_10 v_11 v_12 v_13 v_14 v_15:Value,lV [v,v_1,v_2,v_3,v_4,v_5,v_6,v_7,v_8,v_9,v_10,v_11,v_12,v_13,v_14,v_15] λxL=>m'.reads b (o+Int.toNat n *
 16) xL/\∀(b:Nat),chk (v.oneCell'&&(v_1.oneCell'&&(v_2.oneCell'&&(v_3.oneCell'&&(v_4.oneCell'&&(v_5.oneCell'&&(v_6.oneCell'&&(v_7.oneCell' &&
 (v_8.oneCell'&&(v_9.oneCell'&&(v_10.oneCell'&&(v_11.oneCell'&&(v_12.oneCell'&&(v_13.oneCell'&&(v_14.oneCell'&&(v_15.oneCell'&&true)))))))))))))))) (atA p1a
 λb o=>Zae n p1n/\∃v v_16 v_17 v_18 v_19 v_20 v_21 v_22 v_23 v_24 v_25 v_26 v_27 v_28 v_29 v_30:Value,lV [v,v_16,v_17,v_18,v_19,v_20,v_21,v_22,v_23,v_24,v_25,v_26,v_27,v_28,v_29,v_30] λxL_1=>m'.reads  b (o+Int.toNat n*16) xL_1/\∀(b:Nat),chk (v.oneCell'&&(v_16.oneCell'&&(v_17.oneCell'&&(v_18.oneCell'&&(v_19.oneCell'&&(v_20.oneCell'&&(v_21.oneCell' &&
 (v_22.oneCell'&&(v_23.oneCell'&&(v_24.oneCell'&&(v_25.oneCell'&&(v_26.oneCell'&&(v_27.oneCell'&&(v_28.oneCell'&&(v_29.oneCell'&&(v_30.oneCell' &&
 true)))))))))))))))) (kB Tryz.prog p2g (List.append (List.append p2fi [agg (Array.mk xL),agg (Array.mk xL_1)]) p2ca) m' λb m'=>br (!b) (rtM m m' R (bool false)) (nxI n_1 I [int i64 (i64.wrap (n+(1:
 Int)))] [] [] m')))) (rtM m m' R (bool true)))):CX Tryz.prog 99 #[.slice p0a p0n p0c,.slice p1a p1n p1c,.func (.func p2g) p2fi.toArray p2ca.toArray] m [] R:=
 Zad (E:=ZaL) Zao mix Tryz.func99 (by kernel_rfl) (Eq.mp (by kernel_rfl) h)
def Zea:Env:=EB
theorem Zds(p0a:Option Addr)(p0n p0c:Nat)(p1a:Option Addr)(p1n p1c p2g:Nat)(p2fi p2ca:List Value)(m:Mem)(R:RT)(h:
 kB Tryz.prog 96 [slice p0a p0n p0c,slice p1a p1n p1c,func (Fn.func p2g) (Array.mk p2fi) (Array.mk p2ca)] m λb m'=>rtM m m' R (bool b)):CX Tryz.prog 61 #[.slice p0a p0n p0c,.slice p1a p1n p1c,.func (.func p2g) p2fi.toArray p2ca.toArray] m [] R:=
 Zad (E:=Zea) Zao mix Tryz.func61 (by kernel_rfl) (Eq.mp (by kernel_rfl) h)
def Zdf:Env:=EB
theorem ZcW(p0a:Option Addr)(p0n p0c:Nat)(p1a:Option Addr)(p1n p1c p2g:Nat)(p2fi p2ca:List Value)(m:Mem)(R:RT)(h:
 kB Tryz.prog 98 [slice p0a p0n p0c,slice p1a p1n p1c,func (Fn.func p2g) (Array.mk p2fi) (Array.mk p2ca)] m λb m'=>rtM m m' R (bool b)):CX Tryz.prog 64 #[.slice p0a p0n p0c,.slice p1a p1n p1c,.func (.func p2g) p2fi.toArray p2ca.toArray] m [] R:=
 Zad (E:=Zdf) Zao mix Tryz.func64 (by kernel_rfl) (Eq.mp (by kernel_rfl) h)
def Zdt:Env:=EB
theorem Zdg(p0a:Option Addr)(p0n p0c:Nat)(p1a:Option Addr)(p1n p1c p2g:Nat)(p2fi p2ca:List Value)(m:Mem)(R:RT)(h:
 kB Tryz.prog 99 [slice p0a p0n p0c,slice p1a p1n p1c,func (Fn.func p2g) (Array.mk p2fi) (Array.mk p2ca)] m λb m'=>rtM m m' R (bool b)):CX Tryz.prog 66 #[.slice p0a p0n p0c,.slice p1a p1n p1c,.func (.func p2g) p2fi.toArray p2ca.toArray] m [] R:=
 Zad (E:=Zdt) Zao mix Tryz.func66 (by kernel_rfl) (Eq.mp (by kernel_rfl) h)
def Zg2:Env:={ EB with
 joins:=(λi=>bif Nat.beq i 1 then some [(4,.bool)]else none)
 frzNew:=[2,3] }
theorem Zf8(aA:Bool)(aD:ByteArray)(aG:Value)(bF:Bool)(bN:ByteArray)(bP:Value)(m:Mem)(R:RT)(h:
 lV [bool bF,string bN,bP] λxL=>lV [bool aA,string aD,aG] λxL_1=>fzM m xL_1 λb m'=>lE [some (Box.mk b xL_1 101 3 true true)] λxL_2=>fzM m' xL λb m'=>∃(b_1:Bool),lE (some
 (Box.mk b xL 101 3 true true)::xL_2) λxL=>br (aA == bF) (br (ByteArray.toList aD == ByteArray.toList bN) (kB Tryz.prog 97 [aG,bP] m' λb m'=>Zac xL/\[bool b]=[bool b_1]) (Zac xL/\[bool
 false]=[bool b_1])) (Zac xL/\[bool false]=[bool b_1])/\rtM m m' R (bool b_1)):CX Tryz.prog 63 #[.agg #[.bool aA,.string aD,aG],.agg #[.bool bF,.string bN,bP]] m [] R:=
 Zad (E:=Zg2) Zao mix Tryz.func63 (by kernel_rfl) (Eq.mp (by kernel_rfl) h)
def ZlN:Env:={ EB with
 joins:=(λi=>bif Nat.beq i 1 then some [(4,.bool)]else none)
 frzNew:=[2,3] }
theorem ZjQ(aA:ByteArray)(aD:Bool)(aG:ByteArray)(aF:Value)(bF:ByteArray)(bN:Bool)(bP:ByteArray)(bT:Value)(m:Mem)(R:RT)(h:
 lV [bool aD,string aG,aF] λxL=>lV [bool bN,string bP,bT] λxL_1=>fzM m (string aA::xL) λb m'=>lE [some (Box.mk b (string aA::xL) 103 4 true true)] λxL_2=>fzM m' (string bF ::
 xL_1) λb m'=>∃(b_1:Bool),lE (some (Box.mk b (string bF::xL_1) 103 4 true true)::xL_2) λxL_3=>br (ByteArray.toList aA == ByteArray.toList bF) (kB Tryz.prog 63 [agg (Array.mk xL),agg (Array.mk
 xL_1)] m' λb m'=>Zac xL_3/\[bool b]=[bool b_1]) (Zac xL_3/\[bool false]=[bool b_1])/\rtM m m' R (bool b_1)):CX Tryz.prog 62 #[.agg #[.string aA,.bool aD,.string aG,aF],.agg #[.string bF,.bool bN,.string bP,bT]] m [] R:=
 Zad (E:=ZlN) Zao mix Tryz.func62 (by kernel_rfl) (Eq.mp (by kernel_rfl) h)
def ZlO:Env:={ EB with
 joins:=(λi=>bif Nat.beq i 1 then some [(4,.bool)]else none)
 frzNew:=[2,3] }
theorem ZjR(aA:ByteArray)(aW:Option Addr)(aS aX:Nat)(bF:ByteArray)(fc:Option Addr)(fe ff:Nat)(m:Mem)(R:RT)(h:
 lV [string aA,slice aW aS aX] λxL=>lV [string bF,slice fc fe ff] λxL_1=>fzM m xL λb m'=>lE [some (Box.mk b xL 36 2 true true)] λxL=>fzM m' xL_1 λb m'=>∃(b_1:Bool),lE
 (some (Box.mk b xL_1 36 2 true true)::xL) λxL=>br (ByteArray.toList aA == ByteArray.toList bF) (kB Tryz.prog 66 [slice aW aS aX,slice fc fe ff,func (Fn.func 67) (Array.mk []) (Array.mk
 [])] m' λb m'=>Zac xL/\[bool b]=[bool b_1]) (Zac xL/\[bool false]=[bool b_1])/\rtM m m' R (bool b_1)):CX Tryz.prog 65 #[.agg #[.string aA,.slice aW aS aX],.agg #[.string bF,.slice fc fe ff]] m [] R:=
 Zad (E:=ZlO) Zao mix Tryz.func65 (by kernel_rfl) (Eq.mp (by kernel_rfl) h)
def ZpS:Env:={ EB with
 joins:=(λi=>bif Nat.beq i 1 then some [(4,.bool)]else none)
 frzNew:=[2,3] }
theorem Zoz(aA:Int)(aW:Option Addr)(aS aX:Nat)(aO:Option Addr)(aJ aT:Nat)(bF:Int)(fc:Option Addr)(fe ff:Nat)(e9:Option Addr)(fa fb:Nat)(m:Mem)(R:RT)(h:
 lV [int i64 bF,slice fc fe ff,slice e9 fa fb] λxL=>lV [int i64 aA,slice aW aS aX,slice aO aJ aT] λxL_1=>fzM m xL_1 λb m'=>lE [some (Box.mk b xL_1 32 3 true
 true)] λxL_2=>fzM m' xL λb m'=>∃(b_1:Bool),lV [bool b_1] λxL_3=>lE (some (Box.mk b xL 32 3 true true)::xL_2) λxL_4=>(kB Tryz.prog 19 [agg (Array.mk xL_1)] m' λb m'=>br b (kB Tryz.prog 19
 [agg (Array.mk xL)] m' λb m'=>br b (br (aA == bF) (kB Tryz.prog 61 [slice aW aS aX,slice fc fe ff,func (Fn.func 62) (Array.mk []) (Array.mk [])] m' λb m'=>br b (kB Tryz.prog 64 [slice
 aO aJ aT,slice e9 fa fb,func (Fn.func 65) (Array.mk []) (Array.mk [])] m' λb m'=>Zac xL_4/\[bool b]=xL_3) (Zac xL_4/\[bool false]=xL_3)) (Zac xL_4/\[bool false]=xL_3)) (Zac
 xL_4/\[bool false]=xL_3)) (Zac xL_4/\[bool false]=xL_3))/\rtM m m' R (bool b_1)):CX Tryz.prog 20 #[.agg #[.int .i64 aA,.slice aW aS aX,.slice aO aJ aT],.agg #[.int .i64 bF,.slice fc fe ff,.slice e9 fa fb]] m [] R:=
 Zad (E:=ZpS) Zao mix Tryz.func20 (by kernel_rfl) (Eq.mp (by kernel_rfl) h)
end Go.Proofs.YtpjepnkiiojgfaaGreat
namespace Go.Proofs.YtpjepnkiiojgfaaGreat
open Go Go.Eng Go.Rx Go.Proofs Go.RowKit
set_option maxRecDepth 100000
theorem Zxq(cb:Nat)(f:Pt->Pt->Bool)(L R:List Pt)(a b:Option Addr)(c d:Nat)(m:Mem)(h1:rowRd m a (L.map Pt.cs).flatten)(h2:rowRd m b (R.map Pt.cs).flatten)(hl:L.length<=few)(gX:∀x∈L,∀y∈R,∀m2,m.le m2->CX Tryz.prog cb #[.agg x.cs.toArray,.agg y.cs.toArray] m2 [] (Ret (.bool (f x y)))):
  CX Tryz.prog 138 #[.slice a L.length c,.slice b R.length d,.func (.func cb) #[] #[]] m [] (Ret (.bool (eqL f L R))):=by
 have hl:L.length<=100000:=hl
 apply Zde (p2fi:=[]) (p2ca:=[])
 refine Zag (x:=eqL f L R) ?_ λm1 aE=>Zaf aE rfl
 apply ZaI (p2fi:=[]) (p2ca:=[])
 refine Zab (λcN=>Zaf (Mem.le_refl m) ?_) (λheq=>?_)
 ·have:¬L.length=R.length:=λe=>by simp[e]at cN
  show Value.bool _=Value.bool _
  rw[Zio this]
 have heq:L.length=R.length:=by
  have:(L.length:Int)=R.length:=by simpa using heq
  omega
 refine⟨λxs css tvs m' q=>∃k:Nat,k<=L.length/\xs=[.int .i64 k]/\q=L.length - k/\m.le m'/\eqL f (L.take k) (R.take k)=true,⟨_,0,by omega,rfl,rfl,Mem.le_refl m,by simp[eqL]⟩,?_⟩
 rintro z m1 q _ ⟨k,hk,cE,hq,aE,ht⟩
 obtain rfl:z=k:=by simpa using cE
 refine Zab (λaC=>?_) (λbJ=>?_)
 ·have aK:k < L.length:=by have:=zA6 aC;omega
  obtain⟨x,hx⟩:=Zaq aK
  obtain⟨y,hy⟩:=Zaq (l:=R) (k:=k) (by omega)
  obtain⟨b1,o1,fE,eJ⟩:=Zaj Pt.len h1 hx (by omega)
  obtain⟨b2,o2,fy,eH⟩:=Zaj Pt.len h2 hy (by omega)
  have hw:IntKind.i64.wrap ((k:Int)+1)=((k+1:Nat):Int):=by rw[Zal (by omega) (by omega)];rfl
  refine⟨b1,o1,fE,⟨by omega,by omega⟩,_,_,_,_,_,_,_,_,eJ.mono aE,λb3=>Zaa rfl ⟨b2,o2,fy,⟨by omega,by omega⟩,_,_,_,_,_,_,_,_,eH.mono aE,λb4=>Zaa rfl (Zag (gX x (zA2 hx) y (zA2 hy) m1 aE) λm2 aI=>Zab (λhf=>Zaf (mLt aE aI) ?_) (λhf=>?_))⟩⟩
  ·have:f x y=false:=by simpa using hf
   show Value.bool _=Value.bool _
   rw[ZnD hx hy this]
  ·exact⟨L.length - (k+1),by omega,k+1,by omega,by rw[hw],rfl,mLt aE aI,ZfH hx hy ht (by simpa using hf)⟩
 ·have dA:k=L.length:=by have:=of_decide_eq_false bJ;omega
  refine Zaf aE ?_
  rw[dA,List.take_length,heq,List.take_length]at ht
  show Value.bool _=Value.bool _
  rw[ht]
theorem Zxr(cb:Nat)(f:Ac->Ac->Bool)(L R:List Ac)(a b:Option Addr)(c d:Nat)(m:Mem)(h1:rowRd m a (L.map Ac.cs).flatten)(h2:rowRd m b (R.map Ac.cs).flatten)(hl:L.length<=few)(gX:∀x∈L,∀y∈R,∀m2,m.le m2->CX Tryz.prog cb #[.agg x.cs.toArray,.agg y.cs.toArray] m2 [] (Ret (.bool (f x y)))):
  CX Tryz.prog 101 #[.slice a L.length c,.slice b R.length d,.func (.func cb) #[] #[]] m [] (Ret (.bool (eqL f L R))):=by
 have hl:L.length<=100000:=hl
 apply ZcR (p2fi:=[]) (p2ca:=[])
 refine Zag (x:=eqL f L R) ?_ λm1 aE=>Zaf aE rfl
 apply Zay (p2fi:=[]) (p2ca:=[])
 refine Zab (λcN=>Zaf (Mem.le_refl m) ?_) (λheq=>?_)
 ·have:¬L.length=R.length:=λe=>by simp[e]at cN
  show Value.bool _=Value.bool _
  rw[Zio this]
 have heq:L.length=R.length:=by
  have:(L.length:Int)=R.length:=by simpa using heq
  omega
 refine⟨λxs css tvs m' q=>∃k:Nat,k<=L.length/\xs=[.int .i64 k]/\q=L.length - k/\m.le m'/\eqL f (L.take k) (R.take k)=true,⟨_,0,by omega,rfl,rfl,Mem.le_refl m,by simp[eqL]⟩,?_⟩
 rintro z m1 q _ ⟨k,hk,cE,hq,aE,ht⟩
 obtain rfl:z=k:=by simpa using cE
 refine Zab (λaC=>?_) (λbJ=>?_)
 ·have aK:k < L.length:=by have:=zA6 aC;omega
  obtain⟨x,hx⟩:=Zaq aK
  obtain⟨y,hy⟩:=Zaq (l:=R) (k:=k) (by omega)
  obtain⟨b1,o1,fE,eJ⟩:=Zaj Ac.len h1 hx (by omega)
  obtain⟨b2,o2,fy,eH⟩:=Zaj Ac.len h2 hy (by omega)
  have hw:IntKind.i64.wrap ((k:Int)+1)=((k+1:Nat):Int):=by rw[Zal (by omega) (by omega)];rfl
  refine⟨b1,o1,fE,⟨by omega,by omega⟩,_,_,_,_,_,_,_,_,eJ.mono aE,λb3=>Zaa rfl ⟨b2,o2,fy,⟨by omega,by omega⟩,_,_,_,_,_,_,_,_,eH.mono aE,λb4=>Zaa rfl (Zag (gX x (zA2 hx) y (zA2 hy) m1 aE) λm2 aI=>Zab (λhf=>Zaf (mLt aE aI) ?_) (λhf=>?_))⟩⟩
  ·have:f x y=false:=by simpa using hf
   show Value.bool _=Value.bool _
   rw[ZnD hx hy this]
  ·exact⟨L.length - (k+1),by omega,k+1,by omega,by rw[hw],rfl,mLt aE aI,ZfH hx hy ht (by simpa using hf)⟩
 ·have dA:k=L.length:=by have:=of_decide_eq_false bJ;omega
  refine Zaf aE ?_
  rw[dA,List.take_length,heq,List.take_length]at ht
  show Value.bool _=Value.bool _
  rw[ht]
theorem Zvk(p q:Pt)(m:Mem)(hp:RepP m p)(hq:RepP m q):CX Tryz.prog 139 #[.agg p.cs.toArray,.agg q.cs.toArray] m [] (Ret (.bool (ZnE p q))):=by
 apply ZgY
 intro b m1 aE _ b1 m2 aI _
 have cI:=mLt aE aI
 refine⟨ZnE p q,Zab (λh1=>Zab (λh2=>Zab (λh3=>?_) (λh3=>⟨rfl,?_⟩)) (λh2=>⟨rfl,?_⟩)) (λh1=>⟨rfl,?_⟩),Zaf cI rfl⟩
 ·refine Zag (Zrc p.e q.e m2 (hp.e.mono' cI) (hq.e.mono' cI)) λm3 aP=>⟨rfl,?_⟩
  simp only[ZnE,eqS,h1,h2,h3,Bool.true_and]
 ·simp only[ZnE,eqS,h1,h2,h3,Bool.true_and,Bool.false_and]
 ·simp only[ZnE,eqS,h1,h2,Bool.true_and,Bool.false_and]
 ·simp only[ZnE,eqS,h1,Bool.false_and]
theorem Zvl(p q:Ac)(m:Mem)(hp:RepA m p)(hq:RepA m q):CX Tryz.prog 102 #[.agg p.cs.toArray,.agg q.cs.toArray] m [] (Ret (.bool (ZnF p q))):=by
 apply Ze9
 intro b m1 aE _ b1 m2 aI _
 have cI:=mLt aE aI
 refine⟨ZnF p q,Zab (λh1=>Zab (λh2=>?_) (λh2=>⟨rfl,?_⟩)) (λh1=>⟨rfl,?_⟩),Zaf cI rfl⟩
 ·refine Zag (Zxq 139 ZnE p.parts q.parts p.pa q.pa p.pc q.pc m2 (hp.row.mono cI) (hq.row.mono cI) hp.n λx hx y hy m' hm'=>Zvk x y m' ((hp.all x hx).mono (mLt cI hm')) ((hq.all y hy).mono (mLt cI hm'))) λm3 aP=>Zab (λh3=>?_) (λh3=>⟨rfl,?_⟩)
  ·refine Zag (Zrc p.e q.e m3 (hp.e.mono' (mLt cI aP)) (hq.e.mono' (mLt cI aP))) λm4 bU=>⟨rfl,?_⟩
   simp only[ZnF,eqS,h1,h2,h3,Bool.true_and]
  ·simp only[ZnF,eqS,h1,h2,h3,Bool.true_and,Bool.false_and]
 ·simp only[ZnF,eqS,h1,h2,Bool.true_and,Bool.false_and]
 ·simp only[ZnF,eqS,h1,Bool.false_and]
theorem Zvm(p q:Ru)(m:Mem)(hp:RepR m p)(hq:RepR m q):CX Tryz.prog 67 #[.agg p.cs.toArray,.agg q.cs.toArray] m [] (Ret (.bool (Zhx p q))):=by
 apply ZgZ
 intro b m1 aE _ b1 m2 aI _
 have cI:=mLt aE aI
 refine⟨Zhx p q,Zab (λh1=>Zab (λh2=>Zab (λh3=>?_) (λh3=>⟨rfl,?_⟩)) (λh2=>⟨rfl,?_⟩)) (λh1=>⟨rfl,?_⟩),Zaf cI rfl⟩
 ·refine Zag (ZwW p.t q.t m2 (hp.t.mono cI) (hq.t.mono cI)) λm3 aP=>Zab (λh4=>Zab (λh5=>Zab (λh6=>?_) (λh6=>⟨rfl,?_⟩)) (λh5=>⟨rfl,?_⟩)) (λh4=>⟨rfl,?_⟩)
  ·have dG:=mLt cI aP
   refine Zag (Zxr 102 ZnF p.acts q.acts p.aa q.aa p.ac q.ac m3 (hp.row.mono dG) (hq.row.mono dG) hp.len λx hx y hy m' hm'=>Zvl x y m' ((hp.all x hx).mono (mLt dG hm')) ((hq.all y hy).mono (mLt dG hm'))) λm4 bU=>Zab (λh7=>Zab (λh8=>⟨rfl,?_⟩) (λh8=>⟨rfl,?_⟩)) (λh7=>⟨rfl,?_⟩)
   ·simp only[Zhx,eqS,h1,h2,h3,h4,h5,h6,h7,h8,Bool.true_and]
   ·simp only[Zhx,eqS,h1,h2,h3,h4,h5,h6,h7,h8,Bool.true_and,Bool.false_and]
   ·simp only[Zhx,eqS,h1,h2,h3,h4,h5,h6,h7,Bool.true_and,Bool.false_and]
  ·simp only[Zhx,eqS,h1,h2,h3,h4,h5,h6,Bool.true_and,Bool.false_and]
  ·simp only[Zhx,eqS,h1,h2,h3,h4,h5,Bool.true_and,Bool.false_and]
  ·simp only[Zhx,eqS,h1,h2,h3,h4,Bool.true_and,Bool.false_and]
 ·simp only[Zhx,eqS,h1,h2,h3,Bool.true_and,Bool.false_and]
 ·simp only[Zhx,eqS,h1,h2,Bool.true_and,Bool.false_and]
 ·simp only[Zhx,eqS,h1,Bool.false_and]
theorem Zxs(cb:Nat)(f:Va->Va->Bool)(L R:List Va)(a b:Option Addr)(c d:Nat)(m:Mem)(h1:rowRd m a (L.map Va.cs).flatten)(h2:rowRd m b (R.map Va.cs).flatten)(hl:L.length<=few)(gX:∀x∈L,∀y∈R,∀m2,m.le m2->CX Tryz.prog cb #[.agg x.cs.toArray,.agg y.cs.toArray] m2 [] (Ret (.bool (f x y)))):
  CX Tryz.prog 61 #[.slice a L.length c,.slice b R.length d,.func (.func cb) #[] #[]] m [] (Ret (.bool (eqL f L R))):=by
 have hl:L.length<=100000:=hl
 apply Zds (p2fi:=[]) (p2ca:=[])
 refine Zag (x:=eqL f L R) ?_ λm1 aE=>Zaf aE rfl
 apply ZaO (p2fi:=[]) (p2ca:=[])
 refine Zab (λcN=>Zaf (Mem.le_refl m) ?_) (λheq=>?_)
 ·have:¬L.length=R.length:=λe=>by simp[e]at cN
  show Value.bool _=Value.bool _
  rw[Zio this]
 have heq:L.length=R.length:=by
  have:(L.length:Int)=R.length:=by simpa using heq
  omega
 refine⟨λxs css tvs m' q=>∃k:Nat,k<=L.length/\xs=[.int .i64 k]/\q=L.length - k/\m.le m'/\eqL f (L.take k) (R.take k)=true,⟨_,0,by omega,rfl,rfl,Mem.le_refl m,by simp[eqL]⟩,?_⟩
 rintro z m1 q _ ⟨k,hk,cE,hq,aE,ht⟩
 obtain rfl:z=k:=by simpa using cE
 refine Zab (λaC=>?_) (λbJ=>?_)
 ·have aK:k < L.length:=by have:=zA6 aC;omega
  obtain⟨x,hx⟩:=Zaq aK
  obtain⟨y,hy⟩:=Zaq (l:=R) (k:=k) (by omega)
  obtain⟨b1,o1,fE,eJ⟩:=Zaj Va.len h1 hx (by omega)
  obtain⟨b2,o2,fy,eH⟩:=Zaj Va.len h2 hy (by omega)
  have hw:IntKind.i64.wrap ((k:Int)+1)=((k+1:Nat):Int):=by rw[Zal (by omega) (by omega)];rfl
  refine⟨b1,o1,fE,⟨by omega,by omega⟩,_,_,_,_,eJ.mono aE,λb3=>Zaa rfl ⟨b2,o2,fy,⟨by omega,by omega⟩,_,_,_,_,eH.mono aE,λb4=>Zaa rfl (Zag (gX x (zA2 hx) y (zA2 hy) m1 aE) λm2 aI=>Zab (λhf=>Zaf (mLt aE aI) ?_) (λhf=>?_))⟩⟩
  ·have:f x y=false:=by simpa using hf
   show Value.bool _=Value.bool _
   rw[ZnD hx hy this]
  ·exact⟨L.length - (k+1),by omega,k+1,by omega,by rw[hw],rfl,mLt aE aI,ZfH hx hy ht (by simpa using hf)⟩
 ·have dA:k=L.length:=by have:=of_decide_eq_false bJ;omega
  refine Zaf aE ?_
  rw[dA,List.take_length,heq,List.take_length]at ht
  show Value.bool _=Value.bool _
  rw[ht]
theorem Zxt(cb:Nat)(f:Ru->Ru->Bool)(L R:List Ru)(a b:Option Addr)(c d:Nat)(m:Mem)(h1:rowRd m a (L.map Ru.cs).flatten)(h2:rowRd m b (R.map Ru.cs).flatten)(hl:L.length<=few)(gX:∀x∈L,∀y∈R,∀m2,m.le m2->CX Tryz.prog cb #[.agg x.cs.toArray,.agg y.cs.toArray] m2 [] (Ret (.bool (f x y)))):
  CX Tryz.prog 66 #[.slice a L.length c,.slice b R.length d,.func (.func cb) #[] #[]] m [] (Ret (.bool (eqL f L R))):=by
 have hl:L.length<=100000:=hl
 apply Zdg (p2fi:=[]) (p2ca:=[])
 refine Zag (x:=eqL f L R) ?_ λm1 aE=>Zaf aE rfl
 apply ZaJ (p2fi:=[]) (p2ca:=[])
 refine Zab (λcN=>Zaf (Mem.le_refl m) ?_) (λheq=>?_)
 ·have:¬L.length=R.length:=λe=>by simp[e]at cN
  show Value.bool _=Value.bool _
  rw[Zio this]
 have heq:L.length=R.length:=by
  have:(L.length:Int)=R.length:=by simpa using heq
  omega
 refine⟨λxs css tvs m' q=>∃k:Nat,k<=L.length/\xs=[.int .i64 k]/\q=L.length - k/\m.le m'/\eqL f (L.take k) (R.take k)=true,⟨_,0,by omega,rfl,rfl,Mem.le_refl m,by simp[eqL]⟩,?_⟩
 rintro z m1 q _ ⟨k,hk,cE,hq,aE,ht⟩
 obtain rfl:z=k:=by simpa using cE
 refine Zab (λaC=>?_) (λbJ=>?_)
 ·have aK:k < L.length:=by have:=zA6 aC;omega
  obtain⟨x,hx⟩:=Zaq aK
  obtain⟨y,hy⟩:=Zaq (l:=R) (k:=k) (by omega)
  obtain⟨b1,o1,fE,eJ⟩:=Zaj Ru.len h1 hx (by omega)
  obtain⟨b2,o2,fy,eH⟩:=Zaj Ru.len h2 hy (by omega)
  have hw:IntKind.i64.wrap ((k:Int)+1)=((k+1:Nat):Int):=by rw[Zal (by omega) (by omega)];rfl
  refine⟨b1,o1,fE,⟨by omega,by omega⟩,_,_,_,_,_,_,_,_,_,_,_,_,_,_,_,_,eJ.mono aE,λb3=>Zaa rfl ⟨b2,o2,fy,⟨by omega,by omega⟩,_,_,_,_,_,_,_,_,_,_,_,_,_,_,_,_,eH.mono aE,λb4=>Zaa rfl (Zag (gX x (zA2 hx) y (zA2 hy) m1 aE) λm2 aI=>Zab (λhf=>Zaf (mLt aE aI) ?_) (λhf=>?_))⟩⟩
  ·have:f x y=false:=by simpa using hf
   show Value.bool _=Value.bool _
   rw[ZnD hx hy this]
  ·exact⟨L.length - (k+1),by omega,k+1,by omega,by rw[hw],rfl,mLt aE aI,ZfH hx hy ht (by simpa using hf)⟩
 ·have dA:k=L.length:=by have:=of_decide_eq_false bJ;omega
  refine Zaf aE ?_
  rw[dA,List.take_length,heq,List.take_length]at ht
  show Value.bool _=Value.bool _
  rw[ht]
theorem Zxu(cb:Nat)(f:Sta->Sta->Bool)(L R:List Sta)(a b:Option Addr)(c d:Nat)(m:Mem)(h1:rowRd m a (L.map Sta.cs).flatten)(h2:rowRd m b (R.map Sta.cs).flatten)(hl:L.length<=few)(gX:∀x∈L,∀y∈R,∀m2,m.le m2->CX Tryz.prog cb #[.agg x.cs.toArray,.agg y.cs.toArray] m2 [] (Ret (.bool (f x y)))):
  CX Tryz.prog 64 #[.slice a L.length c,.slice b R.length d,.func (.func cb) #[] #[]] m [] (Ret (.bool (eqL f L R))):=by
 have hl:L.length<=100000:=hl
 apply ZcW (p2fi:=[]) (p2ca:=[])
 refine Zag (x:=eqL f L R) ?_ λm1 aE=>Zaf aE rfl
 apply ZaC (p2fi:=[]) (p2ca:=[])
 refine Zab (λcN=>Zaf (Mem.le_refl m) ?_) (λheq=>?_)
 ·have:¬L.length=R.length:=λe=>by simp[e]at cN
  show Value.bool _=Value.bool _
  rw[Zio this]
 have heq:L.length=R.length:=by
  have:(L.length:Int)=R.length:=by simpa using heq
  omega
 refine⟨λxs css tvs m' q=>∃k:Nat,k<=L.length/\xs=[.int .i64 k]/\q=L.length - k/\m.le m'/\eqL f (L.take k) (R.take k)=true,⟨_,0,by omega,rfl,rfl,Mem.le_refl m,by simp[eqL]⟩,?_⟩
 rintro z m1 q _ ⟨k,hk,cE,hq,aE,ht⟩
 obtain rfl:z=k:=by simpa using cE
 refine Zab (λaC=>?_) (λbJ=>?_)
 ·have aK:k < L.length:=by have:=zA6 aC;omega
  obtain⟨x,hx⟩:=Zaq aK
  obtain⟨y,hy⟩:=Zaq (l:=R) (k:=k) (by omega)
  obtain⟨b1,o1,fE,eJ⟩:=Zaj Sta.len h1 hx (by omega)
  obtain⟨b2,o2,fy,eH⟩:=Zaj Sta.len h2 hy (by omega)
  have hw:IntKind.i64.wrap ((k:Int)+1)=((k+1:Nat):Int):=by rw[Zal (by omega) (by omega)];rfl
  refine⟨b1,o1,fE,⟨by omega,by omega⟩,_,_,eJ.mono aE,λb3=>Zaa rfl ⟨b2,o2,fy,⟨by omega,by omega⟩,_,_,eH.mono aE,λb4=>Zaa rfl (Zag (gX x (zA2 hx) y (zA2 hy) m1 aE) λm2 aI=>Zab (λhf=>Zaf (mLt aE aI) ?_) (λhf=>?_))⟩⟩
  ·have:f x y=false:=by simpa using hf
   show Value.bool _=Value.bool _
   rw[ZnD hx hy this]
  ·exact⟨L.length - (k+1),by omega,k+1,by omega,by rw[hw],rfl,mLt aE aI,ZfH hx hy ht (by simpa using hf)⟩
 ·have dA:k=L.length:=by have:=of_decide_eq_false bJ;omega
  refine Zaf aE ?_
  rw[dA,List.take_length,heq,List.take_length]at ht
  show Value.bool _=Value.bool _
  rw[ht]
theorem Zvn(p q:Va)(m:Mem):CX Tryz.prog 62 #[.agg p.cs.toArray,.agg q.cs.toArray] m [] (Ret (.bool (Zjg p q))):=by
 have hV:∀m,CX Tryz.prog 63 #[.agg #[.bool p.b,.string p.t,.float .f64 p.x],.agg #[.bool q.b,.string q.t,.float .f64 q.x]] m [] (Ret (.bool (p.b == q.b&&(eqS p.t q.t&&Znl p.x q.x)))):=by
  intro m
  apply Zf8
  intro b m1 aE _ b1 m2 aI _
  have cI:=mLt aE aI
  refine⟨p.b == q.b&&(eqS p.t q.t&&Znl p.x q.x),Zab (λh1=>Zab (λh2=>?_) (λh2=>⟨rfl,?_⟩)) (λh1=>⟨rfl,?_⟩),Zaf cI rfl⟩
  ·refine Zag (Zq3 p.x q.x m2) λm3 aP=>⟨rfl,?_⟩
   simp only[eqS,h1,h2,Bool.true_and]
  ·simp only[eqS,h1,h2,Bool.true_and,Bool.false_and]
  ·simp only[h1,Bool.false_and]
 apply ZjQ
 intro b m1 aE _ b1 m2 aI _
 have cI:=mLt aE aI
 refine⟨Zjg p q,Zab (λh1=>?_) (λh1=>⟨rfl,?_⟩),Zaf cI rfl⟩
 ·refine Zag (hV m2) λm3 aP=>⟨rfl,?_⟩
  simp only[Zjg,eqS,h1,Bool.true_and]
 ·simp only[Zjg,eqS,h1,Bool.false_and]
theorem Zvo(p q:Sta)(m:Mem)(hp:RepS m p)(hq:RepS m q):CX Tryz.prog 65 #[.agg p.cs.toArray,.agg q.cs.toArray] m [] (Ret (.bool (Zjh p q))):=by
 apply ZjR
 intro b m1 aE _ b1 m2 aI _
 have cI:=mLt aE aI
 refine⟨Zjh p q,Zab (λh1=>?_) (λh1=>⟨rfl,?_⟩),Zaf cI rfl⟩
 ·refine Zag (Zxt 67 Zhx p.rules q.rules p.ra q.ra p.rc q.rc m2 (hp.row.mono cI) (hq.row.mono cI) hp.len λx hx y hy m' hm'=>Zvm x y m' ((hp.all x hx).mono (mLt cI hm')) ((hq.all y hy).mono (mLt cI hm'))) λm3 aP=>⟨rfl,?_⟩
  simp only[Zjh,eqS,h1,Bool.true_and]
 ·simp only[Zjh,eqS,h1,Bool.false_and]
theorem ZoA(p q:Sc)(m:Mem)(hp:RepC m p)(hq:RepC m q):CX Tryz.prog 20 #[p.v,q.v] m [] (Ret (.bool (ZhE p q))):=by
 apply Zoz
 intro b m1 aE _ b1 m2 aI _
 have cI:=mLt aE aI
 refine⟨ZhE p q,Zag (ZbW p m2 (hp.mono cI)) λm3 aP=>Zab (λh1=>?_) (λh1=>⟨rfl,by simp only[ZhE,h1,Bool.false_and]⟩),Zaf cI rfl⟩
 refine Zag (ZbW q m3 (hq.mono (mLt cI aP))) λm4 bU=>Zab (λh2=>Zab (λh3=>?_) (λh3=>⟨rfl,by simp only[ZhE,h1,h2,h3,Bool.true_and,Bool.false_and]⟩)) (λh2=>⟨rfl,by simp only[ZhE,h1,h2,Bool.true_and,Bool.false_and]⟩)
 have fO:=mLt cI (mLt aP bU)
 refine Zag (Zxs 62 Zjg p.vars q.vars p.va q.va p.vc q.vc m4 (hp.mono fO).vrow (hq.mono fO).vrow hp.vlen λx _ y _ m' _=>Zvn x y m') λm5 cC=>Zab (λh4=>?_) (λh4=>⟨rfl,by simp only[ZhE,h1,h2,h3,h4,Bool.true_and,Bool.false_and]⟩)
 have gn:=mLt fO cC
 refine Zag (Zxu 65 Zjh p.states q.states p.sa q.sa p.sc q.sc m5 (hp.mono gn).row (hq.mono gn).row hp.len λx hx y hy m' hm'=>Zvo x y m' ((hp.all x hx).mono (mLt gn hm')) ((hq.all y hy).mono (mLt gn hm'))) λm6 eS=>⟨rfl,?_⟩
 simp only[ZhE,h1,h2,h3,h4,Bool.true_and]
end Go.Proofs.YtpjepnkiiojgfaaGreat
namespace Go.Proofs.YtpjepnkiiojgfaaGreat
open Go Go.Eng Go.Proofs Go.RowKit
open Go.Value (int slice agg bool string tuple func)
open Go.IntKind (u8 u64 i64)
set_option maxRecDepth 100000
def ZlP:Env:={ EB with
 loops:=(λi=>bif Nat.beq i 3 then⟨[(8,.int .i64)],[],[],false⟩ else⟨[],[],[],false⟩) }
theorem ZjS(p0a:Option Addr)(p0n p0c:Nat)(m:Mem)(R:RT)(h:
 ∃(I:IT),inI I [int i64 0] [] [] m/\∀(n:Int)(m':Mem)(n_1:Nat),m.le m'->I [int i64 n] [] [] m' n_1->br (decide (n < (↑p0n:Int))) (atA p0a λb o=>Zae n p0n/\∃(v:Value),m' b (o +
 Int.toNat n*1)=some v/\chk (Za6 i64 v&&decide (i64=i64)) (br (!RowKit.intOf v == (0:Int)) (rtM m m' R v) (nxI n_1 I [int i64 (i64.wrap (n+(1:Int)))] [] [] m'))) (rtM m m' R (int i64 0))):CX Tryz.prog 81 #[.slice p0a p0n p0c] m [] R:=
 Zad (E:=ZlP) Zao mix Tryz.func81 (by kernel_rfl) (Eq.mp (by kernel_rfl) h)
def ZjT:Env:={ EB with
 dr:=(λi=>bif Nat.beq i 1 then[⟨0,[2],[],none,[],[]⟩,⟨1,[2],[],none,[0],[]⟩,⟨2,[3],[],none,[],[]⟩,⟨3,[3],[],none,[2],[]⟩,⟨4,[],[],none,[0,1,2,3],[]⟩,⟨5,[2],[],none,[],[]⟩,⟨6,[2],[],none,[5],[]⟩,⟨7,[3],[],none,[],[]⟩,⟨8,[3],[],none,[7],[]⟩,⟨9,[],[],none,[0,1,2,3,4,5,6,7,8],[4]⟩,⟨10,[2],[],none,[],[]⟩,⟨11,[2],[],none,[10],[]⟩,⟨12,[3],[],none,[],[]⟩,⟨13,[3],[],none,[12],[]⟩,⟨14,[],[],none,rg 0 14,[9]⟩,⟨15,[2],[],none,[],[]⟩,⟨16,[2],[],none,[15],[]⟩,⟨17,[3],[],none,[],[]⟩,⟨18,[3],[],none,[17],[]⟩,⟨19,[],[],none,rg 0 19,[14]⟩,⟨20,[2],[],none,[],[]⟩,⟨21,[2],[],none,[20],[]⟩,⟨22,[3],[],none,[],[]⟩,⟨23,[3],[],none,[22],[]⟩,⟨24,[],[],none,rg 0 24,[19]⟩,⟨25,[2],[],none,[],[]⟩,⟨26,[2],[],none,[25],[]⟩,⟨27,[3],[],none,[],[]⟩,⟨28,[3],[],none,[27],[]⟩,⟨29,[],[],none,rg 0 29,[24]⟩,⟨30,[35],[35],none,rg 0 30,[29]⟩,⟨31,[35],[35],none,rg 0 31,[30]⟩,⟨32,[],[],none,rg 0 32,[]⟩]else[])
 frzNew:=[2,3] }
theorem Zh1(aA aD aG aF bC bD bF bN bP bT dO dP:Int)(m:Mem)(R:RT)(h:
 lV [int i64 bC,int i64 dO] λxL=>lV [int i64 aG,int i64 bP] λxL_1=>lV [int i64 bD,int i64 dP] λxL_2=>lV [int i64 aD,int i64 bN] λxL_3=>lV [int i64 aA,int i64 bF] λxL_4=>
 lV [int i64 aF,int i64 bT] λxL_5=>fzM m [int i64 aA,int i64 aD,int i64 aG,int i64 aF,int i64 bC,int i64 bD] λb m'=>fzM m' [int i64 bF,int i64 bN,int i64 bP,int i64 bT,int i64
 dO,int i64 dP] λb m'=>∃(f:Fx),∃(R_1:RT),R_1=f 4 xL_4 m'/\CX Tryz.prog 82 (Array.mk xL_4) m' [] R_1/\Za3 (Shape.int i64) R_1/\∀(n:Int)(m'_1:Mem),lX (int i64 n) λyL=>m'.le m'_1->
 R_1 yL m'_1 []->∃(R_2:RT),R_2=f 9 xL_3 m'_1/\CX Tryz.prog 82 (Array.mk xL_3) m'_1 [] R_2/\Za3 (Shape.int i64) R_2/\∀(n:Int)(m'_2:Mem),lX (int i64 n) λyL_1=>m'_1.le m'_2->R_2 yL_1 m'_2 []->∃
 (R_3:RT),R_3=f 14 xL_1 m'_2/\CX Tryz.prog 82 (Array.mk xL_1) m'_2 [] R_3/\Za3 (Shape.int i64) R_3/\∀(n:Int)(m'_3:Mem),lX (int i64 n) λyL_2=>m'_2.le m'_3->R_3 yL_2 m'_3 []->∃(R_4:RT),R_4 =
 f 19 xL_5 m'_3/\CX Tryz.prog 82 (Array.mk xL_5) m'_3 [] R_4/\Za3 (Shape.int i64) R_4/\∀(n:Int)(m'_4:Mem),lX (int i64 n) λyL_3=>m'_3.le m'_4->R_4 yL_3 m'_4 []->∃(R_5:RT),R_5=f 24 xL m'_4/\CX
 Tryz.prog 82 (Array.mk xL) m'_4 [] R_5/\Za3 (Shape.int i64) R_5/\∀(n:Int)(m'_5:Mem),lX (int i64 n) λyL_4=>m'_4.le m'_5->R_5 yL_4 m'_5 []->∃(R_6:RT),R_6=f 29 xL_2 m'_5/\CX Tryz.prog 82
 (Array.mk xL_2) m'_5 [] R_6/\Za3 (Shape.int i64) R_6/\∀(n:Int)(m'_6:Mem),lV [yL,yL_1,yL_2,yL_3,yL_4,int i64 n] λxL=>m'_5.le m'_6->R_6 (int i64 n) m'_6 []->∀(b:Nat),lM (m'_6.add b xL)
 λmL=>lV [slice (some (Addr.mk b 0 none)) 6 6] λxL=>m'_6.free b->∃(R_7:RT),R_7=f 31 xL mL/\CX Tryz.prog 81 (Array.mk xL) mL [] R_7/\Za3 (Shape.int i64) R_7/\∀(n:Int)(m'_7:Mem),mL.le m'_7->R_7 (int i64 n) m'_7 []->∀(M:Mem),m'.le M->m'_1.le M->m'_2.le M->m'_3.le M->m'_4.le M->m'_5.le M->m'_6.le M->mL.le M->m'_7.le M->rtM m M R (int i64 n)):CX Tryz.prog 39 #[.agg #[.int .i64 aA,.int .i64 aD,.int .i64 aG,.int .i64 aF,.int .i64 bC,.int .i64 bD],.agg #[.int .i64 bF,.int .i64 bN,.int .i64 bP,.int .i64 bT,.int .i64 dO,.int .i64 dP]] m [] R:=
 Zad (E:=ZjT) Zao mix Tryz.func39 (by kernel_rfl) (Eq.mp (by kernel_rfl) h)
end Go.Proofs.YtpjepnkiiojgfaaGreat
namespace Go.Proofs.YtpjepnkiiojgfaaGreat
open Go Go.Eng Go.Rx Go.Proofs Go.RowKit
set_option maxRecDepth 100000
theorem ZoB(x:Int)(m:Mem):CX Tryz.prog 121 #[.int .i64 x] m [] (Ret (.bool false)):=by
 apply Zf2
 exact Zaf (Mem.le_refl m) (by show Value.bool _=Value.bool false;simp)
theorem Ziw(x y:Int)(m:Mem):CX Tryz.prog 82 #[.int .i64 x,.int .i64 y] m [] (Ret (.int .i64 (ZbM [x] [y]))):=by
 apply Zeu
 refine Zag (ZoB x m) λm1 aE=>Zag (ZoB y m1) λm2 aI=>Zhy rfl (Zhy rfl (ZaA (λh=>Zaf (mLt aE aI) ?_) (λh=>ZaA (λh2=>Zaf (mLt aE aI) ?_) (λh2=>Zaf (mLt aE aI) ?_))))
 ·show Value.int _ _=Value.int _ _
  unfold ZbM;rw[if_pos h]
 ·show Value.int _ _=Value.int _ _
  unfold ZbM;rw[if_neg h,if_pos h2]
 ·show Value.int _ _=Value.int _ _
  unfold ZbM;rw[if_neg h,if_neg h2];rfl
def orL:List Int->Int
 | []=>0
 | x::l=>if x=0 then orL l else x
theorem Zz9(l:List Int)(a:Option Addr)(c:Nat)(m:Mem)(hl:l.length<=1000000)(hr:rowRd m a (l.map (Value.int .i64))):CX Tryz.prog 81 #[.slice a l.length c] m [] (Ret (.int .i64 (orL l))):=by
 apply ZjS
 refine⟨λxs _ _ m' q=>∃i:Nat,i<=l.length/\xs=[.int .i64 i]/\orL l=orL (l.drop i)/\q=l.length - i,⟨l.length,0,by omega,rfl,rfl,rfl⟩,?_⟩
 rintro n m1 q aE ⟨i,hi,hx,he,rfl⟩
 obtain rfl:n=i:=by simpa using hx
 refine ZaA (λaC=>?_) (λbJ=>Zaf aE ?_)
 ·have aC:(i:Int) < (l.length:Nat):=aC
  obtain⟨x,hx⟩:=Zdz (show i < l.length by omega)
  have hd:l.drop i=x::l.drop (i+1):=by rw[List.drop_eq_getElem_cons (by omega),(zA0 hx).2]
  obtain⟨b1,o1,ha,yD⟩:=ZyP (hr.mono aE) (show(l.map (Value.int .i64))[i]?=some (.int .i64 x) by rw[List.getElem?_map,hx];rfl)
  refine⟨b1,o1,ha,⟨by omega,aC⟩,_,yD,Zaa rfl (Zab (λh=>Zaf aE ?_) (λh=>⟨l.length - (i+1),by omega,i+1,by omega,by rw[Zal (by omega) (by omega)];rfl,?_,rfl⟩))⟩
  ·have h:¬x=0:=by have h:(!(x == (0:Int)))=true:=h;simpa using h
   show Value.int _ _=Value.int _ _
   rw[he,hd];unfold orL;rw[if_neg h]
  ·have h:x=0:=by have h:(!(x == (0:Int)))=false:=h;simpa using h
   rw[he,hd];show(if x=0 then _ else _)=_;rw[if_pos h]
 ·have hi:i=l.length:=by have:¬(i:Int) < (l.length:Nat):=bJ;omega
  subst hi
  show Value.int _ _=Value.int _ _
  rw[he,List.drop_length];rfl
theorem ZpT(x y:Int)(l r:List Int)(n:Int)(h:n=ZbM l r):(if ZbM [x] [y]=0 then n else ZbM [x] [y])=ZbM (x::l) (y::r):=by
 subst h
 simp only[ZbM]
 by_cases g1:x < y
 ·simp[g1]
 ·by_cases g2:x > y
  ·simp[g1,g2]
  ·simp[g1,g2]
theorem Zix(a0 a1 a2 a3 a4 a5 b0 b1 b2 b3 b4 b5:Int)(m:Mem):CX Tryz.prog 39 #[.agg (msV a0 a1 a2 a3 a4 a5).toArray,.agg (msV b0 b1 b2 b3 b4 b5).toArray] m [] (Ret (.int .i64 (ZbM [a0,a1,a2,a3,a4,a5] [b0,b1,b2,b3,b4,b5]))):=by
 apply Zh1
 intro q1 m1 aE _ q2 m2 aI _
 have fi:∀{x:Int} (v:Value) (m':Mem) (css:List (List Value)),Ret (.int .i64 x) v m' css->Shape.fits (.int .i64) v=true:=λv _ _ h=>by rw[show v=_ from h];rfl
 have inj:∀{x y:Int} {m':Mem},Ret (.int .i64 x) (.int .i64 y) m' []->y=x:=λh=>by simpa using(show Value.int .i64 _=Value.int .i64 _ from h)
 refine⟨λk _ _=>Ret (.int .i64 (bif Nat.beq k 4 then ZbM [a0] [b0]else bif Nat.beq k 9 then ZbM [a1] [b1]else bif Nat.beq k 14 then ZbM [a2] [b2]else bif Nat.beq k 19 then ZbM [a3] [b3]else bif Nat.beq k 24 then ZbM [a4] [b4]else bif Nat.beq k 29 then ZbM [a5] [b5]else ZbM [a0,a1,a2,a3,a4,a5] [b0,b1,b2,b3,b4,b5])),?_⟩
 refine⟨_,rfl,Ziw a0 b0 m2,fi,λn1 m3 aP h1=>?_⟩
 refine⟨_,rfl,Ziw a1 b1 m3,fi,λn2 m4 bU h2=>?_⟩
 refine⟨_,rfl,Ziw a2 b2 m4,fi,λn3 m5 cC h3=>?_⟩
 refine⟨_,rfl,Ziw a3 b3 m5,fi,λn4 m6 eS h4=>?_⟩
 refine⟨_,rfl,Ziw a4 b4 m6,fi,λn5 m7 fG h5=>?_⟩
 refine⟨_,rfl,Ziw a5 b5 m7,fi,λn6 m8 fh h6 b hf=>?_⟩
 obtain rfl:=inj h1
 obtain rfl:=inj h2
 obtain rfl:=inj h3
 obtain rfl:=inj h4
 obtain rfl:=inj h5
 obtain rfl:=inj h6
 have hO:=Zz9 [ZbM [a0] [b0],ZbM [a1] [b1],ZbM [a2] [b2],ZbM [a3] [b3],ZbM [a4] [b4],ZbM [a5] [b5]] (some ⟨b,0,none⟩) 6 (m8.add b ([ZbM [a0] [b0],ZbM [a1] [b1],ZbM [a2] [b2],ZbM [a3] [b3],ZbM [a4] [b4],ZbM [a5] [b5]].map (Value.int .i64))) (by simp) (.inr ⟨b,0,rfl,Zdd m8 b _⟩)
 have e:orL [ZbM [a0] [b0],ZbM [a1] [b1],ZbM [a2] [b2],ZbM [a3] [b3],ZbM [a4] [b4],ZbM [a5] [b5]]=ZbM [a0,a1,a2,a3,a4,a5] [b0,b1,b2,b3,b4,b5]:=by
  simp only[orL]
  refine ZpT _ _ _ _ _ (ZpT _ _ _ _ _ (ZpT _ _ _ _ _ (ZpT _ _ _ _ _ (ZpT _ _ _ _ _ ?_))))
  split
  ·rename_i h;exact h.symm
  ·rfl
 rw[e]at hO
 refine⟨_,rfl,hO,fi,λn7 m9 iz h7 M hM _ _ _ _ _ _ _ _=>?_⟩
 obtain rfl:=inj h7
 exact Zaf (mLt aE (mLt aI hM)) rfl
end Go.Proofs.YtpjepnkiiojgfaaGreat
end
