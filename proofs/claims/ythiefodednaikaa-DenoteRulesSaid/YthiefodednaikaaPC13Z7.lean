/- Part of the proof: conditions and contracts of functions of this program. No condition of its own. -/
import Derived.Test.YthiefodednaikaaPC13TH
import Derived.Test.YthiefodednaikaaPVRU
set_option linter.unusedVariables false
set_option linter.unusedSimpArgs false
namespace Go.Proofs.Ythiefodednaikaa
open Go Go.Eng Go.Rx Go.Proofs Go.RowKit
set_option maxRecDepth 100000
def Zxg:Option (Nat×Nat×Nat)→Value
 | some (k,i,n)=>.tuple #[.int .i64 k,.int .i64 i,.int .i64 n]
 | none=>.tuple #[.int .i64 (-1),.int .i64 (-1),.int .i64 (-1)]
def TabsR(m:Mem)(s:List Nat)(l:List Rg)(vs:List Value):Prop:=vs.length=l.length∧∀(i:Nat)(r:Rg),l[i]?=some r→∃a c bs,vs[i]?=some (.slice a (s.length+1) c)∧Tab m (Zmn (r.t.M s)) (s.length+1) (s.length+1) a bs
theorem TabsR.mono{m m':Mem}{s:List Nat}{l:List Rg}{vs:List Value}(h:TabsR m s l vs)(hm:m.le m'):TabsR m' s l vs:=⟨h.1,fun i r hi=>by obtain⟨a,c,bs,h1,h2⟩:=h.2 i r hi;exact⟨a,c,bs,h1,h2.mono hm⟩⟩
set_option maxHeartbeats 1600000 in
theorem ZlA(l:List Rg)(al:Option Addr)(cl:Nat)(css:List (List Value))(s:List Nat)(sa:Option Addr)(sc:Nat)(lo hi:Nat)(m:Mem)(hl:RgsR m al l css)(hn:l.length≤1000)(hg:∀r∈l,r.t.good=true)(hb:Byt m sa s)(hs:s.length≤512)(tf:hi≤s.length)(la:lo≤hi+1):
  CX Try.prog 61 #[.slice al l.length cl,.slice sa s.length sc,.int .i64 lo,.int .i64 hi] m [] (Ret (Zxg (Zct l s (hi+1 - lo) lo))):=by
 apply ZgH
 unfold ZdF
 refine⟨fun xs _ tvs m' q=>∃(k:Nat)(a:Option Addr)(c:Nat)(vs:List Value),k≤l.length∧xs=[.slice a k c,.int .i64 k]∧tvs=[.slice a k c]∧rowRd m' a vs∧TabsR m' s (l.take k) vs∧q=l.length - k,
  ⟨_,0,none,0,[],Nat.zero_le _,rfl,rfl,.inl rfl,⟨rfl,fun i r h=>by simp at h⟩,rfl⟩,?_⟩
 rintro a n1 c z a1 n2 c1 m2 q aY ⟨k,a',c',vs,hk,hz,ht,cJ,hT,hq⟩
 simp only[List.cons.injEq,Value.slice.injEq,Value.int.injEq,true_and,and_true]at hz ht
 obtain⟨⟨rfl,rfl,rfl⟩,rfl⟩:=hz
 obtain⟨rfl,rfl,rfl⟩:=ht
 subst hq
 have gJ:=hT.1
 rw[List.length_take,Nat.min_eq_left hk]at gJ
 refine ZaG (fun bA=>?_) (fun cN=>?_)
 ·have aX:n2 < l.length:=by omega
  obtain⟨r,hr⟩:=Zbg aX
  have bZ:=List.mem_of_getElem? hr
  obtain⟨b,o,cs,ha,cH,hR⟩:=(hl.mono aY).get hr
  rw[Int.toNat_natCast]
  refine⟨b,o,ha,⟨by omega,by omega⟩,_,Zqm hR,Zlz cH,ZbP (Zqj s sa sc (by omega) r.t _ m2 hR.root (hg r bZ) (hb.mono aY)) fun a4 c4 bs m3 bR dW _ b5 mG=>?_⟩
  have gR:=Mem.le_add mG [Value.slice a4 (s.length+1) c4]
  refine⟨.inl (by trivial),vs,[Value.slice a4 (s.length+1) c4],by omega,rfl,(cJ.mono bR).mono gR,Zsw,by simp[Value.oneCell'],by omega,by omega,fun a7 c7 m7 eA j5=>⟨l.length - (n2+1),by omega,n2+1,a7,c7,vs++[Value.slice a4 (s.length+1) c4],by omega,by rw[Zap (by omega) (by omega)];rfl,rfl,j5,⟨by simp;omega,fun i r' hi=>?_⟩,rfl⟩⟩
  have sL:=Mem.le_trans bR (Mem.le_trans gR eA)
  by_cases e:i < n2
  ·obtain⟨a8,c8,bs8,h1,h2⟩:=hT.2 i r' (by rw[List.getElem?_take,if_pos e];rw[List.getElem?_take,if_pos (by omega)]at hi;exact hi)
   exact⟨a8,c8,bs8,by rw[List.getElem?_append_left (by omega)];exact h1,h2.mono sL⟩
  ·rw[List.getElem?_take]at hi
   split at hi
   ·have e2:i=n2:=by omega
    subst e2
    rw[hr]at hi;cases hi
    exact⟨a4,c4,bs,by rw[List.getElem?_append_right (by omega),gJ,Nat.sub_self];rfl,dW.mono (Mem.le_trans gR eA)⟩
   ·cases hi
 ·have:n2=l.length:=by omega
  subst this
  rw[List.take_length]at hT
  refine⟨fun xs _ _ m' q=>∃x:Nat,lo≤x∧x≤hi+1∧xs=[.int .i64 x]∧Zct l s (hi+1 - lo) lo=Zct l s (hi+1 - x) x∧q=hi+1 - x,⟨_,lo,Nat.le_refl _,la,rfl,rfl,rfl⟩,?_⟩
  rintro z m3 q bR ⟨x,eN,fY,hz,hF,hq⟩
  obtain rfl:z=x:=by simpa using hz
  subst hq
  have kZ:=Mem.le_trans aY bR
  refine ZaG (fun cI=>?_) (fun jm=>?_)
  ·have tg:x≤hi:=by omega
   have eF:hi+1 - x=(hi+1 - (x+1))+1:=by omega
   refine⟨fun xs _ _ m' q=>∃j:Nat,j≤l.length∧xs=[.int .i64 j]∧ZdD s x l 0=ZdD s x (l.drop j) j∧q=l.length - j,⟨_,0,Nat.zero_le _,rfl,rfl,rfl⟩,?_⟩
   rintro z m4 q cF ⟨j,hj,hz,hL,hq⟩
   obtain rfl:z=j:=by simpa using hz
   subst hq
   have mR:=Mem.le_trans kZ cF
   have qC:=Mem.le_trans bR cF
   refine ZaG (fun eO=>?_) (fun iA=>?_)
   ·have dJ:j < l.length:=by omega
    obtain⟨r,hr⟩:=Zbg dJ
    have bZ:=List.mem_of_getElem? hr
    obtain⟨b,o,cs,ha,cH,hR⟩:=(hl.mono mR).get hr
    obtain⟨a8,c8,bs8,h1,h2⟩:=hT.2 j r hr
    rw[Int.toNat_natCast]
    rcases cJ.mono qC with e|⟨b9,o9,e9,pr⟩
    ·rw[e]at gJ;simp at gJ;omega
    refine⟨fun _ _ _=>(fun v _ _=>∃z,v=.int .i64 z∧ZwV r.bg r.en (Zmn (r.t.M s)) (s.length+1) x z),b,o,ha,⟨by omega,by omega⟩,cs,hR.len,cH,b9,o9,e9,⟨by omega,by omega⟩,_,by rw[Nat.mul_one];exact pr j _ h1,_,rfl,ZhO hR (h2.mono qC) (by omega) (i:=x) (by omega),(fun v _ _ ⟨z,e,_⟩=>by rw[e];rfl),?_⟩
    rintro z m5 cO ⟨z',e,hz⟩ M dD cW
    simp only[Value.int.injEq,true_and]at e
    subst e
    have ly:=ZnT (hg r bZ) hs (by omega) hz
    rw[Zjm hr]at hL
    refine ZaG (fun h0=>Zac (Mem.le_trans mR dD) ?_) (fun h0=>⟨by trivial,l.length - (j+1),by omega,j+1,dJ,by rw[Zap (by omega) (by omega)];rfl,?_,rfl⟩)
    ·cases hf:r.from s x with
     | none=>rw[hf]at ly;subst ly;exact absurd h0 (by decide)
     | some i=>
      rw[hf]at ly
      subst ly
      have:ZdD s x l 0=some (j,i):=by rw[hL,ZdD,hf]
      rw[hF,eF,Zct,this];rfl
    ·cases hf:r.from s x with
     | none=>rw[hL,ZdD,hf]
     | some i=>rw[hf]at ly;subst ly;exact absurd (Int.natCast_nonneg i) h0
   ·have:j=l.length:=by omega
    subst this
    rw[List.drop_length,ZdD]at hL
    refine⟨by trivial,hi+1 - (x+1),by omega,x+1,by omega,by omega,by rw[Zap (by omega) (by omega)];rfl,?_,rfl⟩
    rw[hF,eF,Zct,hL]
  ·have e0:hi+1 - x=0:=by omega
   refine Zac kZ ?_
   rw[hF,e0];rfl
end Go.Proofs.Ythiefodednaikaa
set_option linter.unusedVariables false
set_option linter.unusedSimpArgs false
namespace Go.Proofs.Ythiefodednaikaa
open Go Go.Eng Go.Rx Go.Proofs Go.RowKit
set_option maxRecDepth 100000
def KnownK(m m':Mem):Prop:=∀b o v,m b o=some v→∃u,m' b o=some u
theorem KnownK.upd{m m':Mem}(h:KnownK m m')(b o:Nat)(v:Value):KnownK m (m'.upd b o [v]):=fun b' o' w hw=>by
 unfold Mem.upd
 split
 ·rename_i hc
  have e:o' - o=0:=by have:=hc.2.2;simp at this;omega
  exact⟨v,by rw[e];rfl⟩
 ·exact h b' o' w hw
theorem ZtC{b:Bool}{n:Int}:∀(v:Value)(m':Mem) (css:List (List Value)),Ret (.tuple #[.bool b,.int .i64 n]) v m' css→Shape.fits (.tup [.bool,.int .i64]) v=true:=fun v _ _ h=>by rw[h];rfl
end Go.Proofs.Ythiefodednaikaa
set_option linter.unusedVariables false
set_option linter.unusedSimpArgs false
namespace Go.Proofs.Ythiefodednaikaa
open Go Go.Eng Go.Rx Go.Proofs Go.RowKit
set_option maxRecDepth 100000
theorem ZrN(o:Option Nat):∃x b,Zlh o=[.int .i64 x,.bool b]∧b=o.isSome∧x=(if(0:Int) > Zrq o then 0 else Zrq o)∧b=decide (Zrq o ≥ 0):=by
 cases o with
 | none=>exact⟨0,false,rfl,rfl,rfl,rfl⟩
 | some k=>exact⟨k,true,rfl,rfl,by rw[if_neg (by simp[Zrq])];rfl,(decide_eq_true (Int.natCast_nonneg k)).symm⟩
theorem ZtD{r:Rg}{s:List Nat}{n:Int}(h:¬Rg.wrong r s.length n=0):ZfQ r s n=none:=by unfold ZfQ;rw[if_neg h]
theorem Zu7{r:Rg}{len:Nat}{n:Int}(h:Rg.wrong r len n=0):r.t.good=true∧len≤512∧0≤n∧n≤len:=by
 unfold Rg.wrong at h
 split at h
 ·rename_i hc
  have:=Zlf h
  exact⟨(Zln hc).1,this.2⟩
 ·exact absurd h (by decide)
theorem Zpn(n:Nat)(o:Option (Nat×Nat)):Zq4 n o=ZlY (o.map fun p=>(p.1,p.2,n)):=by cases o <;> rfl
theorem Zlo(l:List Rg)(s:List Nat)(n:Nat):Zct l s 1 n=(ZdD s n l 0).map fun p=>(p.1,p.2,n):=by
 rw[Zct]
 cases h:ZdD s n l 0 with
 | none=>rfl
 | some p=>rfl
theorem Zsz(o:Option (Nat×Nat×Nat)):∃(x y z k f t:Int)(b:Bool),ZlY o=[.agg #[.int .i64 x,.int .i64 y,.int .i64 z],.bool b]∧Zxg o=.tuple #[.int .i64 k,.int .i64 f,.int .i64 t]∧b=decide (k ≥ 0)∧(b=false→x=0∧y=0∧z=0)∧(b=true→x=k∧y=f∧z=t):=by
 cases o with
 | none=>exact⟨0,0,0,-1,-1,-1,false,rfl,rfl,rfl,fun _=>⟨rfl,rfl,rfl⟩,fun h=>by cases h⟩
 | some p=>exact⟨p.1,p.2.1,p.2.2,p.1,p.2.1,p.2.2,true,rfl,rfl,(decide_eq_true (Int.natCast_nonneg _)).symm,(fun h=>by cases h),fun _=>⟨rfl,rfl,rfl⟩⟩
theorem ZlB{l:List Rg}{len:Nat}{n:Int}(h:ZaY l len n=0):∀r∈l,r.t.good=true:=by
 unfold ZaY at h
 split at h
 ·exact absurd h (by decide)
 ·split at h
  ·rename_i bM
   intro r hr
   have:=List.all_eq_true.1 bM r hr
   exact(Zln (eq_of_beq this)).1
  ·exact absurd h (by decide)
theorem ZxF(n:Nat):(if(8:Int) < n then(8:Int)else n)=((min n 8:Nat):Int):=by split <;> omega
set_option maxHeartbeats 3200000 in
theorem Zpo(l:List Rg)(al:Option Addr)(cl:Nat)(s:List Nat)(sa:Option Addr)(sc:Nat)(i:Int)(m:Mem)(hl:Rgs m al l)(dV:l.length≤cl)(hn:l.length≤70)(bT:∀r∈l,r.t.nodes.length≤60)(hb:Byt m sa s)(hs:s.length≤30):
  CX Try.prog 22 #[.slice al l.length cl,.slice sa s.length sc,.int .i64 i] m [] (Ret (.bool true)):=by
 apply ZiG
 unfold Zfl
 rw[ZxF]
 refine Zan (Zof l al cl m hl (by omega) fun r hr=>by have:=bT r hr;omega) ZtB ?_
 rintro a n0 c m1 aW ⟨a',c',css,hv,hR⟩
 simp only[Value.slice.injEq]at hv
 obtain⟨rfl,rfl,rfl⟩:=hv
 refine Zan (Zpj s sa sc m1 (hb.mono aW) (by omega)) Zpi ?_
 rintro a2 n2 c2 m2 aY ⟨a',c',hv,hO⟩
 simp only[Value.slice.injEq]at hv
 obtain⟨rfl,rfl,rfl⟩:=hv
 have jK:=Mem.le_trans aW aY
 have qD:=hR.mono aY
 refine⟨⟨by omega,by omega⟩,?_⟩
 have e8:Int.toNat ((min l.length 8:Nat):Int) - 0=min l.length 8:=by rw[Int.toNat_natCast];rfl
 rw[e8]
 refine⟨fun xs _ _ m' q=>∃k:Nat,k≤min l.length 8∧xs=[.int .i64 k]∧q=min l.length 8 - k,⟨_,0,Nat.zero_le _,rfl,rfl⟩,?_⟩
 rintro z m3 q bR ⟨k,hk,hz,hq⟩
 obtain rfl:z=k:=by simpa using hz
 subst hq
 have kZ:=Mem.le_trans jK bR
 refine ZaG (fun bA=>?_) (fun cN=>?_)
 ·have aX:k < min l.length 8:=by omega
  obtain⟨r,hr⟩:=Zbg (l:=l) (k:=k) (by omega)
  have bZ:=List.mem_of_getElem? hr
  have jk:=hl.mono kZ
  rcases jk.2.1 with e|⟨b,o,ha,cH⟩
  ·rw[e]at hr;cases hr
  have mQ:=cH k r hr
  have gO:=jk.2.2 r bZ
  obtain⟨b9,o9,cs,qE,mS,np⟩:=(qD.mono bR).get hr
  have gw:=hO.mono bR
  rw[Int.toNat_natCast]
  refine⟨b,o,ha,⟨by omega,by omega⟩,.bool r.bg,.bool r.en,.int .u8 r.t.k,.int .u64 r.t.s0,.int .u64 r.t.s1,.int .u64 r.t.s2,.int .u64 r.t.s3,.int .i64 r.t.mn,.int .i64 r.t.mx,.slice r.t.a r.t.subs.length r.t.c,mQ,fun b3=>Zaa rfl ⟨b9,o9,qE,⟨by omega,by omega⟩,cs,np.len,mS,?_⟩⟩
  refine Zat (ZkL np sa s.length sc i) fun m4 cF=>?_
  refine Zan (ZmC r a2 s c2 i m4 (gO.mono cF) (fun _=>gw.mono cF)) ZtC ?_
  intro b2 e2 m5 cO hv
  have hv:Value.tuple #[.bool b2,.int .i64 e2]=.tuple #[.bool (ZfQ r s i).isSome,.int .i64 (Rg.wrong r s.length i)]:=hv
  simp only[Value.tuple.injEq,Array.mk.injEq,List.cons.injEq,Value.bool.injEq,Value.int.injEq,true_and,and_true]at hv
  obtain⟨rfl,rfl⟩:=hv
  obtain⟨x,bx,cG,jo,lW,sM⟩:=ZrN (ZfQ r s i)
  have hF:=Zqd r a2 s c2 i m5 ((gO.mono cF).mono cO) (fun _=>(gw.mono cF).mono cO)
  rw[cG]at hF
  refine Zan hF (fun v _ _ h=>by rw[h];rfl) ?_
  intro x' b' e' m6 dK hv
  have hv:Value.tuple #[.int .i64 x',.bool b',.int .i64 e']=.tuple #[.int .i64 x,.bool bx,.int .i64 (Rg.wrong r s.length i)]:=hv
  simp only[Value.tuple.injEq,Array.mk.injEq,List.cons.injEq,Value.bool.injEq,Value.int.injEq,true_and,and_true]at hv
  obtain⟨rfl,rfl,rfl⟩:=hv
  have neq:∀x:Int,(!(x == x))=false:=fun x=>by simp
  have iX:=Mem.le_trans cF (Mem.le_trans cO dK)
  have st:∀z:Int,z=Zrq (ZfQ r s i)→(!(ZfQ r s i).isSome == decide (z ≥ 0))=false∧(!b' == (ZfQ r s i).isSome)=false∧(!x' == (if(0:Int) > z then 0 else z))=false:=fun z hz=>by
   subst hz
   refine⟨?_,?_,?_⟩
   ·rw[←sM,jo];simp
   ·rw[jo];simp
   ·rw[←lW];simp
  refine Ze0 (fun h0=>?_) (fun h0=>?_)
  ·obtain⟨hg,jh,kT,eQ⟩:=Zu7 h0
   obtain⟨n,rfl⟩:∃n:Nat,i=n:=⟨i.toNat,by omega⟩
   have eE:ZfQ r s n=r.from s n:=by unfold ZfQ;rw[if_pos h0];rfl
   refine⟨b9,o9,qE,⟨by omega,by omega⟩,cs,np.len,(by exact mS.mono iX),Zat (Zpm (np.mono iX) hg s sa sc jh (hb.mono (Mem.le_trans kZ iX)) (n:=n) (by omega)) fun m7 eA=>?_⟩
   obtain⟨s1,s2,s3⟩:=st _ (by rw[eE])
   exact⟨false,Zda (neq _) (Zda (neq _) (Zda s1 (Zda s2 ⟨by trivial,by rw[s3]⟩))),Zda rfl ⟨min l.length 8 - (k+1),by omega,k+1,by omega,by rw[Zap (by omega) (by omega)];rfl,rfl⟩⟩
  ·obtain⟨s1,s2,s3⟩:=st (-1) (by rw[ZtD h0];rfl)
   exact⟨false,Zda (neq _) (Zda (neq _) (Zda s1 (Zda s2 ⟨by trivial,by rw[s3]⟩))),Zda rfl ⟨min l.length 8 - (k+1),by omega,k+1,by omega,by rw[Zap (by omega) (by omega)];rfl,rfl⟩⟩
 ·obtain⟨x1,y1,z1,k1,f1,t1,b1,v1,w1,d1,no1,ye1⟩:=Zsz ((Zob l s i).map fun p=>(p.1,p.2,i.toNat))
  obtain⟨x2,y2,z2,k2,f2,t2,b2,v2,w2,d2,no2,ye2⟩:=Zsz (ZeU l s)
  have hL:=ZuX l al cl a2 s c2 i m3 (fun _=>hl.mono kZ) (fun _=>hO.mono bR)
  rw[Zpn,v1]at hL
  refine Zan hL (fun v _ _ h=>by rw[h];rfl) ?_
  intro xa ya za ba wa m4 cF hv
  have hv:Value.tuple #[.agg #[.int .i64 xa,.int .i64 ya,.int .i64 za],.bool ba,.int .i64 wa]=.tuple #[.agg #[.int .i64 x1,.int .i64 y1,.int .i64 z1],.bool b1,.int .i64 (ZaY l s.length i)]:=hv
  simp only[Value.tuple.injEq,Value.agg.injEq,Array.mk.injEq,List.cons.injEq,Value.bool.injEq,Value.int.injEq,true_and,and_true]at hv
  obtain⟨⟨rfl,rfl,rfl⟩,rfl,rfl⟩:=hv
  intro b8
  have mR:=Mem.le_trans kZ cF
  have sN:=(hO.mono bR).mono cF
  have hF:=Zib l al cl a2 s c2 m4 (fun _=>hl.mono mR) (fun _=>sN)
  rw[v2]at hF
  refine Zan hF (fun v _ _ h=>by rw[h];rfl) ?_
  intro xb yb zb bb wb m5 cO hv
  have hv:Value.tuple #[.agg #[.int .i64 xb,.int .i64 yb,.int .i64 zb],.bool bb,.int .i64 wb]=.tuple #[.agg #[.int .i64 x2,.int .i64 y2,.int .i64 z2],.bool b2,.int .i64 (ZaY l s.length 0)]:=hv
  simp only[Value.tuple.injEq,Value.agg.injEq,Array.mk.injEq,List.cons.injEq,Value.bool.injEq,Value.int.injEq,true_and,and_true]at hv
  obtain⟨⟨rfl,rfl,rfl⟩,rfl,rfl⟩:=hv
  intro b9
  have pN:=(qD.mono bR).mono (Mem.le_trans cF cO)
  refine Zat (Zgz l a c css sa s.length sc i m5 pN (by omega)) fun m6 dK=>?_
  refine Zat (Zgz l a c css sa s.length sc 0 m6 (pN.mono dK) (by omega)) fun m7 eA=>?_
  have neq:∀x:Int,(!(x == x))=false:=fun x=>by simp
  refine⟨false,Zda (neq _) ⟨by trivial,by rw[neq]⟩,Zda rfl ?_⟩
  intro b10 pO
  have sO:=Mem.le_trans mR (Mem.le_trans cO (Mem.le_trans dK eA))
  have sP:=Mem.le_trans cF (Mem.le_trans cO (Mem.le_trans dK eA))
  have lF:=Mem.le_add pO (Zai s.length i xa ya za ba xb yb zb bb (ZaY l s.length i) (ZaY l s.length 0))
  refine⟨fun xs _ _ m' q=>∃k:Nat,k≤2∧xs=[.int .i64 k]∧q=2 - k,⟨_,0,by omega,rfl,rfl⟩,?_⟩
  rintro z m8 q qj ⟨k,hk,hz,hq⟩
  obtain rfl:z=k:=by simpa using hz
  subst hq
  have pP:=Mem.le_trans lF qj
  have nq:=Mem.le_trans sO pP
  have sQ:=Mem.le_trans sP pP
  refine ZaG (fun bA=>?_) (fun jm=>?_)
  ·have eH:k=0∨k=1:=by omega
   have qF:=pN.mono (Mem.le_trans dK (Mem.le_trans eA pP))
   rcases eH with rfl|rfl
   ·refine⟨⟨by omega,by omega⟩,Zaa rfl fun b6=>Zaa rfl (Zag rfl (Zaa rfl (Ze0 (fun h0=>Zag rfl (Zag rfl ?_)) (fun h0=>?_))))⟩
    ·have h0':ZaY l s.length i=0:=h0
     obtain⟨_,jh,kT,eQ⟩:=Zkr h0'
     obtain⟨n,rfl⟩:∃n:Nat,i=n:=⟨i.toNat,by omega⟩
     have hB:=ZlA l a c css s sa sc n n m8 qF (by omega) (ZlB h0') (hb.mono nq) jh (by omega) (by omega)
     have eL:Zob l s n=ZdD s n l 0:=by unfold Zob;rw[if_pos h0'];rfl
     have w1':Zxg ((Zob l s (n:Int)).map fun p=>(p.1,p.2,n))=_:=w1
     rw[show n+1 - n=1 by omega,Zlo,←eL,w1']at hB
     refine Zan hB (fun v _ _ h=>by rw[h];rfl) ?_
     intro kk ff tt m9 ls hv
     have hv:Value.tuple #[.int .i64 kk,.int .i64 ff,.int .i64 tt]=.tuple #[.int .i64 k1,.int .i64 f1,.int .i64 t1]:=hv
     simp only[Value.tuple.injEq,Array.mk.injEq,List.cons.injEq,Value.int.injEq,true_and,and_true]at hv
     obtain⟨rfl,rfl,rfl⟩:=hv
     refine⟨false,Zag rfl ⟨ba,rfl,Zda (by rw[d1];simp) (Zag rfl ⟨ba,rfl,Zab (fun hb=>?_) (fun hb=>?_)⟩)⟩,Zda rfl ?_⟩
     ·have hb':ba=false:=by rw[←Bool.not_not ba,hb];rfl
      obtain⟨rfl,rfl,rfl⟩:=no1 hb'
      exact Zaa rfl ⟨_,ZhA 0 0 0 0 0 0,Zda (by simp) (Zag rfl ⟨ba,rfl,Zda hb' ⟨by trivial,rfl⟩⟩)⟩
     ·have hb':ba=true:=by rw[←Bool.not_not ba,hb];rfl
      obtain⟨rfl,rfl,rfl⟩:=ye1 hb'
      exact Zag rfl ⟨ba,rfl,Zxv hb' (Zaa rfl ⟨_,ZhA _ _ _ _ _ _,by trivial,by simp⟩)⟩
     ·exact⟨by trivial,1,by omega,1,by omega,rfl,rfl⟩
    ·have h0':¬ZaY l s.length i=0:=h0
     have eL:Zob l s i=none:=by unfold Zob;rw[if_neg h0']
     rw[eL]at w1
     have w1':Value.tuple #[.int .i64 (-1),.int .i64 (-1),.int .i64 (-1)]=.tuple #[.int .i64 k1,.int .i64 f1,.int .i64 t1]:=w1
     simp only[Value.tuple.injEq,Array.mk.injEq,List.cons.injEq,Value.int.injEq,true_and,and_true]at w1'
     obtain⟨rfl,rfl,rfl⟩:=w1'
     have hb':ba=false:=d1
     obtain⟨rfl,rfl,rfl⟩:=no1 hb'
     refine⟨false,Zag rfl ⟨ba,rfl,Zda (by rw[d1];simp) (Zag rfl ⟨ba,rfl,Zab (fun hb=>?_) (fun hb=>?_)⟩)⟩,Zda rfl ⟨by trivial,1,by omega,1,by omega,rfl,rfl⟩⟩
     ·exact Zaa rfl ⟨_,ZhA 0 0 0 0 0 0,Zda (by simp) (Zag rfl ⟨ba,rfl,Zda hb' ⟨by trivial,rfl⟩⟩)⟩
     ·rw[hb']at hb;cases hb
   ·refine⟨⟨by omega,by omega⟩,Zaa rfl fun b6=>Zaa rfl (Zag rfl (Zaa rfl (Ze0 (fun h0=>Zag rfl (Zag rfl ?_)) (fun h0=>?_))))⟩
    ·have h0':ZaY l s.length 0=0:=h0
     obtain⟨_,jh,kT,eQ⟩:=Zkr h0'
     have hB:=ZlA l a c css s sa sc 0 s.length m8 qF (by omega) (ZlB h0') (hb.mono nq) jh (by omega) (by omega)
     have eL:ZeU l s=Zct l s (s.length+1) 0:=by unfold ZeU;rw[if_pos h0']
     rw[show s.length+1 - 0=s.length+1 by omega,←eL,w2]at hB
     refine Zan hB (fun v _ _ h=>by rw[h];rfl) ?_
     intro kk ff tt m9 ls hv
     have hv:Value.tuple #[.int .i64 kk,.int .i64 ff,.int .i64 tt]=.tuple #[.int .i64 k2,.int .i64 f2,.int .i64 t2]:=hv
     simp only[Value.tuple.injEq,Array.mk.injEq,List.cons.injEq,Value.int.injEq,true_and,and_true]at hv
     obtain⟨rfl,rfl,rfl⟩:=hv
     refine⟨false,Zag rfl ⟨bb,rfl,Zda (by rw[d2];simp) (Zag rfl ⟨bb,rfl,Zab (fun hb=>?_) (fun hb=>?_)⟩)⟩,Zda rfl ?_⟩
     ·have hb':bb=false:=by rw[←Bool.not_not bb,hb];rfl
      obtain⟨rfl,rfl,rfl⟩:=no2 hb'
      exact Zaa rfl ⟨_,ZhA 0 0 0 0 0 0,Zda (by simp) (Zag rfl ⟨bb,rfl,Zda hb' ⟨by trivial,rfl⟩⟩)⟩
     ·have hb':bb=true:=by rw[←Bool.not_not bb,hb];rfl
      obtain⟨rfl,rfl,rfl⟩:=ye2 hb'
      exact Zag rfl ⟨bb,rfl,Zxv hb' (Zaa rfl ⟨_,ZhA _ _ _ _ _ _,by trivial,by simp⟩)⟩
     ·exact⟨by trivial,0,by omega,2,by omega,rfl,rfl⟩
    ·have h0':¬ZaY l s.length 0=0:=h0
     have eL:ZeU l s=none:=by unfold ZeU;rw[if_neg h0']
     rw[eL]at w2
     have w2':Value.tuple #[.int .i64 (-1),.int .i64 (-1),.int .i64 (-1)]=.tuple #[.int .i64 k2,.int .i64 f2,.int .i64 t2]:=w2
     simp only[Value.tuple.injEq,Array.mk.injEq,List.cons.injEq,Value.int.injEq,true_and,and_true]at w2'
     obtain⟨rfl,rfl,rfl⟩:=w2'
     have hb':bb=false:=d2
     obtain⟨rfl,rfl,rfl⟩:=no2 hb'
     refine⟨false,Zag rfl ⟨bb,rfl,Zda (by rw[d2];simp) (Zag rfl ⟨bb,rfl,Zab (fun hb=>?_) (fun hb=>?_)⟩)⟩,Zda rfl ⟨by trivial,0,by omega,2,by omega,rfl,rfl⟩⟩
     ·exact Zaa rfl ⟨_,ZhA 0 0 0 0 0 0,Zda (by simp) (Zag rfl ⟨bb,rfl,Zda hb' ⟨by trivial,rfl⟩⟩)⟩
     ·rw[hb']at hb;cases hb
  ·refine Zak (Zpl s a2 sa c2 sc m8 ((hO.mono bR).mono sQ) (hb.mono nq)) fun m9 ls=>Zac (Mem.le_trans nq ls) rfl
end Go.Proofs.Ythiefodednaikaa
set_option linter.unusedVariables false
set_option linter.unusedSimpArgs false
namespace Go.Proofs.Ythiefodednaikaa
open Go Go.Eng Go.Rx Go.Proofs Go.RowKit
set_option maxRecDepth 100000
def Zxx(m:Mem)(a:Option Addr)(l:List Rg):Prop:=(l=[]∨∃b o,a=some ⟨b,o,none⟩∧∀i r,l[i]?=some r→m.reads b (o+i*10) r.cs)∧∀r∈l,RepW m r.t
theorem ZiY(l:List Rg)(al:Option Addr)(cl:Nat)(s:List Nat)(sa:Option Addr)(sc:Nat)(i:Int)(m:Mem)(hl:Zxx m al l)(dV:l.length≤cl)(hb:Byt m sa s):
  CX Try.prog 4 #[.slice al l.length cl,.slice sa s.length sc,.int .i64 i] m [] (Ret (.bool true)):=by
 apply ZdV
 unfold Zca
 refine⟨(decide (l.length > 8)&&decide (l.length≤64))||(decide (l.length > 70)||decide (s.length > 30)),?_,Zab (fun h=>?_) (fun h=>?_)⟩
 ·refine ZaG (fun h1=>ZaG (fun h2=>?_) (fun h2=>ZaG (fun h3=>?_) (fun h3=>?_))) (fun h1=>ZaG (fun h3=>?_) (fun h3=>?_))
  ·rw[decide_eq_true (p:=l.length > 8) (by omega),decide_eq_true (p:=l.length≤64) (by omega)];rfl
  all_goals
   have e1:(decide (l.length > 8)&&decide (l.length≤64))=false:=by
    rw[Bool.and_eq_false_iff,decide_eq_false_iff_not,decide_eq_false_iff_not];omega
   rw[e1,Bool.false_or]
  ·rw[decide_eq_true (p:=l.length > 70) (by omega)];rfl
  ·rw[decide_eq_false (p:=l.length > 70) (by omega),Bool.false_or,show decide ((s.length:Int) > 30)=decide (s.length > 30) from decide_eq_decide.2 (by omega)]
  ·rw[decide_eq_true (p:=l.length > 70) (by omega)];rfl
  ·rw[decide_eq_false (p:=l.length > 70) (by omega),Bool.false_or,show decide ((s.length:Int) > 30)=decide (s.length > 30) from decide_eq_decide.2 (by omega)]
 ·exact Zak (ZmE m) fun m1 aW=>Zac aW rfl
 ·simp only[Bool.or_eq_false_iff,decide_eq_false_iff_not]at h
  have sR:l.length≤70:=by omega
  have sS:s.length≤30:=by omega
  refine⟨fun xs _ _ m' q=>∃k:Nat,k≤l.length∧xs=[.int .i64 k]∧(∀r∈l.take k,r.t.nodes.length≤60)∧q=l.length - k,⟨_,0,Nat.zero_le _,rfl,fun r h=>by simp at h,rfl⟩,?_⟩
  rintro z m1 q aW ⟨k,hk,hz,bM,hq⟩
  obtain rfl:z=k:=by simpa using hz
  subst hq
  refine ZaG (fun bA=>?_) (fun cN=>?_)
  ·have aX:k < l.length:=by omega
   obtain⟨r,hr⟩:=Zbg aX
   have bZ:=List.mem_of_getElem? hr
   rcases hl.1 with e|⟨b,o,ha,cH⟩
   ·rw[e]at aX;simp at aX
   have mQ:m1.reads b (o+k*10) r.cs:=fun j v hv=>aW _ _ _ (cH k r hr j v hv)
   rw[Int.toNat_natCast]
   refine⟨b,o,ha,⟨by omega,by omega⟩,.bool r.bg,.bool r.en,.int .u8 r.t.k,.int .u64 r.t.s0,.int .u64 r.t.s1,.int .u64 r.t.s2,.int .u64 r.t.s3,.int .i64 r.t.mn,.int .i64 r.t.mx,.slice r.t.a r.t.subs.length r.t.c,mQ,fun b3=>Zaa rfl (Zat (Zv0 r.t 60 m1 ((hl.2 r bZ).mono aW) (by omega) (by omega)) fun m2 aY=>ZaG (fun hf=>?_) (fun hf=>?_))⟩
   ·exact Zak (ZmE m2) fun m3 bR=>Zac (Mem.le_trans aW (Mem.le_trans aY bR)) rfl
   ·have bT:r.t.nodes.length≤60:=by
     unfold Zrh at hf
     split at hf <;> omega
    refine⟨l.length - (k+1),by omega,k+1,by omega,by rw[Zap (by omega) (by omega)];rfl,fun r' h'=>?_,rfl⟩
    rw[List.take_add_one,hr]at h'
    rcases List.mem_append.1 h' with h'|h'
    ·exact bM r' h'
    ·have:r'=r:=by simpa using h'
     rw[this];exact bT
  ·have:k=l.length:=by omega
   subst this
   rw[List.take_length]at bM
   have hR:Rgs m1 al l:=⟨by omega,hl.1.imp id fun⟨b,o,e,h⟩=>⟨b,o,e,fun i r hi j v hv=>aW _ _ _ (h i r hi j v hv)⟩,fun r hr=>Zp5 r.t (by have:=bM r hr;omega) ((hl.2 r hr).mono aW)⟩
   refine⟨true,?_,Zac aW rfl⟩
   refine Zak (Zpo l al cl s sa sc i m1 hR dV sR bM (hb.mono aW) sS) fun m2 aY=>Zab (fun _=>?_) (fun h=>by cases h)
   exact Zak (ZmE m2) fun m3 bR=>by first|rfl|exact⟨by trivial,rfl⟩
end Go.Proofs.Ythiefodednaikaa
set_option linter.unusedVariables false
set_option linter.unusedSimpArgs false
namespace Go.Proofs.Ythiefodednaikaa
open Go Go.Eng Go.Rx Go.Proofs Go.RowKit Go.ChangeShapes Go.WideShapes Go.ChangeAt
set_option maxRecDepth 100000
instance:Inhabited Rg:=⟨⟨false,false,T0⟩⟩
section
variable {H:Type} {enc:TypeId×Value→H} {W:World} {dC:Bool}
theorem ZtE:Try.prog.underlying 37=some (.struct #[⟨ "Begin",4,0,false, "", "",0⟩,⟨ "End",4,1,false, "", "",1⟩,⟨ "Root",29,2,false, "", "",8⟩]):=by kernel_rfl
theorem Zu8{n:Nat}{cs:List Value}{x:DataW H×List MemPlace}(h:DataW.trod enc Try.prog W 0 (fun _=>true) dC n 37 cs=some x):∃r:Rg,cs=r.cs∧RepW (ZpL W) r.t:=by
 obtain⟨xs,k,hk,_,bQ,eY,hx⟩:=DataW.trod_struct ZtE h
 have hc:Try.prog.cellsOf 37=10:=by kernel_rfl
 rw[hc]at bQ
 obtain⟨c0,c1,ds,rfl,ll⟩:∃a b ds,cs=a::b::ds∧ds.length=8:=by
  match cs,bQ with
  | a::b::ds,h=>exact⟨a,b,ds,rfl,by simpa using h⟩
 obtain⟨z0,z1,z2,rfl⟩:∃a b c,xs=[a,b,c]:=by
  match xs,eY with
  | [a,b,c],_=>exact⟨a,b,c,rfl⟩
 have k0:Try.prog.cellsOf 4=1:=by kernel_rfl
 have k2:Try.prog.cellsOf 29=8:=by kernel_rfl
 have g0:DataW.trod enc Try.prog W 0 (fun _=>true) dC k 4 (List.take (Try.prog.cellsOf 4) (List.drop 0 (c0::c1::ds)))=some z0:=hx 0 _ rfl
 have g1:DataW.trod enc Try.prog W 0 (fun _=>true) dC k 4 (List.take (Try.prog.cellsOf 4) (List.drop 1 (c0::c1::ds)))=some z1:=hx 1 _ rfl
 have g2:DataW.trod enc Try.prog W 0 (fun _=>true) dC k 29 (List.take (Try.prog.cellsOf 29) (List.drop 2 (c0::c1::ds)))=some z2:=hx 2 _ rfl
 rw[k0]at g0 g1
 rw[k2]at g2
 replace g0:DataW.trod enc Try.prog W 0 (fun _=>true) dC k 4 [c0]=some z0:=g0
 replace g1:DataW.trod enc Try.prog W 0 (fun _=>true) dC k 4 [c1]=some z1:=g1
 replace g2:DataW.trod enc Try.prog W 0 (fun _=>true) dC k 29 (List.take 8 ds)=some z2:=g2
 rw[List.take_of_length_le (by omega)]at g2
 obtain⟨t,rfl,ht⟩:=ZrE k g2
 obtain⟨b0,q0,_⟩:=DataW.trod_bool Try.underlying4 g0
 obtain⟨b1,q1,_⟩:=DataW.trod_bool Try.underlying4 g1
 simp only[List.cons.injEq,and_true]at q0 q1
 subst q0 q1
 exact⟨⟨b0,b1,t⟩,rfl,ht⟩
theorem Zv9{w:World}{a:Addr}{v:Value}(h:w.cell? ((a.add (0*10)).add 0)=some v):∃b o,a=⟨b,o,none⟩:=by
 obtain⟨b,o,sp⟩:=a
 cases sp with
 | none=>exact⟨b,o,rfl⟩
 | some s=>
  exfalso
  have e:(Addr.add (Addr.add ⟨b,o,some s⟩ (0*10)) 0)=⟨b,o,some s⟩:=rfl
  rw[e]at h
  unfold World.cell? at h
  split at h
  ·simp at h
  ·cases h
theorem ZtF{v:Value}{d:DataW H}{ps:List MemPlace}{r:Reach}{b0:Nat}(gt:Value.okWide Try.prog W r b0 49 v)(h:DataW.Trod enc Try.prog W 0 (fun _=>true) dC 49 v d ps):
  ∃(l:List Rg)(a:Option Addr)(c:Nat),v=.slice a l.length c∧Zxx (ZpL W) a l∧l.length≤c:=by
 obtain⟨n,h⟩:=h
 obtain⟨a0,len0,cap0,rfl⟩:=okWide_slice Try.underlying49 gt
 rw[Zjz]at h
 have hc:Try.prog.cellsOf 37=10:=by kernel_rfl
 rcases DataW.trod_slice Try.underlying49 h with⟨q4,_⟩|⟨a,len,cap,elems,rest,n',hn',q4,_,cI,hl,hm,sA,mF,_⟩
 ·exact⟨[],none,0,by simpa using q4,⟨.inl rfl,fun r hr=>by cases hr⟩,Nat.le_refl _⟩
 ·rw[hc]at mF
  obtain⟨F,hF⟩:=Go.Deep.choose_lt (α:=Rg) (n:=len) (p:=fun i r=>(∀j v,r.cs[j]?=some v→W.cell? ((a.add (i*10)).add j)=some v)∧RepW (ZpL W) r.t) (fun i hi=>by
   have h1:=mF i hi
   rw[List.getElem?_eq_getElem (by omega)]at h1
   obtain⟨cs',h2,h3⟩:=Option.bind_eq_some_iff.1 h1
   obtain⟨_,ip,hc⟩:=World.cells?_some h2
   obtain⟨r,rfl,hr⟩:=Zu8 h3
   refine⟨r,fun j v hj=>?_,hr⟩
   have bA:=(List.getElem?_eq_some_iff.1 hj).1
   rw[hc j (by rw[ip]at bA;exact bA)];exact hj)
  refine⟨(List.range len).map F,some a,cap,by have:=q4;simp at this ⊢;exact this,⟨?_,?_⟩,by simp;omega⟩
  ·by_cases h0:len=0
   ·left;subst h0;rfl
   ·right
    obtain⟨b,o,rfl⟩:=Zv9 ((hF 0 (by omega)).1 0 _ rfl)
    refine⟨b,o,rfl,fun i r hi j v hj=>?_⟩
    rw[List.getElem?_map]at hi
    obtain⟨i',hi',rfl⟩:=Option.map_eq_some_iff.1 hi
    have bA:i < len:=by have:=(List.getElem?_eq_some_iff.1 hi').1;simpa using this
    have e:i'=i:=by rw[List.getElem?_range bA]at hi';exact(Option.some.inj hi').symm
    subst e
    have:=(hF i' bA).1 j v hj
    rw[Zbu,Zbu]at this
    exact this
  ·intro r hr
   obtain⟨i,hi,rfl⟩:=List.mem_map.1 hr
   exact(hF i (List.mem_range.1 hi)).2
end
end Go.Proofs.Ythiefodednaikaa
set_option linter.unusedVariables false
set_option linter.unusedSimpArgs false
namespace Go.Proofs.Ythiefodednaikaa
open Go Go.Eng Go.Rx Go.Proofs Go.RowKit Go.ChangeShapes Go.WideShapes Go.ChangeAt
set_option maxRecDepth 100000
theorem ZhP(H:Type)(enc:TypeId×Value→H)(W:World)(base:Nat)(args:Array Value)(ds gs:List (DataW H))(before:List MemPlace)
  (gt:∀(j:Nat) t v,Try.f4.params[j]?=some t→args[j]?=some v→Value.okWide Try.prog W .any base t v)
  (hW:DataW.Whole enc Try.prog Try.f4.params.toList Rows.denoteRulesSpec.vars false W args.toList ds gs before):
  Calls Try.prog 4 args W fun e W'=>∃v,e=.returned v∧Rows.denoteRulesSpec.post enc Try.prog Try.f4 false true false false W args v W':=by
 have hW':=hW
 obtain⟨p,q,sT,hV,rfl,iF,dQ⟩:=hW
 have hA:DataW.TrodAll enc Try.prog W 0 (fun _=>true) true Try.f4.params.toList args.toList ds p:=sT
 rw[Try.params4]at hA gt
 obtain⟨v0,vs0,d0,ds0,p0,q0,a0,rfl,rfl,h0,r0⟩:=trodAll_cons hA
 obtain⟨v1,vs1,d1,ds1,p1,q1,rfl,rfl,rfl,h1,r1⟩:=trodAll_cons r0
 obtain⟨v2,vs2,d2,ds2,p2,q2,rfl,rfl,rfl,h2,r2⟩:=trodAll_cons r1
 obtain⟨rfl,rfl,rfl⟩:=trodAll_nil r2
 obtain rfl:args=#[v0,v1,v2]:=by cases args;simp_all
 obtain⟨rfl,rfl⟩:=trodVars_none hV
 obtain⟨l,al,cl,rfl,hr,dV⟩:=ZtF (gt 0 _ v0 rfl rfl) h0
 obtain⟨s,sa,sc,rfl,hs,_,_⟩:=Zu2 (gt 1 _ v1 rfl rfl) h1
 obtain⟨i,rfl,_,_,_⟩:=Go.ChangeShapes.open_int Try.underlying3 (gt 2 _ v2 rfl rfl) h2
 exact Zq0 (tb:=4) Zu0 (by rw[Try.params4];intro t ht;simp at ht;rcases ht with rfl|rfl|rfl <;> exact⟨by kernel_rfl,of_decide_eq_true (by kernel_rfl)⟩) hW' rfl rfl rfl rfl rfl Try.underlying4 (ZiY l al cl s sa sc i (ZpL W) hr dV hs)
theorem ZkM(os:Os)(started:os.Started)(H:Type)(enc:TypeId×Value→H):
  ReturnsInHanded {} Try.checked os 4 .any (Rows.denoteRulesSpec.pre6 enc Try.prog Try.f4 Rows.denoteRulesRow.domain false) (Rows.denoteRulesSpec.post enc Try.prog Try.f4 false true false false):=by
 refine returnsInHanded_of_change (C:=Try.checked) ZvX started (by kernel_rfl) Try.func4
  (ChangeSpec.witness6 (enc:=enc) (C:=Try.checked) false ⟨#[],#[.slice none 0 0,.slice none 0 0,.int .i64 0],[]⟩ 8 (by kernel_rfl) (by kernel_rfl) (by kernel_rfl) (by kernel_rfl)) ?_
 intro W base args ds gs before gt hW _ _
 exact ZhP H enc W base args ds gs before gt hW
theorem drules_holds:Rows.DenoteRulesSaid:=
 OpenClaim.holds_of_wide 4 Try.f4 rfl rfl rfl rfl rfl rfl rfl ⟨rfl,rfl,rfl,rfl,rfl⟩ rfl rfl rfl rfl rfl (by kernel_rfl) Try.func4 (by kernel_rfl)
  (of_decide_eq_true (by kernel_rfl)) (by unfold Func.isWrapper;first|(rw[if_pos (by decide +kernel)];kernel_rfl)|(rw[if_neg (by decide +kernel)];exact⟨rfl,rfl⟩))
  (fun os started H enc _=>ZkM os started H enc)
#print axioms drules_holds
end Go.Proofs.Ythiefodednaikaa
