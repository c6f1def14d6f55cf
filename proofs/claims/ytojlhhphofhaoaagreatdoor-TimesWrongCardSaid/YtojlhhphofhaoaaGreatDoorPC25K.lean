/- Part of the proof: functions of the program. No condition. -/
import Derived.Test.YtojlhhphofhaoaaGreatDoorPVEB
import Derived.Test.YtojlhhphofhaoaaGreatDoorPC25P
import Derived.Test.YtojlhhphofhaoaaGreatDoorMr
set_option linter.unusedVariables false
set_option linter.unusedSimpArgs false
set_option linter.unusedSectionVars false
namespace Go.Proofs.YtojlhhphofhaoaaGreatDoor
open Go Go.Eng Go.Rx Go.Proofs Go.RowKit
set_option maxRecDepth 100000
theorem ZlY(l:List Sta)(a:Option Addr)(c:Nat)(g:Nat)(ca:List Value)(p:Sta->Bool)(m:Mem)(hl:l.length<=1000000000000000)(hr:rowRd m a (l.map Sta.cs).flatten)
  (hp:∀x∈l,∀m',m.le m'->CX Tryz.prog g (.agg x.cs.toArray::ca).toArray m' [] (Ret (.bool (p x)))):
  CX Tryz.prog 179 #[.slice a l.length c,.func (.func g) #[] ca.toArray] m [] (Ret (.int .i64 (if l.any p then(l.findIdx p:Nat)else(-1:Int)))):=by
 apply Za5 a l.length c g [] ca
 refine⟨λxs _ _ m'' q=>∃i:Nat,i<=l.length/\xs=[.int .i64 i]/\(∀x∈l.take i,p x=false)/\q=l.length - i,⟨l.length,0,by omega,rfl,by simp,by omega⟩,?_⟩
 rintro n m' q hm ⟨i,hi,hn,fT,hq⟩
 obtain rfl:n=i:=by simpa using hn
 refine Zab (λbB=>?_) (λdB=>?_)
 ·have bQ:i < l.length:=by simpa using bB
  obtain⟨x,hx⟩:=Zc9 bQ
  have cP:x∈l:=List.mem_of_getElem? hx
  obtain⟨b1,o1,ha,eW⟩:=Zam Sta.len (hr.mono hm) hx (by omega)
  refine⟨b1,o1,ha,⟨by omega,by omega⟩,_,_,eW,Zag (hp x cP m' hm) λm1 aV=>Zab (λfR=>?_) (λfR=>?_)⟩
  ·refine Zac (mLt hm aV) ?_
   have fq:l.any p=true:=List.any_eq_true.2 ⟨x,cP,fR⟩
   have f4:l.findIdx p=i:=by
    rw[List.findIdx_eq bQ]
    refine⟨by rw[(List.getElem?_eq_some_iff.1 hx).2];exact fR,λj hj=>?_⟩
    exact fT _ (List.mem_of_getElem? (i:=j) (by rw[List.getElem?_take_of_lt hj];exact List.getElem?_eq_getElem (by omega)))
   simp[Ret,fq,f4]
  ·refine⟨l.length - (i+1),by omega,i+1,by omega,by rw[Zal (by omega) (by omega)];rfl,?_,rfl⟩
   intro y hy
   rw[List.take_add_one,hx]at hy
   rcases List.mem_append.1 hy with hy|hy
   ·exact fT y hy
   ·simp at hy;rw[hy];exact fR
 ·have hi':i=l.length:=by
   have:¬((i:Int) < (l.length:Int)):=by simpa using dB
   omega
  subst hi'
  refine Zac hm ?_
  have fq:l.any p=false:=by
   rw[List.any_eq_false]
   rw[List.take_length]at fT
   exact λx hx=>by simp[fT x hx]
  simp[Ret,fq]
theorem ZsY(l:List Sta)(a:Option Addr)(c:Nat)(g:Nat)(ca:List Value)(p:Sta->Bool)(m:Mem)(hl:l.length<=1000000000000000)(hr:rowRd m a (l.map Sta.cs).flatten)
  (hp:∀x∈l,∀m',m.le m'->CX Tryz.prog g (.agg x.cs.toArray::ca).toArray m' [] (Ret (.bool (p x)))):
  CX Tryz.prog 154 #[.slice a l.length c,.func (.func g) #[] ca.toArray] m [] (Ret (.bool (l.any p))):=by
 apply ZaZ a l.length c g [] ca
 refine Zax (ZlY l a c g ca p m hl hr hp) λm' hm=>Zac hm ?_
 cases h:l.any p <;> simp[Ret]
theorem ZlZ(l:List Va)(a:Option Addr)(c:Nat)(g:Nat)(ca:List Value)(p:Va->Bool)(m:Mem)(hl:l.length<=1000000000000000)(hr:rowRd m a (l.map Va.cs).flatten)
  (hp:∀x∈l,∀m',m.le m'->CX Tryz.prog g (.agg x.cs.toArray::ca).toArray m' [] (Ret (.bool (p x)))):
  CX Tryz.prog 178 #[.slice a l.length c,.func (.func g) #[] ca.toArray] m [] (Ret (.int .i64 (if l.any p then(l.findIdx p:Nat)else(-1:Int)))):=by
 apply Zbq a l.length c g [] ca
 refine⟨λxs _ _ m'' q=>∃i:Nat,i<=l.length/\xs=[.int .i64 i]/\(∀x∈l.take i,p x=false)/\q=l.length - i,⟨l.length,0,by omega,rfl,by simp,by omega⟩,?_⟩
 rintro n m' q hm ⟨i,hi,hn,fT,hq⟩
 obtain rfl:n=i:=by simpa using hn
 refine Zab (λbB=>?_) (λdB=>?_)
 ·have bQ:i < l.length:=by simpa using bB
  obtain⟨x,hx⟩:=Zc9 bQ
  have cP:x∈l:=List.mem_of_getElem? hx
  obtain⟨b1,o1,ha,eW⟩:=Zam Va.len (hr.mono hm) hx (by omega)
  refine⟨b1,o1,ha,⟨by omega,by omega⟩,_,_,_,_,eW,Zag (hp x cP m' hm) λm1 aV=>Zab (λfR=>?_) (λfR=>?_)⟩
  ·refine Zac (mLt hm aV) ?_
   have fq:l.any p=true:=List.any_eq_true.2 ⟨x,cP,fR⟩
   have f4:l.findIdx p=i:=by
    rw[List.findIdx_eq bQ]
    refine⟨by rw[(List.getElem?_eq_some_iff.1 hx).2];exact fR,λj hj=>?_⟩
    exact fT _ (List.mem_of_getElem? (i:=j) (by rw[List.getElem?_take_of_lt hj];exact List.getElem?_eq_getElem (by omega)))
   simp[Ret,fq,f4]
  ·refine⟨l.length - (i+1),by omega,i+1,by omega,by rw[Zal (by omega) (by omega)];rfl,?_,rfl⟩
   intro y hy
   rw[List.take_add_one,hx]at hy
   rcases List.mem_append.1 hy with hy|hy
   ·exact fT y hy
   ·simp at hy;rw[hy];exact fR
 ·have hi':i=l.length:=by
   have:¬((i:Int) < (l.length:Int)):=by simpa using dB
   omega
  subst hi'
  refine Zac hm ?_
  have fq:l.any p=false:=by
   rw[List.any_eq_false]
   rw[List.take_length]at fT
   exact λx hx=>by simp[fT x hx]
  simp[Ret,fq]
theorem ZsZ(l:List Va)(a:Option Addr)(c:Nat)(g:Nat)(ca:List Value)(p:Va->Bool)(m:Mem)(hl:l.length<=1000000000000000)(hr:rowRd m a (l.map Va.cs).flatten)
  (hp:∀x∈l,∀m',m.le m'->CX Tryz.prog g (.agg x.cs.toArray::ca).toArray m' [] (Ret (.bool (p x)))):
  CX Tryz.prog 148 #[.slice a l.length c,.func (.func g) #[] ca.toArray] m [] (Ret (.bool (l.any p))):=by
 apply Za8 a l.length c g [] ca
 refine Zax (ZlZ l a c g ca p m hl hr hp) λm' hm=>Zac hm ?_
 cases h:l.any p <;> simp[Ret]
theorem Zep(n a b:Int)(m:Mem):CX Tryz.prog 151 #[.int .i64 n,.int .i64 a,.int .i64 b] m [] (Ret (.bool (Zbl n a b))):=by
 apply Zg6
 exact⟨Zbl n a b,Zab (λh=>by unfold Zbl;rw[h];rfl) (λh=>by unfold Zbl;rw[h];rfl),Zac (Mem.le_refl m) rfl⟩
theorem ZuT(v:Va)(name:ByteArray)(b:Nat)(m:Mem)(hb:m.reads b 0 [.string name]):CX Tryz.prog 185 #[.agg v.cs.toArray,.pointer (some ⟨b,0,none⟩)] m [] (Ret (.bool (eqS v.s name))):=by
 apply Zg7 (c0b:=b) (c0o:=0)
 intro b1 m1 aV _
 exact⟨_,aV.c _ _ _ (hb 0 _ rfl),Zaa rfl (Zac aV rfl)⟩
theorem ZuU{l:List Va}{p:Va->Bool}(h:l.any p=true):∃v,l[l.findIdx p]?=some v/\l.find? p=some v:=by
 induction l with
 | nil=>simp at h
 | cons x l ih=>
  cases hx:p x with
  | true=>exact⟨x,by simp[List.findIdx_cons,hx],by simp[hx]⟩
  | false=>
   obtain⟨v,h1,h2⟩:=ih (by simpa[hx]using h)
   exact⟨v,by simp[List.findIdx_cons,hx,h1],by simp[hx,h2]⟩
theorem Zs0{l:List Va}{p:Va->Bool}(h:l.any p=false):l.find? p=none:=by
 rw[List.find?_eq_none];rw[List.any_eq_false]at h;exact h
theorem Zrx(s:Sc)(name:ByteArray)(m:Mem)(hr:RepC m s):CX Tryz.prog 166 #[s.v,.string name] m [] (Ret (.tuple #[.bool (Zc8 s name).1,.bool (Zc8 s name).2])):=by
 apply Zkq
 intro b m1 aV _ b1 m2 bA dF
 have fS:=hr.vlen
 unfold few at fS
 have bF:=hr.vrow.mono (mLt aV bA)
 refine Zax (ZlZ s.vars s.va s.vc _ [.pointer (some ⟨b1,0,none⟩)] (λv=>eqS v.s name) m2 (by omega) bF λx _ m' hm'=>ZuT x name b1 m' (dF.mono hm')) λm3 bR=>?_
 have cJ:=mLt aV (mLt bA bR)
 cases h:s.vars.any (λv=>eqS v.s name)with
 | true=>
  obtain⟨v,qq,oY⟩:=ZuU h
  have hk:Zc8 s name=(v.b,true):=by unfold Zc8;rw[oY]
  obtain⟨b4,o4,ha,lm⟩:=Zam Va.len (bF.mono bR) qq (by omega)
  have bB:=(List.getElem?_eq_some_iff.1 qq).1
  simp only[if_true]
  refine⟨v.b,true,Zjr (decide_eq_true (by omega)) ⟨b4,o4,ha,⟨by omega,by omega⟩,.bool v.b,?_,by trivial,Zaa rfl ?_⟩,Zac cJ (by rw[hk])⟩
  ·have:=lm 1 _ rfl
   rw[Int.toNat_natCast];exact this
  ·rw[decide_eq_true (by omega:((List.findIdx (λv=>eqS v.s name) s.vars:Nat):Int) ≥ 0)]
 | false=>
  have hk:Zc8 s name=(false,false):=by unfold Zc8;rw[Zs0 h]
  refine⟨false,false,ZdE rfl ⟨by trivial,rfl⟩,Zac cJ (by rw[hk])⟩
theorem Zo5(s:Sc)(name:ByteArray)(b:Nat)(m:Mem)(hr:RepC m s)(hb:m.reads b 0 s.cs):CX Tryz.prog 188 #[.string name,.pointer (some ⟨b,0,none⟩)] m [] (Ret (.bool (!(Zc8 s name).1))):=by
 apply ZeM (c0b:=b) (c0o:=0)
 refine⟨_,_,_,hb,?_⟩
 refine Zai (Zrx s name m hr) (λv _ _ e=>by rw[show v=_ from e];rfl) ?_
 intro x y m1 aV hv
 have hv:Value.tuple (Array.mk [Value.bool x,Value.bool y])=Value.tuple #[.bool (Zc8 s name).1,.bool (Zc8 s name).2]:=hv
 simp only[Value.tuple.injEq,Array.mk.injEq,List.cons.injEq,Value.bool.injEq,and_true]at hv
 obtain⟨rfl,rfl⟩:=hv
 exact Zac aV rfl
theorem ZuV(e:E):e.vars.length<=1000000000000000:=by
 unfold E.vars
 split
 ·rename_i hl
  have h2:=Zf1 e []
  have h3:=of_decide_eq_true (show decide (e.nodes.length<=10000)=true from hl)
  simp only[List.length_nil]at h2
  omega
 ·simp
theorem Zh3(s:Sc)(e:E)(m:Mem)(hr:RepC m s)(he:RepE m e):CX Tryz.prog 167 #[s.v,e.v] m [] (Ret (.bool (Zds s e))):=by
 apply Zgf
 intro b m1 aV hb b1 m2 bA _
 refine Zai (ZuS e m2 (RepE.mono' he (mLt aV bA))) ZsX ?_
 rintro a n c m3 bR ⟨a',c',hv,bF⟩
 simp only[Value.slice.injEq]at hv
 obtain⟨rfl,rfl,rfl⟩:=hv
 refine Zag (Zgq e.vars a c _ [.pointer (some ⟨b,0,none⟩)] (λn=>!(Zc8 s n).1) m3 (ZuV e) bF λx _ m' hm'=>Zo5 s x b m' (hr.mono (mLt aV (mLt bA (mLt bR hm')))) (hb.mono (mLt bA (mLt bR hm')))) λm4 cO=>Zac (mLt aV (mLt bA (mLt bR cO))) rfl
theorem Zt1(e:E)(m:Mem)(he:RepE m e):CX Tryz.prog 164 #[e.v] m [] (Ret (.bool (Zpz e))):=by
 apply Zkr
 intro b m1 aV _
 exact Zag (Zrv e E0 m1 (RepE.mono' he aV) (ZvA m1)) λm2 bA=>Zac (mLt aV bA) rfl
theorem Zf5(r:Ru)(m:Mem)(hr:Rep m r.t):CX Tryz.prog 170 #[.agg r.cs.toArray] m [] (Ret (.int .i64 (Zcb r))):=by
 apply Zfk
 intro b m1 aV _
 refine Zab (λh=>?_) (λh=>Zab (λh2=>Zac aV ?_) (λh2=>Zac aV ?_))
 ·have hk:r.k=1:=by simpa using h
  exact Zax (ZoY r.t m1 (hr.mono aV)) λm2 bA=>Zac (mLt aV bA) (by unfold Zcb;rw[if_pos hk])
 ·have hk:¬r.k=1:=by simpa using h
  have ia:r.k=2:=by simpa using h2
  unfold Zcb;rw[if_neg hk,if_pos ia]
 ·have hk:¬r.k=1:=by simpa using h
  have ia:¬r.k=2:=by simpa using h2
  unfold Zcb;rw[if_neg hk,if_neg ia]
theorem Zo6(e:E)(m:Mem)(he:RepE m e):CX Tryz.prog 70 #[e.v] m [] (Ret (.int .i64 (nE e))):=by
 apply ZmB
 intro b m1 aV _
 refine Zag (ZdC e m1 (RepE.mono' he aV)) λm2 bA=>Zab (λh=>Zac (mLt aV bA) ?_) (λh=>?_)
 ·have hl:e.light=false:=by simpa using h
  unfold nE;rw[hl];rfl
 ·have hl:e.light=true:=by simpa using h
  exact Zax (ZuM e m2 (RepE.mono' he (mLt aV bA))) λm3 bR=>Zac (mLt aV (mLt bA bR)) (by unfold nE;rw[hl];rfl)
set_option maxHeartbeats 4000000 in
def CntW(b n p:Int):Prop:=0<=n/\n<=b/\(n=p\/(20000 < n/\20000 < p))
theorem CntW.out{b n p t:Int}(h:CntW b n p)(hn:n > 20000)(ht:p<=t):t > 20000:=by
 rcases h.2.2 with e|⟨_,e⟩ <;> omega
theorem CntW.eq{b n p:Int}(h:CntW b n p)(hn:¬n > 20000):n=p:=by
 rcases h.2.2 with e|⟨e,_⟩ <;> omega
theorem ZkI(s:Sc)(m:Mem)(hr:RepC m s):CX Tryz.prog 38 #[s.v] m [] (Ret (.bool s.light)):=by
 apply ZmC
 intro b m1 aV _
 have fS:=hr.vlen
 have fP:=hr.len
 unfold few at fS fP
 have dark:∀{M:Mem},m1.le M->s.weight > 20000->∀{n:Int},n > 20000->∃m'':Mem,m.le m''/\m''.le M/\Ret (.bool s.light) (.bool (decide (n<=20000))) m'' []:=λ{M} hM hw {n} hn=>Zac (mLt aV hM) (by
  show Value.bool _=Value.bool s.light
  unfold Sc.light
  rw[decide_eq_false (by omega),decide_eq_false (by omega)])
 generalize hV:((s.vars.length:Int)+s.states.length)=V0
 have wl:0<=V0/\V0<=200000:=by omega
 rw[Zal (by omega) (by omega)]
 have tA:s.weight=V0+Zcu (s.states.map wS):=by unfold Sc.weight;omega
 refine⟨λxs _ _ m' q=>∃(i:Nat)(n:Int),i<=s.states.length/\xs=[.int .i64 n,.int .i64 i]/\CntW 300000 n (V0+Zcu ((s.states.take i).map wS))/\q=s.states.length - i,⟨_,0,V0,by omega,rfl,⟨by omega,by omega,.inl (by simp[Zcu])⟩,rfl⟩,?_⟩
 rintro n k0 m2 q bA ⟨i,n',hi,hx,hC,hq⟩
 simp only[List.cons.injEq,Value.int.injEq,and_true,true_and]at hx
 obtain⟨rfl,rfl⟩:=hx
 subst hq
 have iK:IntKind.i64.wrap ((i:Int)+1)=((i+1:Nat):Int):=by rw[Zal (by omega) (by omega)];rfl
 simp only[iK,Int.toNat_natCast]
 refine Zaw (λbB=>?_) (λdB=>?_)
 ·have bQ:i < s.states.length:=by omega
  obtain⟨x,hx⟩:=Zc9 bQ
  have jB:=List.mem_of_getElem? hx
  obtain⟨b1,o1,ha,eW⟩:=Zam Sta.len ((hr.mono (mLt aV bA)).row) hx (by omega)
  have dZ:=hr.all x jB
  have jC:=dZ.len
  unfold few at jC
  refine⟨b1,o1,ha,⟨by omega,by omega⟩,_,_,eW,λb2=>Zaa rfl (Zaa rfl ?_)⟩
  generalize nk:V0+Zcu ((s.states.take i).map wS)=P0 at hC
  have tB:V0+Zcu ((s.states.take (i+1)).map wS)=P0+wS x:=by rw[ZeI wS hx];omega
  have uX:P0+wS x<=s.weight:=by rw[<-tB,tA];have:=Zj9 wS ZyZ s.states (i+1);omega
  refine⟨λxs _ _ m' q=>∃(k:Nat)(n:Int),k<=x.rules.length/\xs=[.int .i64 n,.int .i64 k]/\CntW 300000 n (P0+Zcu ((x.rules.take k).map wR))/\q=x.rules.length - k,⟨_,0,n,by omega,rfl,by simpa[Zcu]using hC,rfl⟩,?_⟩
  rintro n1 k1 m3 q bR ⟨k,n1',hk,gQ,lQ,hq⟩
  simp only[List.cons.injEq,Value.int.injEq,and_true,true_and]at gQ
  obtain⟨rfl,rfl⟩:=gQ
  subst hq
  have gR:IntKind.i64.wrap ((k:Int)+1)=((k+1:Nat):Int):=by rw[Zal (by omega) (by omega)];rfl
  simp only[gR,Int.toNat_natCast]
  have eG:m.le m3:=mLt aV (mLt bA bR)
  refine Zaw (λfF=>?_) (λfM=>?_)
  ·have kA:k < x.rules.length:=by have:(k:Int) < (x.rules.length:Int):=fF;omega
   obtain⟨r,ii⟩:=Zc9 kA
   have qp:=List.mem_of_getElem? ii
   have fU:=dZ.all r qp
   obtain⟨b3,o3,f5,kB⟩:=Zam Ru.len ((dZ.row).mono eG) ii (by omega)
   have oZ:=fU.len
   unfold few at oZ
   generalize wm:P0+Zcu ((x.rules.take k).map wR)=P1 at lQ
   have o8:P0+Zcu ((x.rules.take (k+1)).map wR)=P1+wR r:=by rw[ZeI wR ii];omega
   have uY:P1+wR r<=s.weight:=by
    rw[<-o8]
    have:=Zj9 wR Zyp x.rules (k+1)
    unfold wS at uX
    omega
   refine Zaa rfl ⟨b3,o3,f5,⟨by omega,by show(k:Int) < (x.rules.length:Int);omega⟩,_,_,_,_,_,_,_,_,_,_,_,_,_,_,_,_,kB,λb4=>Zaa rfl ?_⟩
   have cE:=ZlP r.t
   refine Zax (Zro r.t m3 (fU.t.mono eG)) λm4 cO=>?_
   have iM:(if(20000:Int) < r.t.size then(20000:Int)else r.t.size)=Zic r.t.size 20000:=rfl
   have gz:0<=Zic r.t.size 20000/\Zic r.t.size 20000<=20000:=by unfold Zic;split <;> omega
   rw[iM]
   have wn:=lQ.1
   have wo:=lQ.2.1
   refine⟨λxs _ _ m'=>∃n:Int,xs=[.int .i64 n]/\CntW 330000 n (P1+1+Zic r.t.size 20000+(if r.t.light then 0 else 20001)),?_,?_⟩
   ·refine Zag (ZeQ r.t m4 (fU.t.mono (mLt eG cO))) λm5 dY=>Zab (λh=>⟨by trivial,20001,rfl,?_⟩) (λh=>⟨by trivial,_,rfl,?_⟩)
    ·have hl:r.t.light=false:=by simpa using h
     rw[hl,if_neg (by decide)]
     have hp:0<=P1:=by rcases lQ.2.2 with e|⟨_,e⟩ <;> omega
     exact⟨by omega,by omega,.inr ⟨by omega,by omega⟩⟩
    ·have hl:r.t.light=true:=by simpa using h
     rw[hl,if_pos rfl,Zal (n:=1+Zic r.t.size 20000) (by omega) (by omega),Zal (by omega) (by omega)]
     refine⟨by omega,by omega,?_⟩
     rcases lQ.2.2 with e|⟨e1,e2⟩
     ·left;omega
     ·right;omega
   ·rintro n2 m5 dY ⟨n2',jM,rU⟩
    obtain rfl:n2=n2':=by simpa using jM
    generalize uZ:P1+1+Zic r.t.size 20000+(if r.t.light then 0 else 20001)=P2 at rU
    have iL:wR r=(P2 - P1)+Zcu (r.acts.map wA):=by unfold wR;rw[<-uZ];omega
    have rV:m.le m5:=mLt eG (mLt cO dY)
    refine Zaa rfl ⟨λxs _ _ m' q=>∃(j:Nat)(n:Int),j<=r.acts.length/\xs=[.int .i64 n,.int .i64 j]/\CntW (330000+j*200000) n (P2+Zcu ((r.acts.take j).map wA))/\q=r.acts.length - j,⟨_,0,n2,by omega,rfl,by simpa[Zcu]using rU,rfl⟩,?_⟩
    rintro n3 k3 m6 q gZ ⟨j,n3',hj,lm,lR,hq⟩
    simp only[List.cons.injEq,Value.int.injEq,and_true,true_and]at lm
    obtain⟨rfl,rfl⟩:=lm
    subst hq
    have u0:IntKind.i64.wrap ((j:Int)+1)=((j+1:Nat):Int):=by rw[Zal (by omega) (by omega)];rfl
    simp only[u0,Int.toNat_natCast]
    have kC:=mLt rV gZ
    have fB:=lR.1
    have tC:=lR.2.1
    refine Zaw (λkD=>?_) (λln=>?_)
    ·have pf:j < r.acts.length:=by have:(j:Int) < (r.acts.length:Int):=kD;omega
     obtain⟨a,jD⟩:=Zc9 pf
     have kE:=fU.all a (List.mem_of_getElem? jD)
     obtain⟨b5,o5,lS,qr⟩:=Zam Ac.len ((fU.row).mono kC) jD (by omega)
     have kS:=kE.n
     unfold few at kS
     have wp:=ZsD a.e
     generalize wq:P2+Zcu ((r.acts.take j).map wA)=P3 at lR
     have rW:P2+Zcu ((r.acts.take (j+1)).map wA)=P3+wA a:=by rw[ZeI wA jD];omega
     have u2:P3+wA a<=s.weight:=by
      have:=Zj9 wA Zyo r.acts (j+1)
      omega
     refine Zaa rfl ⟨b5,o5,lS,⟨by omega,by show(j:Int) < (r.acts.length:Int);omega⟩,_,_,_,_,_,_,_,_,qr,λb6=>Zaa rfl ?_⟩
     refine⟨λ_ _ _=>Ret (.int .i64 (nE a.e)),_,rfl,Zo6 a.e m6 (RepE.mono' kE.e kC),λv _ _ e=>by rw[show v=_ from e];rfl,λn8 m7 iS rX=>Zaa rfl λM jA io=>Zaa rfl ?_⟩
     obtain rfl:n8=nE a.e:=by cases rX;rfl
     have rY:slN (Value.slice a.pa a.parts.length a.pc)=a.parts.length:=rfl
     rw[rY,Zal (n:=1+nE a.e) (by omega) (by omega),Zal (n:=1+nE a.e+(a.parts.length:Int)) (by omega) (by omega),Zal (by omega) (by omega)]
     have u4:wA a=(1+nE a.e+a.parts.length)+Zcu (a.parts.map λp=>nE p.e):=by unfold wA;omega
     have u5:=mLt kC jA
     refine⟨λxs _ _ m' q=>∃(w:Nat)(n:Int),w<=a.parts.length/\xs=[.int .i64 n,.int .i64 w]/\CntW (330000+(j+1)*200000) n (P3+(1+nE a.e+a.parts.length)+Zcu ((a.parts.take w).map λp=>nE p.e))/\q=a.parts.length - w,⟨_,0,_,by omega,rfl,⟨by omega,by omega,?_⟩,rfl⟩,?_⟩
     ·simp only[List.take_zero,List.map_nil,Zcu]
      rcases lR.2.2 with e|⟨e1,e2⟩
      ·left;omega
      ·right;omega
     rintro n4 k4 m8 q gu ⟨w,n4',hw,mV,mW,hq⟩
     simp only[List.cons.injEq,Value.int.injEq,and_true,true_and]at mV
     obtain⟨rfl,rfl⟩:=mV
     subst hq
     have rZ:IntKind.i64.wrap ((w:Int)+1)=((w+1:Nat):Int):=by rw[Zal (by omega) (by omega)];rfl
     simp only[rZ,Int.toNat_natCast]
     have qs:=mLt u5 gu
     have u6:m1.le m8:=mLt bA (mLt bR (mLt cO (mLt dY (mLt gZ (mLt jA gu)))))
     have qt:=mW.1
     have wt:=mW.2.1
     refine Zaw (λlp=>?_) (λlq=>?_)
     ·have pg:w < a.parts.length:=by have:(w:Int) < (a.parts.length:Int):=lp;omega
      obtain⟨p,jH⟩:=Zc9 pg
      have gY:=kE.all p (List.mem_of_getElem? jH)
      obtain⟨b7,o7,r5,u9⟩:=Zam Pt.len ((kE.row).mono qs) jH (by omega)
      have wu:=ZsD p.e
      have dN:=ZeI (λp:Pt=>nE p.e) jH
      have vb:=Zj9 (λp:Pt=>nE p.e) (λp=>(ZsD p.e).1) a.parts w
      refine Zaa rfl ⟨b7,o7,r5,⟨by omega,by show(w:Int) < (a.parts.length:Int);omega⟩,_,_,_,_,_,_,_,_,u9,λb8=>Zaa rfl (Zaw (λhd=>dark u6 (mW.out hd (by omega)) hd) (λhd=>?_))⟩
      refine Zax (Zo6 p.e m8 (RepE.mono' gY.e qs)) λm9 lT=>⟨by trivial,a.parts.length - (w+1),by omega,w+1,_,by omega,rfl,?_,rfl⟩
      have he:=mW.eq hd
      rw[Zal (by omega) (by omega),dN]
      exact⟨by omega,by omega,.inl (by omega)⟩
     ·have hw':w=a.parts.length:=by have:¬(w:Int) < (a.parts.length:Int):=lq;omega
      subst hw'
      rw[List.take_length]at mW
      refine⟨by trivial,r.acts.length - (j+1),by omega,j+1,n4,by omega,rfl,?_,rfl⟩
      rw[rW,u4]
      exact⟨mW.1,by push_cast;omega,by rcases mW.2.2 with e|e;left;omega;right;omega⟩
    ·have hj':j=r.acts.length:=by have:¬(j:Int) < (r.acts.length:Int):=ln;omega
     subst hj'
     rw[List.take_length]at lR
     have qu:m1.le m6:=mLt bA (mLt bR (mLt cO (mLt dY gZ)))
     refine Zaw (λhd=>dark qu (lR.out hd (by omega)) hd) (λhd=>⟨by trivial,x.rules.length - (k+1),by omega,k+1,n3,by omega,rfl,?_,rfl⟩)
     rw[o8,iL]
     exact⟨lR.1,by omega,.inl (by have:=lR.eq hd;omega)⟩
  ·have hk':k=x.rules.length:=by have:¬(k:Int) < (x.rules.length:Int):=fM;omega
   subst hk'
   rw[List.take_length]at lQ
   refine⟨by trivial,s.states.length - (i+1),by omega,i+1,n1,by omega,rfl,?_,rfl⟩
   rw[tB];exact lQ
 ·have hi':i=s.states.length:=by omega
  subst hi'
  rw[List.take_length,<-tA]at hC
  refine Zac (mLt aV bA) ?_
  show Value.bool _=Value.bool s.light
  unfold Sc.light
  congr 1
  rw[decide_eq_decide]
  rcases hC.2.2 with e|⟨e1,e2⟩ <;> omega
theorem ZuW(x:Sta)(name:ByteArray)(b:Nat)(m:Mem)(hb:m.reads b 0 [.string name]):CX Tryz.prog 183 #[.agg x.cs.toArray,.pointer (some ⟨b,0,none⟩)] m [] (Ret (.bool (eqS x.s name))):=by
 apply Zkm (c0b:=b) (c0o:=0)
 intro b1 m1 aV _
 exact⟨_,(hb.mono aV) 0 _ rfl,Zaa rfl (Zac aV rfl)⟩
def Zyx(s:Sc)(name:ByteArray):Value->Mem->List (List Value)->Prop:=λv _ _=>∃n:Int,v=.tuple #[.int .i64 n,.bool (Zka s name)]
theorem Zs1{s name}:∀(v:Value)(m':Mem) (css:List (List Value)),Zyx s name v m' css->Shape.fits (.tup [.int .i64,.bool]) v=true:=λv _ _ ⟨_,e⟩=>by rw[e];rfl
theorem ZwA(s:Sc)(name:ByteArray)(m:Mem)(hr:RepC m s):CX Tryz.prog 161 #[s.v,.string name] m [] (Zyx s name):=by
 apply ZoI
 intro b m1 aV _ b1 m2 bA dF
 have fP:=hr.len
 unfold few at fP
 have cJ:=mLt aV bA
 refine Zax (ZlY s.states s.sa s.sc _ [.pointer (some ⟨b1,0,none⟩)] (λx=>eqS x.s name) m2 (by omega) (hr.row.mono cJ) λx _ m' hm'=>ZuW x name b1 m' (dF.mono hm')) λm3 bR=>?_
 have eG:=mLt cJ bR
 cases h:s.states.any (λx=>eqS x.s name)with
 | true=>
  refine⟨!s.light,ZdE (decide_eq_false (by simp)) ?_,Zab (λhl=>Zac eG ⟨_,by unfold Zka;rw[h];simp at hl;rw[hl];rfl⟩) (λhl=>Zac eG ⟨_,by unfold Zka;rw[h];simp at hl;rw[hl];rfl⟩)⟩
  exact Zag (ZkI s m3 (hr.mono eG)) λm4 cO=>⟨by trivial,rfl⟩
 | false=>
  refine⟨true,Zjr rfl ⟨by trivial,rfl⟩,Zjr rfl (Zac eG ⟨_,by unfold Zka;rw[h];rfl⟩)⟩
def Zzm(a:Int×Nat×List Value):List Value:=[.int .i64 a.1,.func (.func a.2.1) #[] a.2.2.toArray]
theorem ZuX(a:Int×Nat×List Value):(Zzm a).length=2:=rfl
theorem Zf6(l:List ((Int×Nat×List Value)×Bool))(a:Option Addr)(c:Nat)(m:Mem)(hl:l.length<=100000)(hr:rowRd m a (l.map λx=>Zzm x.1).flatten)
  (hp:∀x∈l,∀m',m.le m'->CX Tryz.prog x.1.2.1 x.1.2.2.toArray m' [] (Ret (.bool x.2))):
  CX Tryz.prog 144 #[.slice a l.length c] m [] (Ret (.int .i64 (Zb6 (l.map λx=>(x.1.1,x.2))))):=by
 apply Ziq a l.length c
 refine⟨λxs _ _ m'' q=>∃i:Nat,i<=l.length/\xs=[.int .i64 0,.int .i64 i]/\Zb6 (l.map λx=>(x.1.1,x.2))=Zb6 ((l.drop i).map λx=>(x.1.1,x.2))/\q=l.length - i,⟨l.length,0,by omega,rfl,rfl,by omega⟩,?_⟩
 rintro n k m1 q aV ⟨i,hi,hx,he,hq⟩
 simp only[List.cons.injEq,Value.int.injEq,and_true,true_and]at hx
 obtain⟨rfl,rfl⟩:=hx
 refine Zaw (λbB=>?_) (λdB=>?_)
 ·have bQ:i < l.length:=by have:(i:Int) < (l.length:Int):=bB;omega
  obtain⟨x,hx⟩:=Zc9 bQ
  have hd:l.drop i=x::l.drop (i+1):=by
   rw[List.drop_eq_getElem_cons bQ,(List.getElem?_eq_some_iff.1 hx).2]
  obtain⟨b1,o1,ha,eW⟩:=Zam (cs:=λx:(Int×Nat×List Value)×Bool=>Zzm x.1) (λx=>ZuX x.1) (hr.mono aV) hx (by omega)
  refine⟨b1,o1,ha,⟨by omega,by show(i:Int) < (l.length:Int);omega⟩,_,_,eW,λb2=>Zaa rfl ⟨_,_,_,rfl,?_⟩⟩
  refine Zag (hp x (List.mem_of_getElem? hx) m1 aV) λm2 bA=>Zab (λh=>Zac (mLt aV bA) ?_) (λh=>?_)
  ·show Value.int _ _=Value.int _ _
   rw[he,hd,List.map_cons,Zb6,if_pos h]
  ·refine⟨l.length - (i+1),by omega,i+1,by omega,by rw[Zal (by omega) (by omega)];rfl,?_,rfl⟩
   rw[he,hd,List.map_cons,Zb6,if_neg (by rw[h];decide)]
 ·have hi':i=l.length:=by have:¬(i:Int) < (l.length:Int):=dB;omega
  refine Zac aV ?_
  show Value.int _ _=Value.int _ _
  rw[he,hi',List.drop_length];rfl
theorem Zs2(v:Va)(m:Mem):CX Tryz.prog 147 #[.agg #[.bool v.b,.string v.t,.float .f64 v.x]] m [] (Ret (.bool (Zfe v))):=by
 apply Zko
 intro b m1 aV _
 refine Zab (λhb=>⟨Zfe v,Zag (Zo0 v.x m1) λm2 bA=>Zab (λh=>⟨by trivial,Zae ?_⟩) (λh=>⟨by trivial,Zae ?_⟩),Zac aV rfl⟩) (λhb=>⟨Zfe v,⟨_,ZoZ v.x,Zaa rfl (Zab (λh=>⟨by trivial,Zae ?_⟩) (λh=>⟨by trivial,Zae ?_⟩))⟩,Zac aV rfl⟩)
 ·unfold Zfe;rw[hb,if_pos rfl,h,Zb5];rfl
 ·unfold Zfe;rw[hb,if_pos rfl,h];rfl
 ·unfold Zfe;rw[hb,if_neg (by decide)]
  have:v.x=0:=by
   have h2:=eq_of_beq (show((v.x:Int) == 0)=true from h);omega
  rw[this]
  show decide ((v.t.size:Int)<=512)=(true&&decide (v.t.size<=512))
  rw[Bool.true_and,decide_eq_decide];omega
 ·unfold Zfe;rw[hb,if_neg (by decide)]
  have:¬v.x=0:=by
   intro e
   have h2:((v.x:Int) == 0)=false:=h
   rw[e]at h2;simp at h2
  rw[beq_eq_false_iff_ne.2 this];rfl
theorem ZkJ(p q:Pt)(b:Nat)(m:Mem)(hq:RepP m q)(hb:m.reads b 0 q.cs):CX Tryz.prog 189 #[p.v,.pointer (some ⟨b,0,none⟩)] m [] (Ret (.bool (q.s.toList == p.s.toList&&(q.g == p.g&&(p.k == 4||Zpz q.e))))):=by
 apply Zc5 (c0b:=b) (c0o:=0)
 intro b1 m1 aV _
 have dF:=hb.mono aV
 refine⟨q.s.toList == p.s.toList&&(q.g == p.g&&(p.k == 4||Zpz q.e)),⟨_,dF 1 _ rfl,Zaa rfl (Zab (λh=>⟨_,dF 2 _ rfl,Zaa rfl (Zab (λh2=>Zab (λh3=>⟨by trivial,Zae ?_⟩) (λh3=>⟨q.e.k |> Value.int .u8,.float .f64 q.e.x,.string q.e.s,.int .i64 q.e.g,.slice q.e.a q.e.subs.length q.e.c,?_,?_⟩)) (λh2=>⟨by trivial,Zae ?_⟩))⟩) (λh=>⟨by trivial,Zae ?_⟩))⟩,Zac aV rfl⟩
 ·have h:(q.s.toList == p.s.toList)=true:=h
  have h2:(q.g == p.g)=true:=h2
  rw[h,h2,h3];rfl
 ·exact λi v hi=>by
   have:=dF (3+i) v (by unfold Pt.cs;rw[show 3+i=i+3 from by omega];exact hi)
   rw[show 0+3+i=0+(3+i) from by omega];exact this
 ·have h:(q.s.toList == p.s.toList)=true:=h
  have h2:(q.g == p.g)=true:=h2
  refine Zag (Zrv q.e E0 m1 (RepE.mono aV _ hq.e) (ZvA m1)) λm2 bA=>⟨by trivial,Zae ?_⟩
  rw[h,h2,h3];rfl
 ·have h:(q.s.toList == p.s.toList)=true:=h
  have h2:(q.g == p.g)=false:=h2
  rw[h,h2];rfl
 ·have h:(q.s.toList == p.s.toList)=false:=h
  rw[h];rfl
theorem Zm1(p:Pt)(m:Mem)(hp:RepP m p):CX Tryz.prog 172 #[p.v] m [] (Ret (.bool (ZbA p))):=by
 apply ZdA
 intro b m1 aV hb
 have tg:=hp.mono aV
 have one:=λ(p':Pt)(M:Mem)(hM:m1.le M)=>ZkJ p' p b M (tg.mono hM) (hb.mono hM)
 have jS:∀x:ByteArray,((⟨#[]⟩:ByteArray).toList == x.toList)=(x.size == 0):=λx=>by rw[<-Zb5,Bool.beq_comm]
 refine Zab (λh1=>⟨ZbA p,Zaw (λh2=>Zaw (λh3=>Zag (one ⟨p.k,p.s,0,E0⟩ m1 (Mem.le_refl _)) λm2 bA=>⟨by trivial,Zae ?_⟩) (λh3=>⟨by trivial,Zae ?_⟩)) (λh2=>⟨by trivial,Zae ?_⟩),Zac aV rfl⟩)
  (λh1=>Zab (λh2=>⟨ZbA p,Zag (Zhw p.s hp.s m1) λm2 bA=>Zab (λh3=>Zag (one ⟨p.k,p.s,0,E0⟩ m2 bA) λm3 bR=>⟨by trivial,Zae ?_⟩) (λh3=>⟨by trivial,Zae ?_⟩),Zac aV rfl⟩)
   (λh2=>Zab (λh3=>⟨ZbA p,Zaw (λh4=>Zaw (λh5=>Zag (one ⟨p.k,⟨#[]⟩,p.g,E0⟩ m1 (Mem.le_refl _)) λm2 bA=>⟨by trivial,Zae ?_⟩) (λh5=>⟨by trivial,Zae ?_⟩)) (λh4=>⟨by trivial,Zae ?_⟩),Zac aV rfl⟩)
    (λh3=>Zab (λh4=>⟨ZbA p,Zag (Zo2 p.e m1 (RepE.mono aV _ hp.e)) λm2 bA=>Zab (λh5=>Zag (one ⟨p.k,⟨#[]⟩,0,E0⟩ m2 bA) λm3 bR=>⟨by trivial,Zae ?_⟩) (λh5=>⟨by trivial,Zae ?_⟩),Zac aV rfl⟩) (λh4=>Zac aV ?_))))
 ·have k1:p.k=1:=by simpa using h1
  have g2:p.s.size > 0:=by omega
  have g3:p.s.size<=512:=by omega
  unfold ZbA;simp[k1,g2,g3]
 ·have k1:p.k=1:=by simpa using h1
  have g3:¬p.s.size<=512:=by omega
  unfold ZbA;rw[if_pos k1,decide_eq_false g3];simp
 ·have k1:p.k=1:=by simpa using h1
  have g2:¬p.s.size > 0:=by omega
  unfold ZbA;rw[if_pos k1,decide_eq_false g2];rfl
 ·have k2:p.k=2:=by simpa using h2
  unfold ZbA;simp[k2,h3]
 ·have k2:p.k=2:=by simpa using h2
  unfold ZbA;simp[k2,h3]
 ·have k3:p.k=3:=by simpa using h3
  unfold ZbA;rw[if_neg (by omega),if_neg (by omega),if_pos k3,decide_eq_true h4,decide_eq_true h5,Zb5];simp[k3]
 ·have k3:p.k=3:=by simpa using h3
  unfold ZbA;rw[if_neg (by omega),if_neg (by omega),if_pos k3,decide_eq_false h5];simp
 ·have k3:p.k=3:=by simpa using h3
  unfold ZbA;rw[if_neg (by omega),if_neg (by omega),if_pos k3,decide_eq_false h4];simp
 ·have k4:p.k=4:=by simpa using h4
  unfold ZbA;rw[if_neg (by omega),if_neg (by omega),if_neg (by omega),if_pos k4,h5,Zb5];simp[k4]
 ·have k4:p.k=4:=by simpa using h4
  unfold ZbA;rw[if_neg (by omega),if_neg (by omega),if_neg (by omega),if_pos k4,h5];rfl
 ·have k1:¬p.k=1:=by simpa using h1
  have k2:¬p.k=2:=by simpa using h2
  have k3:¬p.k=3:=by simpa using h3
  have k4:¬p.k=4:=by simpa using h4
  show Value.bool false=Value.bool (ZbA p)
  unfold ZbA;rw[if_neg k1,if_neg k2,if_neg k3,if_neg k4]
theorem Zs3(r:Ru)(m:Mem)(hr:RepR m r):CX Tryz.prog 157 #[.agg r.cs.toArray] m [] (Ret (.bool (Za4 r))):=by
 apply Zg9
 intro b m1 aV _
 refine⟨Zw9 r,Zab (λh=>⟨by trivial,Zae ?_⟩) (λh=>Zab (λh2=>⟨by trivial,Zae ?_⟩) (λh2=>Zag (Zwt r.t T0 m1 (hr.t.mono aV) (ZxM m1)) λm2 bA=>⟨by trivial,Zae ?_⟩)),?_⟩
 ·unfold Zw9;rw[h];rfl
 ·unfold Zw9;rw[h,h2];rfl
 ·unfold Zw9;rw[h,h2];rfl
 refine Zab (λk2=>?_) (λk2=>Zab (λk4=>?_) (λk4=>Zab (λk3=>?_) (λk3=>Zab (λk1=>?_) (λk1=>?_))))
 ·have k2:r.k=2:=by simpa using k2
  refine⟨Za4 r,Zab (λh=>Zab (λh2=>Zag (Zep r.s.size 1 64 m1) λm2 bA=>⟨by trivial,Zae ?_⟩) (λh2=>⟨by trivial,Zae ?_⟩)) (λh=>⟨by trivial,Zae ?_⟩),Zac aV rfl⟩
  ·unfold Za4;rw[if_pos k2,h,show(r.n == 0)=true from h2];rfl
  ·unfold Za4;rw[if_pos k2,h,show(r.n == 0)=false from h2];rfl
  ·unfold Za4;rw[if_pos k2,h];rfl
 ·have k2:¬r.k=2:=by simpa using k2
  have k4:r.k=4:=by simpa using k4
  refine⟨Za4 r,Zab (λh=>Zab (λh2=>Zag (Zep r.n 1 1000 m1) λm2 bA=>⟨by trivial,Zae ?_⟩) (λh2=>⟨by trivial,Zae ?_⟩)) (λh=>⟨by trivial,Zae ?_⟩),Zac aV rfl⟩
  ·rw[Zb5]at h2;unfold Za4;rw[if_neg k2,if_pos k4,h,h2];rfl
  ·rw[Zb5]at h2;unfold Za4;rw[if_neg k2,if_pos k4,h,h2];rfl
  ·unfold Za4;rw[if_neg k2,if_pos k4,h];rfl
 ·have k2:¬r.k=2:=by simpa using k2
  have k4:¬r.k=4:=by simpa using k4
  have k3:r.k=3:=by simpa using k3
  refine Zab (λh=>Zac aV ?_) (λh=>⟨Za4 r,Zab (λh2=>⟨by trivial,Zae ?_⟩) (λh2=>⟨by trivial,Zae ?_⟩),Zac aV rfl⟩)
  ·show Value.bool false=Value.bool (Za4 r)
   unfold Za4;rw[if_neg k2,if_neg k4,if_pos k3,h];rfl
  ·rw[Zb5]at h2;unfold Za4;rw[if_neg k2,if_neg k4,if_pos k3,h,h2];rfl
  ·rw[Zb5]at h2;unfold Za4;rw[if_neg k2,if_neg k4,if_pos k3,h,h2];rfl
 ·have k2:¬r.k=2:=by simpa using k2
  have k4:¬r.k=4:=by simpa using k4
  have k3:¬r.k=3:=by simpa using k3
  have k1:r.k=1:=by simpa using k1
  refine⟨Za4 r,Zab (λh2=>⟨by trivial,Zae ?_⟩) (λh2=>⟨by trivial,Zae ?_⟩),Zac aV rfl⟩
  ·rw[Zb5]at h2;unfold Za4;rw[if_neg k2,if_neg k4,if_neg k3,if_pos k1,h2];rfl
  ·rw[Zb5]at h2;unfold Za4;rw[if_neg k2,if_neg k4,if_neg k3,if_pos k1,h2];rfl
 ·have k2:¬r.k=2:=by simpa using k2
  have k4:¬r.k=4:=by simpa using k4
  have k3:¬r.k=3:=by simpa using k3
  have k1:¬r.k=1:=by simpa using k1
  refine Zac aV ?_
  show Value.bool false=Value.bool (Za4 r)
  unfold Za4;rw[if_neg k2,if_neg k4,if_neg k3,if_neg k1]
theorem Zcj{m:Mem}{b o:Nat}{cs:List Value}(h:m.reads b o cs)(k n:Nat):m.reads b (o+k) ((cs.drop k).take n):=λi v hi=>by
 rw[Nat.add_assoc]
 refine h (k+i) v ?_
 rw[List.getElem?_take]at hi
 split at hi
 ·rwa [List.getElem?_drop]at hi
 ·cases hi
theorem Zo7{α:Type}{cs:α->List Value}{m:Mem}{a:Option Addr}{L:List α}(h:rowRd m a (L.map cs).flatten)(k:Nat):rowRd m a ((L.take k).map cs).flatten:=by
 have e:(L.map cs).flatten=((L.take k).map cs).flatten++((L.drop k).map cs).flatten:=by
  rw[<-List.flatten_append,<-List.map_append,List.take_append_drop]
 rw[e]at h
 rcases h with h|⟨b,o,ha,h⟩
 ·exact .inl (List.append_eq_nil_iff.1 h).1
 ·refine .inr ⟨b,o,ha,λj v hj=>h j v ?_⟩
  rw[List.getElem?_append_left (List.getElem?_eq_some_iff.1 hj).1];exact hj
section
variable {m:Mem} {b:Nat}
theorem Zs4(s:Sc)(hb:m.reads b 0 s.cs):CX Tryz.prog 150 #[.pointer (some ⟨b,0,none⟩)] m [] (Ret (.bool (!Zbl s.n 2 256))):=by
 apply Zgh (c0b:=b) (c0o:=0)
 refine⟨_,hb 0 _ rfl,Zag (Zep s.n 2 256 m) λm1 aV=>Zac aV rfl⟩
theorem Zs5(s:Sc)(hb:m.reads b 0 s.cs):CX Tryz.prog 152 #[.pointer (some ⟨b,0,none⟩)] m [] (Ret (.bool (!Zbl s.states.length 1 24||decide (s.vars.length > 12)))):=by
 apply Zgi (c0b:=b) (c0o:=0)
 refine⟨!Zbl s.states.length 1 24||decide (s.vars.length > 12),⟨_,hb 2 _ rfl,Zaa rfl (Zag (Zep s.states.length 1 24 m) λm1 aV=>Zab (λh=>Zae ?_) (λh=>⟨_,(hb.mono aV) 1 _ rfl,Zaa rfl (Zae ?_)⟩))⟩,Zac (Mem.le_refl m) rfl⟩
 ·rw[h];rfl
 ·rw[h]
  show decide ((s.vars.length:Int) > 12)=(false||decide (s.vars.length > 12))
  rw[Bool.false_or,decide_eq_decide];omega
theorem ZuY(s:Sc)(hr:RepC m s):CX Tryz.prog 137 #[s.v] m [] (Ret (.int .i64 (Zqh s))):=by
 apply Ziu
 intro b m1 aV hb b1 hf
 have cJ:=Mem.le_add hf ([.int .i64 300,.func (.func 150) #[] #[.pointer (some ⟨b,0,none⟩)],.int .i64 302,.func (.func 152) #[] #[.pointer (some ⟨b,0,none⟩)]])
 refine Zax (Zf6 [((300,150,[.pointer (some ⟨b,0,none⟩)]),!Zbl s.n 2 256),((302,152,[.pointer (some ⟨b,0,none⟩)]),!Zbl s.states.length 1 24||decide (s.vars.length > 12))] _ 2 _ (by simp) (.inr ⟨b1,0,rfl,Zb1 m1 b1 _⟩) λx hx m' hm'=>?_) λm2 bA=>Zac (mLt aV (mLt cJ bA)) rfl
 have hb':=hb.mono (mLt cJ hm')
 simp only[List.mem_cons,List.not_mem_nil,or_false]at hx
 rcases hx with rfl|rfl
 ·exact Zs4 s hb'
 ·exact Zs5 s hb'
theorem ZkK(v x:Va)(m:Mem)(b:Nat)(hb:m.reads b 0 v.cs):CX Tryz.prog 149 #[.agg x.cs.toArray,.pointer (some ⟨b,0,none⟩)] m [] (Ret (.bool (eqS x.s v.s))):=by
 apply ZdB (c0b:=b) (c0o:=0)
 intro b1 m1 aV _
 exact⟨_,(hb.mono aV) 0 _ rfl,Zaa rfl (Zac aV rfl)⟩
theorem Zm2(s:Sc)(i:Nat)(v:Va)(m:Mem)(b0 b1 b2:Nat)(hr:RepC m s)(hi:i<=s.vars.length)(hv:RepV v)(h0:m.reads b0 0 v.cs)(h1:m.reads b1 0 s.cs)(h2:m.reads b2 0 [.int .i64 i]):
  CX Tryz.prog 145 #[.pointer (some ⟨b0,0,none⟩),.pointer (some ⟨b1,0,none⟩),.pointer (some ⟨b2,0,none⟩)] m [] (Ret (.bool (!Zcv v.s||(!Zfe v||(s.vars.take i).any λx=>eqS x.s v.s)))):=by
 apply Zem (c0b:=b0) (c0o:=0) (c1b:=b1) (c1o:=0) (c2b:=b2) (c2o:=0)
 have fS:=hr.vlen
 unfold few at fS
 refine⟨_,h0 0 _ rfl,Zag (Zhw v.s hv.s m) λm1 aV=>Zab (λh=>Zac aV ?_) (λh=>⟨_,_,_,Zcj (h0.mono aV) 1 3,Zag (Zs2 v m1) λm2 bA=>Zab (λh'=>Zac (mLt aV bA) ?_) (λh'=>?_)⟩)⟩
 ·show Value.bool true=Value.bool _
  rw[h];rfl
 ·show Value.bool true=Value.bool _
  rw[h,h'];rfl
 ·have hm:=mLt aV bA
  have hc:=hr.vcap
  have key:=ZsZ (s.vars.take i) s.va s.vc 149 [.pointer (some ⟨b0,0,none⟩)] (λx=>eqS x.s v.s) m2 (by rw[List.length_take];omega) (Zo7 (hr.vrow.mono hm) i) λx _ m' hm'=>ZkK v x m' b0 (h0.mono (mLt hm hm'))
  rw[List.length_take,Nat.min_eq_left hi]at key
  refine⟨_,(h1.mono hm) 1 _ rfl,_,(h2.mono hm) 0 _ rfl,Zaa rfl (Zaa rfl ⟨⟨Int.natCast_nonneg i,by show(i:Int)<=(s.vc:Int);omega⟩,Zag key λm3 bR=>Zac (mLt hm bR) ?_⟩)⟩
  show Value.bool _=Value.bool _
  rw[h,h'];rfl
theorem Zo8(s:Sc)(i:Nat)(v:Va)(m:Mem)(hr:RepC m s)(hi:s.vars[i]?=some v):CX Tryz.prog 136 #[s.v,.int .i64 i] m [] (Ret (.int .i64 (Zff s i v))):=by
 apply Zfl
 intro b m1 aV hb b1 m2 bA dF
 have fS:=hr.vlen
 unfold few at fS
 have bB:=(List.getElem?_eq_some_iff.1 hi).1
 have cJ:=mLt aV bA
 obtain⟨b2,o2,ha,hx⟩:=Zam Va.len (hr.vrow.mono cJ) hi (by omega)
 refine⟨b2,o2,ha,⟨by omega,by omega⟩,_,_,_,_,hx,λb3=>Zaa rfl λb4 hf m3 bR fB=>?_⟩
 have lU:=mLt (Mem.le_add hf _) bR
 have eG:=mLt cJ lU
 refine Zax (Zf6 [((301,145,[.pointer (some ⟨b3,0,none⟩),.pointer (some ⟨b,0,none⟩),.pointer (some ⟨b1,0,none⟩)]),!Zcv v.s||(!Zfe v||(s.vars.take i).any λx=>eqS x.s v.s))] _ 1 _ (by simp) (.inr ⟨b4,0,rfl,(Zb1 m2 b4 _).mono bR⟩) λx hx m' hm'=>?_) λm4 cO=>Zac (mLt eG cO) rfl
 simp only[List.mem_cons,List.not_mem_nil,or_false]at hx
 subst hx
 have hl':=mLt lU hm'
 exact Zm2 s i v m' b3 b b1 (hr.mono (mLt eG hm')) (by omega) (hr.vall v (List.mem_of_getElem? hi)) (fB.mono hm') (hb.mono (mLt bA hl')) (dF.mono hl')
theorem Zqv(v x:Sta)(m:Mem)(b:Nat)(hb:m.reads b 0 v.cs):CX Tryz.prog 155 #[.agg x.cs.toArray,.pointer (some ⟨b,0,none⟩)] m [] (Ret (.bool (eqS x.s v.s))):=by
 apply ZeO (c0b:=b) (c0o:=0)
 intro b1 m1 aV _
 exact⟨_,(hb.mono aV) 0 _ rfl,Zaa rfl (Zac aV rfl)⟩
theorem Zs6(s:Sc)(i:Nat)(v:Sta)(m:Mem)(b0 b1 b2:Nat)(hr:RepC m s)(hi:i<=s.states.length)(hv:RepS m v)(h0:m.reads b0 0 v.cs)(h1:m.reads b1 0 s.cs)(h2:m.reads b2 0 [.int .i64 i]):
  CX Tryz.prog 153 #[.pointer (some ⟨b0,0,none⟩),.pointer (some ⟨b1,0,none⟩),.pointer (some ⟨b2,0,none⟩)] m [] (Ret (.bool (!Zcv v.s||(decide (v.rules.length > 12)||(s.states.take i).any λx=>eqS x.s v.s)))):=by
 apply Zgk (c0b:=b0) (c0o:=0) (c1b:=b1) (c1o:=0) (c2b:=b2) (c2o:=0)
 have fS:=hr.len
 unfold few at fS
 refine⟨_,h0 0 _ rfl,Zag (Zhw v.s hv.s m) λm1 aV=>Zab (λh=>Zac aV ?_) (λh=>⟨_,(h0.mono aV) 1 _ rfl,Zaa rfl (Zaw (λh'=>Zac aV ?_) (λh'=>?_))⟩)⟩
 ·show Value.bool true=Value.bool _
  rw[h];rfl
 ·have h':(v.rules.length:Int) > 12:=h'
  show Value.bool true=Value.bool _
  rw[h,decide_eq_true (by omega)];rfl
 ·have h':¬(v.rules.length:Int) > 12:=h'
  have hc:=hr.scap
  have key:=ZsY (s.states.take i) s.sa s.sc 155 [.pointer (some ⟨b0,0,none⟩)] (λx=>eqS x.s v.s) m1 (by rw[List.length_take];omega) (Zo7 (hr.row.mono aV) i) λx _ m' hm'=>Zqv v x m' b0 (h0.mono (mLt aV hm'))
  rw[List.length_take,Nat.min_eq_left hi]at key
  refine⟨_,(h1.mono aV) 2 _ rfl,_,(h2.mono aV) 0 _ rfl,Zaa rfl (Zaa rfl ⟨⟨Int.natCast_nonneg i,by show(i:Int)<=(s.sc:Int);omega⟩,Zag key λm3 bR=>Zac (mLt aV bR) ?_⟩)⟩
  show Value.bool _=Value.bool _
  rw[h,decide_eq_false (by omega)];rfl
theorem ZuZ(s:Sc)(i:Nat)(v:Sta)(m:Mem)(hr:RepC m s)(hi:s.states[i]?=some v):CX Tryz.prog 138 #[s.v,.int .i64 i] m [] (Ret (.int .i64 (Zou s i v))):=by
 apply Ziv
 intro b m1 aV hb b1 m2 bA dF
 have fS:=hr.len
 unfold few at fS
 have bB:=(List.getElem?_eq_some_iff.1 hi).1
 have cJ:=mLt aV bA
 obtain⟨b2,o2,ha,hx⟩:=Zam Sta.len (hr.row.mono cJ) hi (by omega)
 refine⟨b2,o2,ha,⟨by omega,by omega⟩,_,_,hx,λb3=>Zaa rfl λb4 hf m3 bR fB=>?_⟩
 have lU:=mLt (Mem.le_add hf _) bR
 have eG:=mLt cJ lU
 refine Zax (Zf6 [((303,153,[.pointer (some ⟨b3,0,none⟩),.pointer (some ⟨b,0,none⟩),.pointer (some ⟨b1,0,none⟩)]),!Zcv v.s||(decide (v.rules.length > 12)||(s.states.take i).any λx=>eqS x.s v.s))] _ 1 _ (by simp) (.inr ⟨b4,0,rfl,(Zb1 m2 b4 _).mono bR⟩) λx hx m' hm'=>?_) λm4 cO=>Zac (mLt eG cO) rfl
 simp only[List.mem_cons,List.not_mem_nil,or_false]at hx
 subst hx
 have hl':=mLt lU hm'
 have h0':=mLt eG hm'
 exact Zs6 s i v m' b3 b b1 (hr.mono h0') (by omega) ((hr.all v (List.mem_of_getElem? hi)).mono h0') (fB.mono hm') (hb.mono (mLt bA hl')) (dF.mono hl')
theorem Zu0(r:Ru)(m:Mem)(b:Nat)(hr:RepR m r)(hb:m.reads b 0 r.cs):CX Tryz.prog 156 #[.pointer (some ⟨b,0,none⟩)] m [] (Ret (.bool (!Za4 r||decide (r.acts.length > 8)))):=by
 apply Zhd (c0b:=b) (c0o:=0)
 refine⟨!Za4 r||decide (r.acts.length > 8),⟨_,_,_,_,_,_,_,_,_,_,_,_,_,_,_,_,hb,Zag (Zs3 r m hr) λm1 aV=>Zab (λh=>Zae ?_) (λh=>⟨_,(hb.mono aV) 13 _ rfl,Zaa rfl (Zae ?_)⟩)⟩,Zac (Mem.le_refl m) rfl⟩
 ·rw[h];rfl
 ·rw[h]
  show decide ((r.acts.length:Int) > 8)=(false||decide (r.acts.length > 8))
  rw[Bool.false_or,decide_eq_decide];omega
theorem Zu1(r:Ru)(total:Int)(m:Mem)(b b1:Nat)(hr:RepR m r)(hb:m.reads b 0 r.cs)(dF:m.reads b1 0 [.int .i64 total]):CX Tryz.prog 158 #[.pointer (some ⟨b,0,none⟩),.pointer (some ⟨b1,0,none⟩)] m [] (Ret (.bool (r.k == 1&&(!(r.t.check == 0)||decide (total > 600))))):=by
 apply Zhe (c0b:=b) (c0o:=0) (c1b:=b1) (c1o:=0)
 refine⟨r.k == 1&&(!(r.t.check == 0)||decide (total > 600)),⟨_,hb 0 _ rfl,Zaa rfl (Zab (λh=>⟨_,_,_,_,_,_,_,_,_,_,Zcj hb 1 10,Zax (ZuL r.bg r.en r.t m hr.t) λm1 aV=>Zab (λh2=>Zae ?_) (λh2=>⟨_,(dF.mono aV) 0 _ rfl,Zaa rfl (Zae ?_)⟩)⟩) (λh=>Zae ?_))⟩,Zac (Mem.le_refl m) rfl⟩
 ·rw[show(r.k == 1)=true from h,h2];rfl
 ·rw[show(r.k == 1)=true from h,h2];rfl
 ·rw[show(r.k == 1)=false from h];rfl
theorem Zu2(s:Sc)(r:Ru)(m:Mem)(b b1:Nat)(hs:RepC m s)(hr:RepR m r)(hb:m.reads b 0 s.cs)(dF:m.reads b1 0 r.cs):CX Tryz.prog 160 #[.pointer (some ⟨b,0,none⟩),.pointer (some ⟨b1,0,none⟩)] m [] (Ret (.bool (if r.go.size=0 then !Zbl r.code 0 255 else !Zka s r.go||!(r.code == 0)))):=by
 apply Zhf (c0b:=b) (c0o:=0) (c1b:=b1) (c1o:=0)
 refine⟨_,_,_,hb,_,dF 14 _ rfl,Zai (ZwA s r.go m hs) Zs1 ?_⟩
 rintro n ok m1 aV ⟨n',hv⟩
 have cV:ok=Zka s r.go:=by
  have hv:Value.tuple (Array.mk [Value.int .i64 n,Value.bool ok])=Value.tuple #[.int .i64 n',.bool (Zka s r.go)]:=hv
  simp only[Value.tuple.injEq,Array.mk.injEq,List.cons.injEq,Value.bool.injEq,and_true]at hv
  exact hv.2
 subst cV
 refine⟨_,(dF.mono aV) 14 _ rfl,Zaa rfl (Zab (λh=>⟨_,(dF.mono aV) 15 _ rfl,Zag (Zep r.code 0 255 m1) λm2 bA=>Zac (mLt aV bA) ?_⟩) (λh=>⟨!Zka s r.go||!(r.code == 0),Zab (λh2=>Zae ?_) (λh2=>⟨_,(dF.mono aV) 15 _ rfl,Zaa rfl (Zae ?_)⟩),Zac aV ?_⟩))⟩
 ·have h:(r.go.size == 0)=true:=by rw[<-Zb5];exact h
  show Value.bool _=Value.bool _
  rw[if_pos (by simpa using h)]
 ·rw[h2];rfl
 ·rw[h2];rfl
 ·have h:(r.go.size == 0)=false:=by rw[<-Zb5];exact h
  show Value.bool _=Value.bool _
  rw[if_neg (by simpa using h)]
theorem ZwB(s:Sc)(r:Ru)(total:Int)(m:Mem)(hs:RepC m s)(hr:RepR m r):CX Tryz.prog 139 #[s.v,.agg r.cs.toArray,.int .i64 total] m [] (Ret (.int .i64 (ZpA s r total))):=by
 apply Zku
 intro b m1 aV hb b1 m2 bA dF b2 m3 bR fD b3 hf
 have eG:=mLt aV (mLt bA bR)
 refine Zax (Zf6 [((304,156,[.pointer (some ⟨b1,0,none⟩)]),!Za4 r||decide (r.acts.length > 8)),((305,158,[.pointer (some ⟨b1,0,none⟩),.pointer (some ⟨b2,0,none⟩)]),r.k == 1&&(!(r.t.check == 0)||decide (total > 600))),
  ((306,160,[.pointer (some ⟨b,0,none⟩),.pointer (some ⟨b1,0,none⟩)]),if r.go.size=0 then !Zbl r.code 0 255 else !Zka s r.go||!(r.code == 0))] _ 3 _ (by simp) (.inr ⟨b3,0,rfl,Zb1 m3 b3 _⟩) λx hx m' hm'=>?_) λm4 cO=>Zac (mLt eG (mLt (Mem.le_add hf _) cO)) rfl
 have hl:=mLt (Mem.le_add hf _) hm'
 have h0':=mLt eG hl
 simp only[List.mem_cons,List.not_mem_nil,or_false]at hx
 rcases hx with rfl|rfl|rfl
 ·exact Zu0 r m' b1 (hr.mono h0') (dF.mono (mLt bR hl))
 ·exact Zu1 r total m' b1 b2 (hr.mono h0') (dF.mono (mLt bR hl)) (fD.mono hl)
 ·exact Zu2 s r m' b b1 (hs.mono h0') (hr.mono h0') (hb.mono (mLt bA (mLt bR hl))) (dF.mono (mLt bR hl))
end
def Zt2(a:Ac):Bool:=!Zbl a.k 1 3||(a.k == 1&&!(a.s.size == 0))||(a.k == 3&&decide (a.parts.length > 0))||(a.k == 3&&!a.e.clean)||(!(a.k == 3)&&!Zpz a.e)||decide (a.parts.length > 16)
theorem Zqw(a:Ac)(m:Mem)(b b1:Nat)(hr:RepA m a)(hb:m.reads b 0 a.cs)(dF:m.reads b1 0 [.bool (a.k == 3)]):CX Tryz.prog 162 #[.pointer (some ⟨b,0,none⟩),.pointer (some ⟨b1,0,none⟩)] m [] (Ret (.bool (Zt2 a))):=by
 apply Zfn (c0b:=b) (c0o:=0) (c1b:=b1) (c1o:=0)
 have hw:IntKind.i64.wrap a.k=a.k:=Zal (by have:=hr.k;omega) (by have:=hr.k;omega)
 have num:∀{M:Mem} {Q:Bool->Prop},m.le M->Q (a.k == 3)->∃v:Value,M.c b1 0=some v/\∃x:Bool,v=.bool x/\Q x:=λhM h=>⟨_,(dF.mono hM) 0 _ rfl,_,rfl,h⟩
 have big:∀{M:Mem},m.le M->Zt2 a=decide (a.parts.length > 16)->∃v:Value,M.c b (0+2)=some v/\chk (Zbi v) ([Value.bool (decide ((slN v:Int) > 16))]=[Value.bool (Zt2 a)]):=λhM h=>⟨_,(hb.mono hM) 2 _ rfl,Zaa rfl (Zae (by
  rw[h]
  show decide ((a.parts.length:Int) > 16)=decide (a.parts.length > 16)
  rw[decide_eq_decide];omega))⟩
 refine⟨Zt2 a,?_,Zac (Mem.le_refl m) rfl⟩
 refine⟨_,hb 0 _ rfl,Zaa rfl ?_⟩
 show ∃R:RT,True/\CX Tryz.prog 151 #[.int .i64 (IntKind.i64.wrap a.k),.int .i64 1,.int .i64 3] m [] R/\_
 rw[hw]
 refine Zag (Zep a.k 1 3 m) λm1 aV=>Zab (λh=>Zae ?_) (λiz=>⟨_,(hb.mono aV) 0 _ rfl,Zaa rfl ?_⟩)
 ·unfold Zt2;rw[h];rfl
 cases hn:(a.k == 3)with
 | true=>
  have hk:a.k=3:=by simpa using hn
  refine ZdE (by show(a.k == 1)=false;rw[hk];rfl) (num aV (Zjr hn ⟨_,(hb.mono aV) 2 _ rfl,Zaa rfl (Zaw (λh=>Zae ?_) (λh=>num aV (Zjr hn ⟨_,_,_,_,_,Zcj (hb.mono aV) 3 5,Zag (Zo2 a.e m1 (RepE.mono aV _ hr.e)) λm2 bA=>Zab (λh2=>Zae ?_) (λh2=>num (mLt aV bA) (ZdE (by rw[hn];rfl) (big (mLt aV bA) ?_)))⟩)))⟩))
  ·have h:(a.parts.length:Int) > 0:=h
   unfold Zt2;rw[hn,decide_eq_true (p:=a.parts.length > 0) (by omega),iz];simp
  ·have h:¬(a.parts.length:Int) > 0:=h
   unfold Zt2;rw[hn,h2];simp
  ·have h:¬(a.parts.length:Int) > 0:=h
   unfold Zt2;rw[hn,h2,iz,decide_eq_false (p:=a.parts.length > 0) (by omega),hk];simp
 | false=>
  refine Zab (λh1=>⟨_,(hb.mono aV) 1 _ rfl,Zaa rfl (Zab (λh=>Zae ?_) (λh=>num aV (ZdE hn (num aV (ZdE hn (num aV (Zjr (by rw[hn];rfl) ⟨_,_,_,_,_,Zcj (hb.mono aV) 3 5,Zag (Zt1 a.e m1 (RepE.mono aV _ hr.e)) λm2 bA=>Zab (λh2=>Zae ?_) (λh2=>big (mLt aV bA) ?_)⟩)))))))⟩)
   (λh1=>num aV (ZdE hn (num aV (ZdE hn (num aV (Zjr (by rw[hn];rfl) ⟨_,_,_,_,_,Zcj (hb.mono aV) 3 5,Zag (Zt1 a.e m1 (RepE.mono aV _ hr.e)) λm2 bA=>Zab (λh2=>Zae ?_) (λh2=>big (mLt aV bA) ?_)⟩))))))
  ·have h1:(a.k == 1)=true:=h1
   have h:(!(a.s.size == 0))=true:=by rw[<-Zb5];exact h
   unfold Zt2;rw[h1,h];simp
  ·unfold Zt2;rw[hn,h2];simp
  ·have h:(!(a.s.size == 0))=false:=by rw[<-Zb5];exact h
   unfold Zt2;rw[hn,h2,h,iz];simp
  ·unfold Zt2;rw[hn,h2];simp
  ·have h1:(a.k == 1)=false:=h1
   unfold Zt2;rw[hn,h2,h1,iz];simp
def ZwC(s:Sc)(a:Ac):Bool:=(!(a.k == 1)&&(!(Zc8 s a.s).2||!((Zc8 s a.s).1 == (a.k == 3))))||(a.k == 3&&!Zds s a.e)
theorem Zqx(s:Sc)(a:Ac)(m:Mem)(b b1 b2:Nat)(hs:RepC m s)(hr:RepA m a)(hb:m.reads b 0 s.cs)(dF:m.reads b1 0 a.cs)(fD:m.reads b2 0 [.bool (a.k == 3)]):
  CX Tryz.prog 165 #[.pointer (some ⟨b,0,none⟩),.pointer (some ⟨b1,0,none⟩),.pointer (some ⟨b2,0,none⟩)] m [] (Ret (.bool (ZwC s a))):=by
 apply Zfo (c0b:=b) (c0o:=0) (c1b:=b1) (c1o:=0) (c2b:=b2) (c2o:=0)
 refine⟨_,_,_,hb,_,dF 1 _ rfl,Zai (Zrx s a.s m hs) (λv _ _ e=>by rw[show v=_ from e];rfl) ?_⟩
 intro x y m1 aV hv
 have hv:Value.tuple (Array.mk [Value.bool x,Value.bool y])=Value.tuple #[.bool (Zc8 s a.s).1,.bool (Zc8 s a.s).2]:=hv
 simp only[Value.tuple.injEq,Array.mk.injEq,List.cons.injEq,Value.bool.injEq,and_true]at hv
 obtain⟨rfl,rfl⟩:=hv
 have num:∀{M:Mem} {Q:Bool->Prop},m.le M->Q (a.k == 3)->∃v:Value,M.c b2 0=some v/\∃x:Bool,v=.bool x/\Q x:=λhM h=>⟨_,(fD.mono hM) 0 _ rfl,_,rfl,h⟩
 have three:ZwC s a=(a.k == 3&&!Zds s a.e)->∃v:Value,m1.c b2 0=some v/\∃x:Bool,v=.bool x/\br x (∃v v4 v5:Value,m1.reads b 0 [v,v4,v5]/\∃v6 v7 v8 v9 v10:Value,m1.reads b1 (0+3) [v6,v7,v8,v9,v10]/\∃R:RT,True/\CX Tryz.prog 167 #[.agg #[v,v4,v5],.agg #[v6,v7,v8,v9,v10]] m1 [] R/\Zap .bool R/\∀(x:Bool)(m':Mem),m1.le m'->R (.bool x) m' []->[Value.bool !x]=[Value.bool (ZwC s a)]) ([Value.bool false]=[Value.bool (ZwC s a)]):=λhe=>num aV (Zab (λh3=>⟨_,_,_,hb.mono aV,_,_,_,_,_,Zcj (dF.mono aV) 3 5,Zag (Zh3 s a.e m1 (hs.mono aV) (RepE.mono aV _ hr.e)) λm2 bA=>Zae (by rw[he,h3];rfl)⟩) (λh3=>Zae (by rw[he,h3];rfl)))
 refine⟨ZwC s a,⟨_,(dF.mono aV) 0 _ rfl,Zaa rfl (Zab (λh1=>Zab (λh2=>Zae ?_) (λh2=>num aV (Zab (λh3=>Zae ?_) (λh3=>three ?_)))) (λh1=>three ?_))⟩,Zac aV rfl⟩
 ·have h1:(!(a.k == 1))=true:=h1
  unfold ZwC;rw[h1,h2];rfl
 ·have h1:(!(a.k == 1))=true:=h1
  unfold ZwC;rw[h1,h3];simp
 ·have h1:(!(a.k == 1))=true:=h1
  unfold ZwC;rw[h1,h2,h3];rfl
 ·have h1:(!(a.k == 1))=false:=h1
  unfold ZwC;rw[h1];rfl
def Zyy(r:Ru)(a:Ac):Bool:=a.k == 3&&decide (a.e.most > Zcb r)
theorem Zqy(r:Ru)(a:Ac)(m:Mem)(b b1 b2:Nat)(hr:RepR m r)(ha:RepA m a)(hb:m.reads b 0 [.bool (a.k == 3)])(dF:m.reads b1 0 a.cs)(fD:m.reads b2 0 r.cs):
  CX Tryz.prog 168 #[.pointer (some ⟨b,0,none⟩),.pointer (some ⟨b1,0,none⟩),.pointer (some ⟨b2,0,none⟩)] m [] (Ret (.bool (Zyy r a))):=by
 apply Zfp (c0b:=b) (c0o:=0) (c1b:=b1) (c1o:=0) (c2b:=b2) (c2o:=0)
 refine⟨λi _ _=>match i with
  | 4=>Ret (.int .i64 a.e.most)
  | _=>Ret (.int .i64 (Zcb r)),_,hb 0 _ rfl,_,rfl,Zab (λh=>?_) (λh M hM _ _=>Zac hM ?_)⟩
 ·refine⟨_,_,_,_,_,Zcj dF 3 5,_,rfl,Zrw a.e m ha.e,λv _ _ e=>by rw[show v=_ from e];rfl,λn m1 aV hn=>?_⟩
  obtain rfl:n=a.e.most:=by cases hn;rfl
  refine⟨_,_,_,_,_,_,_,_,_,_,_,_,_,_,_,_,fD,_,rfl,Zf5 r m1 (hr.t.mono aV),λv _ _ e=>by rw[show v=_ from e];rfl,λn1 m2 bA hn M hM _ _=>Zac hM ?_⟩
  obtain rfl:n1=Zcb r:=by cases hn;rfl
  show Value.bool _=Value.bool (Zyy r a)
  unfold Zyy;rw[h];rfl
 ·show Value.bool _=Value.bool (Zyy r a)
  unfold Zyy;rw[h];rfl
theorem Zs7(s:Sc)(r:Ru)(a:Ac)(m:Mem)(hs:RepC m s)(hr:RepR m r)(ha:RepA m a):CX Tryz.prog 140 #[s.v,.agg r.cs.toArray,.agg a.cs.toArray] m [] (Ret (.int .i64 (ZdL s r a))):=by
 apply Zhg
 intro b m1 aV hb b1 m2 bA dF b2 m3 bR fD b3 b4 hf m4 cO fB
 have eG:=mLt aV (mLt bA bR)
 have lU:=mLt (Mem.le_add hf _) cO
 refine Zax (Zf6 [((307,162,[.pointer (some ⟨b2,0,none⟩),.pointer (some ⟨b3,0,none⟩)]),Zt2 a),((308,165,[.pointer (some ⟨b,0,none⟩),.pointer (some ⟨b2,0,none⟩),.pointer (some ⟨b3,0,none⟩)]),ZwC s a),
  ((309,168,[.pointer (some ⟨b3,0,none⟩),.pointer (some ⟨b2,0,none⟩),.pointer (some ⟨b1,0,none⟩)]),Zyy r a)] _ 3 _ (by simp) (.inr ⟨b4,0,rfl,(Zb1 m3 b4 _).mono cO⟩) λx hx m' hm'=>?_) λm5 dY=>Zac (mLt eG (mLt lU dY)) rfl
 have hl:=mLt lU hm'
 have h0':=mLt eG hl
 simp only[List.mem_cons,List.not_mem_nil,or_false]at hx
 rcases hx with rfl|rfl|rfl
 ·exact Zqw a m' b2 b3 (ha.mono h0') (fD.mono hl) (fB.mono hm')
 ·exact Zqx s a m' b b2 b3 (hs.mono h0') (ha.mono h0') (hb.mono (mLt bA (mLt bR hl))) (fD.mono hl) (fB.mono hm')
 ·exact Zqy r a m' b3 b2 b1 (hr.mono h0') (ha.mono h0') (fB.mono hm') (fD.mono hl) (dF.mono (mLt bR hl))
def Zry(l:List Pt)(i:Nat)(p:Pt):Bool:=!ZbA p||(decide (i > 0)&&(p.k == 1&&(match l[i - 1]? with
 | some q=>q.k == 1
 | none=>false)))
theorem Zu3(l:List Pt)(a:Option Addr)(c:Nat)(i:Nat)(p:Pt)(m:Mem)(b b1 b2:Nat)(hl:l.length<=few)(bF:rowRd m a (l.map Pt.cs).flatten)(hi:i<=l.length)(hp:RepP m p)(hb:m.reads b 0 p.cs)(dF:m.reads b1 0 [.int .i64 i])(fD:m.reads b2 0 [.slice a l.length c]):
  CX Tryz.prog 171 #[.pointer (some ⟨b,0,none⟩),.pointer (some ⟨b1,0,none⟩),.pointer (some ⟨b2,0,none⟩)] m [] (Ret (.bool (Zry l i p))):=by
 apply Zhh (c0b:=b) (c0o:=0) (c1b:=b1) (c1o:=0) (c2b:=b2) (c2o:=0)
 unfold few at hl
 refine⟨Zry l i p,⟨_,_,_,_,_,_,_,_,hb,Zag (Zm1 p m hp) λm1 aV=>Zab (λh=>Zae ?_) (λh=>⟨_,(dF.mono aV) 0 _ rfl,Zaa rfl (Zaw (λh2=>⟨_,(hb.mono aV) 0 _ rfl,Zaa rfl (Zab (λh3=>?_) (λh3=>Zae ?_))⟩) (λh2=>Zae ?_))⟩)⟩,Zac (Mem.le_refl m) rfl⟩
 ·unfold Zry;rw[h];rfl
 ·have h2:(i:Int) > 0:=h2
  have h3:(p.k == 1)=true:=h3
  have bB:i - 1 < l.length:=by omega
  obtain⟨q,hq⟩:=Zc9 bB
  have hw:IntKind.i64.wrap ((i:Int) - 1)=((i - 1:Nat):Int):=by rw[Zal (by omega) (by omega)];omega
  obtain⟨b3,o3,ha,hx⟩:=Zam Pt.len (bF.mono aV) hq (by omega)
  refine⟨_,(fD.mono aV) 0 _ rfl,_,(dF.mono aV) 0 _ rfl,Zaa rfl (Zaa rfl ⟨b3,o3,ha,?_,.int .u8 q.k,?_,Zaa rfl (Zae ?_)⟩)⟩
  ·show Zaf (IntKind.i64.wrap ((i:Int) - 1)) l.length
   rw[hw];exact⟨by omega,by omega⟩
  ·show m1.c b3 (o3+(IntKind.i64.wrap ((i:Int) - 1)).toNat*8+0)=_
   rw[hw,Int.toNat_natCast]
   exact hx 0 _ rfl
  ·show(q.k == 1)=_
   unfold Zry;rw[h,decide_eq_true (p:=i > 0) (by omega),h3,hq];rfl
 ·have h3:(p.k == 1)=false:=h3
  unfold Zry;rw[h,h3];simp
 ·have h2:¬(i:Int) > 0:=h2
  unfold Zry;rw[h,decide_eq_false (p:=i > 0) (by omega)];rfl
def ZpB(s:Sc)(p:Pt):Bool:=(p.k == 2&&!(Zc8 s p.s).2)||(p.k == 4&&!Zds s p.e)
theorem Zu4(s:Sc)(p:Pt)(m:Mem)(b b1:Nat)(hs:RepC m s)(hp:RepP m p)(hb:m.reads b 0 s.cs)(dF:m.reads b1 0 p.cs):
  CX Tryz.prog 173 #[.pointer (some ⟨b,0,none⟩),.pointer (some ⟨b1,0,none⟩)] m [] (Ret (.bool (ZpB s p))):=by
 apply Zhi (c0b:=b) (c0o:=0) (c1b:=b1) (c1o:=0)
 refine⟨_,_,_,hb,_,dF 1 _ rfl,Zai (Zrx s p.s m hs) (λv _ _ e=>by rw[show v=_ from e];rfl) ?_⟩
 intro x y m1 aV hv
 have hv:Value.tuple (Array.mk [Value.bool x,Value.bool y])=Value.tuple #[.bool (Zc8 s p.s).1,.bool (Zc8 s p.s).2]:=hv
 simp only[Value.tuple.injEq,Array.mk.injEq,List.cons.injEq,Value.bool.injEq,and_true]at hv
 obtain⟨rfl,rfl⟩:=hv
 refine⟨ZpB s p,⟨_,(dF.mono aV) 0 _ rfl,Zaa rfl (Zab (λh1=>Zab (λh2=>Zae ?_) (λh2=>⟨_,(dF.mono aV) 0 _ rfl,Zaa rfl (Zab (λh3=>⟨_,_,_,hb.mono aV,_,_,_,_,_,Zcj (dF.mono aV) 3 5,Zag (Zh3 s p.e m1 (hs.mono aV) (RepE.mono aV _ hp.e)) λm2 bA=>Zae ?_⟩) (λh3=>Zae ?_))⟩))
  (λh1=>⟨_,(dF.mono aV) 0 _ rfl,Zaa rfl (Zab (λh3=>⟨_,_,_,hb.mono aV,_,_,_,_,_,Zcj (dF.mono aV) 3 5,Zag (Zh3 s p.e m1 (hs.mono aV) (RepE.mono aV _ hp.e)) λm2 bA=>Zae ?_⟩) (λh3=>Zae ?_))⟩))⟩,Zac aV rfl⟩
 ·have h1:(p.k == 2)=true:=h1
  unfold ZpB;rw[h1,h2];rfl
 ·have h1:(p.k == 2)=true:=h1
  have h3:(p.k == 4)=true:=h3
  unfold ZpB;rw[h1,h2,h3];rfl
 ·have h1:(p.k == 2)=true:=h1
  have h3:(p.k == 4)=false:=h3
  unfold ZpB;rw[h1,h2,h3];rfl
 ·have h1:(p.k == 2)=false:=h1
  have h3:(p.k == 4)=true:=h3
  unfold ZpB;rw[h1,h3];rfl
 ·have h1:(p.k == 2)=false:=h1
  have h3:(p.k == 4)=false:=h3
  unfold ZpB;rw[h1,h3];rfl
def Zni(r:Ru)(p:Pt):Bool:=(p.k == 3&&decide (p.g > Zcb r))||(p.k == 4&&decide (p.e.most > Zcb r))
theorem Zu5(r:Ru)(p:Pt)(m:Mem)(b b1:Nat)(hr:RepR m r)(hp:RepP m p)(hb:m.reads b 0 p.cs)(dF:m.reads b1 0 r.cs):
  CX Tryz.prog 174 #[.pointer (some ⟨b,0,none⟩),.pointer (some ⟨b1,0,none⟩)] m [] (Ret (.bool (Zni r p))):=by
 apply Zhj (c0b:=b) (c0o:=0) (c1b:=b1) (c1o:=0)
 refine⟨λi _ _=>match i with
  | 17=>Ret (.int .i64 p.e.most)
  | _=>Ret (.int .i64 (Zcb r)),_,hb 0 _ rfl,Zaa rfl (Zab (λh3=>?_) (λh3=>?_))⟩
 ·have h3:(p.k == 3)=true:=h3
  have hk:p.k=3:=by simpa using h3
  refine⟨_,hb 2 _ rfl,_,_,_,_,_,_,_,_,_,_,_,_,_,_,_,_,dF,_,rfl,Zf5 r m hr.t,λv _ _ e=>by rw[show v=_ from e];rfl,λn m1 aV hn=>?_⟩
  obtain rfl:n=Zcb r:=by cases hn;rfl
  refine Zaa rfl (Zaw (λh=>λM hM _ _ _=>Zac hM ?_) (λh=>⟨_,(hb.mono aV) 0 _ rfl,Zaa rfl (ZdE (by show(p.k == 4)=false;rw[hk];rfl) λM hM _ _ _=>Zac hM ?_)⟩))
  ·have h:p.g > Zcb r:=h
   show Value.bool _=Value.bool (Zni r p)
   unfold Zni;rw[h3,decide_eq_true h];rfl
  ·have h:¬p.g > Zcb r:=h
   show Value.bool _=Value.bool (Zni r p)
   unfold Zni;rw[decide_eq_false h,hk];rfl
 ·have h3:(p.k == 3)=false:=h3
  refine⟨_,hb 0 _ rfl,Zaa rfl (Zab (λh4=>?_) (λh4 M hM _ _ _=>Zac hM ?_))⟩
  ·have h4:(p.k == 4)=true:=h4
   refine⟨_,_,_,_,_,Zcj hb 3 5,_,rfl,Zrw p.e m hp.e,λv _ _ e=>by rw[show v=_ from e];rfl,λn m1 aV hn=>?_⟩
   obtain rfl:n=p.e.most:=by cases hn;rfl
   refine⟨_,_,_,_,_,_,_,_,_,_,_,_,_,_,_,_,dF,_,rfl,Zf5 r m1 (hr.t.mono aV),λv _ _ e=>by rw[show v=_ from e];rfl,λn1 m2 bA hn M hM _ _ _=>Zac hM ?_⟩
   obtain rfl:n1=Zcb r:=by cases hn;rfl
   show Value.bool _=Value.bool (Zni r p)
   unfold Zni;rw[h3,h4];rfl
  ·have h4:(p.k == 4)=false:=h4
   show Value.bool _=Value.bool (Zni r p)
   unfold Zni;rw[h3,h4];rfl
theorem Zrm(s:Sc)(r:Ru)(l:List Pt)(i:Nat)(p:Pt):Znh s r l i p=Zb6 [(307,Zry l i p),(308,ZpB s p),(309,Zni r p)]:=rfl
theorem ZwD(s:Sc)(r:Ru)(l:List Pt)(a:Option Addr)(c:Nat)(i:Nat)(p:Pt)(m:Mem)(hs:RepC m s)(hr:RepR m r)(hl:l.length<=few)(bF:rowRd m a (l.map Pt.cs).flatten)(cQ:∀x∈l,RepP m x)(hi:l[i]?=some p):
  CX Tryz.prog 141 #[s.v,.agg r.cs.toArray,.slice a l.length c,.int .i64 i] m [] (Ret (.int .i64 (Znh s r l i p))):=by
 apply Zkv
 intro b m1 aV hb b1 m2 bA dF b2 m3 bR fD b3 m4 cO fB
 have nG:=mLt bR cO
 have jL:=mLt bA nG
 have kG:=mLt aV jL
 have bB:=(List.getElem?_eq_some_iff.1 hi).1
 have hl':=hl
 unfold few at hl'
 obtain⟨b4,o4,ha,hx⟩:=Zam Pt.len (bF.mono kG) hi (by omega)
 refine⟨b4,o4,ha,⟨by omega,by omega⟩,_,_,_,_,_,_,_,_,hx,λb5=>Zaa rfl λb6 hf m5 dY r6=>?_⟩
 have tD:=mLt (Mem.le_add hf _) dY
 refine Zax (Zf6 [((307,171,[.pointer (some ⟨b5,0,none⟩),.pointer (some ⟨b3,0,none⟩),.pointer (some ⟨b2,0,none⟩)]),Zry l i p),((308,173,[.pointer (some ⟨b,0,none⟩),.pointer (some ⟨b5,0,none⟩)]),ZpB s p),
  ((309,174,[.pointer (some ⟨b5,0,none⟩),.pointer (some ⟨b1,0,none⟩)]),Zni r p)] _ 3 _ (by simp) (.inr ⟨b6,0,rfl,(Zb1 m4 b6 _).mono dY⟩) λx hx m' hm'=>?_) λm6 gZ=>Zac (mLt kG (mLt tD gZ)) rfl
 have hl:=mLt tD hm'
 have h0':=mLt kG hl
 have hp:=(cQ p (List.mem_of_getElem? hi)).mono h0'
 simp only[List.mem_cons,List.not_mem_nil,or_false]at hx
 rcases hx with rfl|rfl|rfl
 ·exact Zu3 l a c i p m' b5 b3 b2 (by unfold few;omega) (bF.mono h0') (by omega) hp (r6.mono hm') (fB.mono hl) (fD.mono (mLt cO hl))
 ·exact Zu4 s p m' b b5 (hs.mono h0') hp (hb.mono (mLt jL hl)) (r6.mono hm')
 ·exact Zu5 r p m' b5 b1 (hr.mono h0') hp (r6.mono hm') (dF.mono (mLt nG hl))
theorem Znt(r:Ru):0<=sizeR r/\sizeR r<=10001:=by
 have:=ZlP r.t
 unfold sizeR;split <;> omega
theorem ZwE{α:Type}(f:α->Int)(B:Int)(l:List α)(hf:∀x∈l,f x<=B):Zcu (l.map f)<=l.length*B:=by
 induction l with
 | nil=>simp[Zcu]
 | cons x l ih=>
  have h1:=hf x (by simp)
  have h2:=ih λy hy=>hf y (by simp[hy])
  simp only[List.map_cons,Zcu,List.length_cons]
  push_cast
  rw[Int.add_mul];omega
def Zs8(x:Sta):Int:=Zcu (x.rules.map sizeR)
def T0s(s:Sc)(i:Nat):Int:=Zcu ((s.states.take i).map Zs8)
theorem Zs9{s:Sc}{i:Nat}{x:Sta}(h:s.states[i]?=some x)(k:Nat):totals s i k=T0s s i+Zcu ((x.rules.take (k+1)).map sizeR):=by
 unfold totals;rw[h];rfl
theorem Znu{m:Mem}{x:Sta}(hx:RepS m x)(k:Nat):0<=Zcu ((x.rules.take k).map sizeR)/\Zcu ((x.rules.take k).map sizeR)<=1000100000:=by
 have hl:=hx.len
 unfold few at hl
 refine⟨Zik _ (λr=>(Znt r).1) _,?_⟩
 have:=ZwE sizeR 10001 (x.rules.take k) λr _=>(Znt r).2
 rw[List.length_take]at this
 omega
theorem Zy3{m:Mem}{s:Sc}(hs:RepC m s)(i:Nat):0<=T0s s i/\T0s s i<=100010000000000:=by
 have hl:=hs.len
 unfold few at hl
 refine⟨Zik _ (λx=>Zik _ (λr=>(Znt r).1) _) _,?_⟩
 have:=ZwE Zs8 1000100000 (s.states.take i) λx hx=>by
  have:=(Znu (hs.all x (List.mem_of_mem_take hx)) x.rules.length).2
  rw[List.take_length]at this;exact this
 rw[List.length_take]at this
 unfold T0s;omega
def ZvI(s:Sc)(i n:Nat):List Value:=(List.range n).map λj=>.int .i64 (totals s i j)
theorem Zu6(s:Sc)(i n:Nat):(ZvI s i n).length=n:=by simp[ZvI]
theorem Zta(s:Sc)(i n:Nat):ZvI s i (n+1)=ZvI s i n++[.int .i64 (totals s i n)]:=by simp[ZvI,List.range_succ]
def TotI(s:Sc)(i:Nat)(a:Option Addr)(vs:List Value)(m:Mem):Prop:=vs.length=i/\rowRd m a vs/\∀(k:Nat)(x:Sta),k < i->s.states[k]?=some x->∃ak ck,vs[k]?=some (.slice ak x.rules.length ck)/\rowRd m ak (ZvI s k x.rules.length)
theorem TotI.mono{s:Sc}{i:Nat}{a:Option Addr}{vs:List Value}{m m':Mem}(h:TotI s i a vs m)(hm:m.le m'):TotI s i a vs m':=⟨h.1,h.2.1.mono hm,λk x hk hx=>by
 obtain⟨ak,ck,h1,h2⟩:=h.2.2 k x hk hx
 exact⟨ak,ck,h1,h2.mono hm⟩⟩
def Zzw(s:Sc):Value->Mem->List (List Value)->Prop:=λv m _=>∃a c vs,v=.slice a s.states.length c/\TotI s s.states.length a vs m
theorem Zu7{s}:∀(v:Value)(m':Mem) (css:List (List Value)),Zzw s v m' css->Shape.fits .slice v=true:=λv _ _ ⟨_,_,_,e,_⟩=>by rw[e];rfl
set_option maxHeartbeats 1000000 in
theorem Ztb(s:Sc)(m:Mem)(hr:RepC m s):CX Tryz.prog 117 #[s.v] m [] (Zzw s):=by
 apply Zhk
 intro b m1 aV _
 have fP:=hr.len
 unfold few at fP
 refine⟨λxs _ tks m' q=>∃(i:Nat)(a:Option Addr)(c:Nat)(vs:List Value),i<=s.states.length/\xs=[.int .i64 (T0s s i),.slice a i c,.int .i64 i]/\tks=[.slice a i c]/\m1.le m'/\TotI s i a vs m'/\q=s.states.length - i,
  ⟨s.states.length,0,none,0,[],by omega,rfl,rfl,Mem.le_refl _,⟨rfl,.inl rfl,λk x hk=>absurd hk (by omega)⟩,rfl⟩,?_⟩
 rintro n a n1 c n2 a1 n3 c1 m2 q bA ⟨i,A,C,vs,hi,hx,ht,cJ,hT,hq⟩
 simp only[List.cons.injEq,Value.int.injEq,Value.slice.injEq,and_true,true_and]at hx ht
 obtain⟨rfl,⟨ea,en,ec⟩,rfl⟩:=hx
 obtain⟨ea',en',ec'⟩:=ht
 subst a1 n3 c1 a n1 c
 subst hq
 have eI:=mLt aV bA
 have hw:∀k:Nat,k<=100000->IntKind.i64.wrap ((k:Int)+1)=((k+1:Nat):Int):=λk hk=>by rw[Zal (by omega) (by omega)];rfl
 refine Zaw (λbB=>?_) (λdB=>?_)
 ·have bB:(i:Int) < (s.states.length:Int):=bB
  have bQ:i < s.states.length:=by omega
  obtain⟨x,hx⟩:=Zc9 bQ
  have dZ:=hr.all x (List.mem_of_getElem? hx)
  have jC:=dZ.len
  unfold few at jC
  obtain⟨b2,o2,ha,gQ⟩:=Zam Sta.len (hr.row.mono eI) hx (by omega)
  refine⟨b2,o2,ha,⟨by omega,by omega⟩,_,_,by rw[Int.toNat_natCast];exact gQ,λb3=>Zaa rfl (Zaa rfl ?_)⟩
  refine⟨λxs _ tks m' q=>∃(k:Nat)(ak:Option Addr)(ck:Nat),k<=x.rules.length/\xs=[.int .i64 (T0s s i+Zcu ((x.rules.take k).map sizeR)),.slice ak k ck,.int .i64 k]/\tks=[.slice ak k ck]/\rowRd m' ak (ZvI s i k)/\q=x.rules.length - k,
   ⟨x.rules.length,0,none,0,by omega,by simp[Zcu],rfl,.inl rfl,rfl⟩,?_⟩
  rintro n a4 n5 c2 n6 a5 n7 c3 m3 q bR ⟨k,ak,ck,hk,kB,tE,bF,hq⟩
  simp only[List.cons.injEq,Value.int.injEq,Value.slice.injEq,and_true,true_and]at kB tE
  obtain⟨rfl,⟨ea,en,ec⟩,rfl⟩:=kB
  obtain⟨ea',en',ec'⟩:=tE
  subst a5 n7 c3 a4 n5 c2
  subst hq
  have eG:=mLt eI bR
  refine Zaw (λfF=>?_) (λfM=>?_)
  ·have fF:(k:Int) < (x.rules.length:Int):=fF
   obtain⟨r,ii⟩:=Zc9 (show k < x.rules.length by omega)
   have fU:=dZ.all r (List.mem_of_getElem? ii)
   obtain⟨b4,o4,ph,lm⟩:=Zam Ru.len (dZ.row.mono eG) ii (by omega)
   have s7:=Zy3 hr i
   have gj:=Znu dZ k
   have ve:=Znu dZ (k+1)
   have dN:=ZeI sizeR ii
   have pi:=Zs9 hx k
   have next:∀{M M2:Mem} {b5:Nat} {z:Int} {Q:Option Addr->Nat->Mem->Prop},m3.le M->M.free b5->z=totals s i k->(∀(a':Option Addr)(c':Nat)(m':Mem),M.le m'->rowRd m' a' (ZvI s i (k+1))->Q a' c' m')->
     (Tok.mk (.slice ak k ck) 1=Tok.mk (.slice ak k ck) 1\/Value.slice ak k ck=.slice none 0 0\/ck < k+1)/\∃xs ys:List Value,xs.length=k*1/\ys.length=1*1/\rowRd (M.add b5 [.int .i64 z]) ak xs/\rowRd (M.add b5 [.int .i64 z]) (some ⟨b5,0,none⟩) ys/\(∀u∈ys,u.oneCell'=true)/\
      (k+1)*8<=140737488355328/\k+1<=9223372036854775807/\∀(a':Option Addr)(c':Nat)(m':Mem),(M.add b5 [.int .i64 z]).le m'->rowRd m' a' (xs++ys)->Q a' c' m':=λ{M M2 b5 z Q} hM hf hz hQ=>
    ⟨.inl rfl,ZvI s i k,[.int .i64 z],by rw[Zu6];omega,rfl,bF.mono (mLt hM (Mem.le_add hf _)),.inr ⟨b5,0,rfl,Zb1 M b5 _⟩,by simp[Value.oneCell'],by omega,by omega,λa' c' m' hm' hr'=>hQ a' c' m' (mLt (Mem.le_add hf _) hm') (by rw[Zta,<-hz];exact hr')⟩
   refine Zaa rfl ⟨b4,o4,ph,⟨by omega,fF⟩,_,_,_,_,_,_,_,_,_,_,_,_,_,_,_,_,by rw[Int.toNat_natCast];exact lm,λb5=>Zaa rfl (Zaa rfl (Zab (λgk=>?_) (λgk b6 hf=>?_)))⟩
   ·have gk:r.k=1:=eq_of_beq (show(r.k == 1)=true from gk)
    have hz:sizeR r=r.t.size:=by unfold sizeR;rw[if_pos gk]
    refine Zax (Zro r.t m3 (fU.t.mono eG)) λm4 cO b6 hf=>?_
    have cE:=ZlP r.t
    rw[Zal (n:=_+r.t.size) (by omega) (by omega)]
    refine next (M2:=m4) cO hf (by rw[pi,dN,hz];omega) λa' c' m' hm' hr'=>⟨rfl,rfl,x.rules.length - (k+1),by omega,k+1,a',c',by omega,?_,rfl,hr',rfl⟩
    rw[hw k (by omega),dN,hz]
    simp only[Int.add_assoc]
   ·have gk:¬r.k=1:=λe=>by
     have:(r.k == 1)=false:=gk
     rw[e]at this;simp at this
    have hz:sizeR r=0:=by unfold sizeR;rw[if_neg gk]
    refine next (M2:=m3) (Mem.le_refl _) hf (by rw[pi,dN,hz];omega) λa' c' m' hm' hr'=>⟨rfl,rfl,x.rules.length - (k+1),by omega,k+1,a',c',by omega,?_,rfl,hr',rfl⟩
    rw[hw k (by omega),dN,hz,Int.add_zero]
  ·have fM:¬(k:Int) < (x.rules.length:Int):=fM
   obtain rfl:k=x.rules.length:=by omega
   intro b3 hf
   have jJ:=hT.mono (mLt bR (Mem.le_add hf [.slice ak x.rules.length ck]))
   refine⟨.inl rfl,vs,[.slice ak x.rules.length ck],by rw[hT.1];omega,rfl,jJ.2.1,.inr ⟨b3,0,rfl,Zb1 m3 b3 _⟩,by simp[Value.oneCell'],by omega,by omega,λa' c' m' hm' hr'=>⟨rfl,s.states.length - (i+1),by omega,i+1,a',c',vs++[.slice ak x.rules.length ck],by omega,?_,rfl,mLt cJ (mLt bR (mLt (Mem.le_add hf _) hm')),⟨by rw[List.length_append,hT.1];rfl,hr',λj y hj hy=>?_⟩,rfl⟩⟩
   ·rw[hw i (by omega),List.take_length]
    have:T0s s (i+1)=T0s s i+Zs8 x:=ZeI Zs8 hx
    rw[this];rfl
   ·by_cases lz:j < i
    ·obtain⟨aj,cj,h1,h2⟩:=jJ.2.2 j y lz hy
     exact⟨aj,cj,by rw[List.getElem?_append_left (by rw[hT.1];omega)];exact h1,h2.mono hm'⟩
    ·obtain rfl:j=i:=by omega
     obtain rfl:x=y:=by rw[hx]at hy;exact Option.some.inj hy
     exact⟨ak,ck,by rw[List.getElem?_append_right (by rw[hT.1];omega),hT.1];simp,bF.mono (mLt (Mem.le_add hf _) hm')⟩
 ·have dB:¬(i:Int) < (s.states.length:Int):=dB
  obtain rfl:i=s.states.length:=by omega
  exact⟨m2,eI,Mem.le_refl _,A,C,vs,rfl,hT⟩
theorem Zzx{m:Mem}{a:Option Addr}{vs:List Value}(h:rowRd m a vs){k:Nat}{v:Value}(hk:vs[k]?=some v):∃b o,a=some ⟨b,o,none⟩/\m.c b (o+k*1)=some v:=by
 rcases h with h|⟨b,o,ha,h⟩
 ·rw[h]at hk;simp at hk
 ·exact⟨b,o,ha,by rw[Nat.mul_one];exact h k v hk⟩
theorem Zy4(s:Sc)(ta:Option Addr)(tc:Nat)(vs:List Value)(p:Pl)(m:Mem)(hr:RepC m s)(hT:TotI s s.states.length ta vs m)(hp:Zzj s p):
  CX Tryz.prog 119 #[s.v,.slice ta s.states.length tc,.agg p.cs.toArray] m [] (Ret (.int .i64 (atS s p))):=by
 obtain⟨pv,ps,pr,pa,pp⟩:=p
 dsimp only[Zzj]at hp
 dsimp only[Pl.cs]
 show CX Tryz.prog 119 #[s.v,.slice ta s.states.length tc,.agg #[.int .i64 pv,.int .i64 ps,.int .i64 pr,.int .i64 pa,.int .i64 pp]] m [] _
 apply ZoJ
 intro b m1 aV _ b1 m2 bA _
 have hm:=mLt aV bA
 have fS:=hr.vlen
 have fP:=hr.len
 unfold few at fS fP
 rcases hp with⟨i,rfl,v,hv⟩|⟨hv,hp⟩
 ·refine Zjr (decide_eq_true (Int.natCast_nonneg i)) (Zax (Zo8 s i v m2 (hr.mono hm) hv) λm3 bR=>Zac (mLt hm bR) ?_)
  show Value.int _ _=Value.int _ _
  unfold atS;rw[if_pos (Int.natCast_nonneg i),Int.toNat_natCast,hv]
 have hv:pv < 0:=hv
 refine ZdE (decide_eq_false (by omega)) ?_
 rcases hp with hs|⟨i,rfl,x,hx,hp⟩
 ·have hs:ps < 0:=hs
  refine Zjr (decide_eq_true hs) (Zax (ZuY s (hr.mono hm)) λm3 bR=>Zac (mLt hm bR) ?_)
  show Value.int _ _=Value.int _ _
  unfold atS;rw[if_neg (by show ¬pv ≥ 0;omega),if_pos hs]
 refine ZdE (decide_eq_false (by omega)) ?_
 have tF:=(List.getElem?_eq_some_iff.1 hx).1
 have at0:∀q:Pl,q.v=pv->q.s=i->atS s q=if q.r < 0 then Zou s i x else match x.rules[q.r.toNat]? with
   | none=>0
   | some r=>if q.a < 0 then ZpA s r (totals s i q.r.toNat)else match r.acts[q.a.toNat]? with
    | none=>0
    | some a=>if q.p < 0 then ZdL s r a else match a.parts[q.p.toNat]? with
     | none=>0
     | some z=>Znh s r a.parts q.p.toNat z:=λq h1 h2=>by
  unfold atS;rw[h1,h2,if_neg (by omega),if_neg (by omega),Int.toNat_natCast,hx]
  rfl
 rcases hp with hs|⟨k,rfl,r,ii,hp⟩
 ·have hs:pr < 0:=hs
  refine Zjr (decide_eq_true hs) (Zax (ZuZ s i x m2 (hr.mono hm) hx) λm3 bR=>Zac (mLt hm bR) ?_)
  show Value.int _ _=Value.int _ _
  rw[at0 _ rfl rfl,if_pos hs]
 refine ZdE (decide_eq_false (by omega)) ?_
 have jB:=List.mem_of_getElem? hx
 have dZ:=(hr.all x jB).mono hm
 have jC:=dZ.len
 unfold few at jC
 have jV:=(List.getElem?_eq_some_iff.1 ii).1
 have qp:=List.mem_of_getElem? ii
 have fU:=dZ.all r qp
 have oZ:=fU.len
 unfold few at oZ
 obtain⟨b2,o2,mX,gQ⟩:=Zam Sta.len (hr.row.mono hm) hx (by omega)
 obtain⟨b3,o3,f5,kB⟩:=Zam Ru.len dZ.row ii (by omega)
 have at1:∀q:Pl,q.v=pv->q.s=i->q.r=k->atS s q=if q.a < 0 then ZpA s r (totals s i k)else match r.acts[q.a.toNat]? with
    | none=>0
    | some a=>if q.p < 0 then ZdL s r a else match a.parts[q.p.toNat]? with
     | none=>0
     | some z=>Znh s r a.parts q.p.toNat z:=λq h1 h2 h3=>by
  rw[at0 q h1 h2,h3,if_neg (by omega),Int.toNat_natCast,ii]
 refine⟨b2,o2,mX,⟨by omega,by omega⟩,_,gQ 1 _ rfl,Zaa rfl ⟨b3,o3,f5,⟨by omega,by show(k:Int) < (x.rules.length:Int);omega⟩,_,_,_,_,_,_,_,_,_,_,_,_,_,_,_,_,kB,λb4=>Zaa rfl ?_⟩⟩
 rcases hp with hs|⟨j,rfl,a,jD,hp⟩
 ·have hs:pa < 0:=hs
  refine Zjr (decide_eq_true hs) ?_
  obtain⟨ak,ck,nW,pj⟩:=hT.2.2 i x tF hx
  obtain⟨b5,o5,lS,r7⟩:=Zzx (hT.2.1.mono hm) nW
  have fl:(ZvI s i x.rules.length)[k]?=some (.int .i64 (totals s i k)):=by
   unfold ZvI;rw[List.getElem?_map,List.getElem?_range jV];rfl
  obtain⟨b6,o6,iu,mY⟩:=Zzx (pj.mono hm) fl
  refine⟨λ_ _ _=>Ret (.int .i64 (ZpA s r (totals s i k))),b5,o5,lS,⟨by omega,by omega⟩,_,r7,Zaa rfl ⟨b6,o6,iu,⟨by omega,by show(k:Int) < (x.rules.length:Int);omega⟩,_,mY,_,rfl,ZwB s r (totals s i k) m2 (hr.mono hm) fU,λv _ _ e=>by rw[show v=_ from e];rfl,λn m3 bR hn M hM _=>Zac (mLt hm hM) ?_⟩⟩
  obtain rfl:n=ZpA s r (totals s i k):=by cases hn;rfl
  show Value.int _ _=Value.int _ _
  rw[at1 _ rfl rfl rfl,if_pos hs]
 refine ZdE (decide_eq_false (by omega)) ?_
 have tG:=(List.getElem?_eq_some_iff.1 jD).1
 have vf:=List.mem_of_getElem? jD
 have kE:=fU.all a vf
 obtain⟨b5,o5,lS,qr⟩:=Zam Ac.len fU.row jD (by omega)
 rcases hp with hs|⟨n,rfl,z,hz⟩
 ·have hs:pp < 0:=hs
  refine Zjr (decide_eq_true hs) ⟨λ_ _ _=>Ret (.int .i64 (ZdL s r a)),Zaa rfl ⟨b5,o5,lS,⟨by omega,by show(j:Int) < (r.acts.length:Int);omega⟩,_,_,_,_,_,_,_,_,qr,_,rfl,Zs7 s r a m2 (hr.mono hm) fU kE,λv _ _ e=>by rw[show v=_ from e];rfl,λn m3 bR hn M hM _=>Zac (mLt hm hM) ?_⟩⟩
  obtain rfl:n=ZdL s r a:=by cases hn;rfl
  show Value.int _ _=Value.int _ _
  have r8:¬(j:Int) < 0:=by omega
  have oV:r.acts[(j:Int).toNat]?=some a:=by rw[Int.toNat_natCast];exact jD
  rw[at1 _ rfl rfl rfl]
  simp only[r8,oV,hs,if_true,if_false]
 ·refine ZdE (decide_eq_false (by omega)) ⟨λ_ _ _=>Ret (.int .i64 (Znh s r a.parts n z)),Zaa rfl ⟨b5,o5,lS,⟨by omega,by show(j:Int) < (r.acts.length:Int);omega⟩,_,qr 2 _ rfl,_,rfl,ZwD s r a.parts a.pa a.pc n z m2 (hr.mono hm) fU kE.n kE.row kE.all hz,λv _ _ e=>by rw[show v=_ from e];rfl,λn' m3 bR hn M hM _=>Zac (mLt hm hM) ?_⟩⟩
  obtain rfl:n'=Znh s r a.parts n z:=by cases hn;rfl
  show Value.int _ _=Value.int _ _
  have r8:¬(j:Int) < 0:=by omega
  have oV:r.acts[(j:Int).toNat]?=some a:=by rw[Int.toNat_natCast];exact jD
  have pX:¬(n:Int) < 0:=by omega
  have kN:a.parts[(n:Int).toNat]?=some z:=by rw[Int.toNat_natCast];exact hz
  rw[at1 _ rfl rfl rfl]
  simp only[r8,oV,pX,kN,if_false]
  rw[Int.toNat_natCast]
end Go.Proofs.YtojlhhphofhaoaaGreatDoor