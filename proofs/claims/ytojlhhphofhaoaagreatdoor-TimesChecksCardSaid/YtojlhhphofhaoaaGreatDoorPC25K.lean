/- Part of the proof: functions of the program. No condition. -/
import Derived.Test.YtojlhhphofhaoaaGreatDoorPVEB
import Derived.Test.YtojlhhphofhaoaaGreatDoorPC25P
import Derived.Test.YtojlhhphofhaoaaGreatDoorMr
set_option linter.unusedVariables false
set_option linter.unusedSimpArgs false
set_option linter.unusedSectionVars false
namespace Go.Proofs.YtojlhhphofhaoaaGreatDoor
open Go Go.Eng Go.Rx Go.Proofs Go.RowKit
set_option maxRecDepth 100000
theorem Zl6(l:List Sta)(a:Option Addr)(c:Nat)(g:Nat)(ca:List Value)(p:Sta->Bool)(m:Mem)(hl:l.length<=1000000000000000)(hr:rowRd m a (l.map Sta.cs).flatten)
  (hp:∀x∈l,∀m',m.le m'->CX Tryz.prog g (.agg x.cs.toArray::ca).toArray m' [] (Ret (.bool (p x)))):
  CX Tryz.prog 179 #[.slice a l.length c,.func (.func g) #[] ca.toArray] m [] (Ret (.int .i64 (if l.any p then(l.findIdx p:Nat)else(-1:Int)))):=by
 apply Za6 a l.length c g [] ca
 refine⟨λxs _ _ m'' q=>∃i:Nat,i<=l.length/\xs=[.int .i64 i]/\(∀x∈l.take i,p x=false)/\q=l.length - i,⟨l.length,0,by omega,rfl,by simp,by omega⟩,?_⟩
 rintro n m' q hm ⟨i,hi,hn,fS,hq⟩
 obtain rfl:n=i:=by simpa using hn
 refine Zab (λbB=>?_) (λdF=>?_)
 ·have bQ:i < l.length:=by simpa using bB
  obtain⟨x,hx⟩:=Zdb bQ
  have cP:x∈l:=List.mem_of_getElem? hx
  obtain⟨b1,o1,ha,eI⟩:=Zam Sta.len (hr.mono hm) hx (by omega)
  refine⟨b1,o1,ha,⟨by omega,by omega⟩,_,_,eI,Zag (hp x cP m' hm) λm1 aV=>Zab (λfQ=>?_) (λfQ=>?_)⟩
  ·refine Zac (mLt hm aV) ?_
   have fu:l.any p=true:=List.any_eq_true.2 ⟨x,cP,fQ⟩
   have fZ:l.findIdx p=i:=by
    rw[List.findIdx_eq bQ]
    refine⟨by rw[(List.getElem?_eq_some_iff.1 hx).2];exact fQ,λj hj=>?_⟩
    exact fS _ (List.mem_of_getElem? (i:=j) (by rw[List.getElem?_take_of_lt hj];exact List.getElem?_eq_getElem (by omega)))
   simp[Ret,fu,fZ]
  ·refine⟨l.length - (i+1),by omega,i+1,by omega,by rw[Zal (by omega) (by omega)];rfl,?_,rfl⟩
   intro y hy
   rw[List.take_add_one,hx]at hy
   rcases List.mem_append.1 hy with hy|hy
   ·exact fS y hy
   ·simp at hy;rw[hy];exact fQ
 ·have hi':i=l.length:=by
   have:¬((i:Int) < (l.length:Int)):=by simpa using dF
   omega
  subst hi'
  refine Zac hm ?_
  have fu:l.any p=false:=by
   rw[List.any_eq_false]
   rw[List.take_length]at fS
   exact λx hx=>by simp[fS x hx]
  simp[Ret,fu]
theorem Zs7(l:List Sta)(a:Option Addr)(c:Nat)(g:Nat)(ca:List Value)(p:Sta->Bool)(m:Mem)(hl:l.length<=1000000000000000)(hr:rowRd m a (l.map Sta.cs).flatten)
  (hp:∀x∈l,∀m',m.le m'->CX Tryz.prog g (.agg x.cs.toArray::ca).toArray m' [] (Ret (.bool (p x)))):
  CX Tryz.prog 154 #[.slice a l.length c,.func (.func g) #[] ca.toArray] m [] (Ret (.bool (l.any p))):=by
 apply ZaY a l.length c g [] ca
 refine Zav (Zl6 l a c g ca p m hl hr hp) λm' hm=>Zac hm ?_
 cases h:l.any p <;> simp[Ret]
theorem Zl7(l:List Va)(a:Option Addr)(c:Nat)(g:Nat)(ca:List Value)(p:Va->Bool)(m:Mem)(hl:l.length<=1000000000000000)(hr:rowRd m a (l.map Va.cs).flatten)
  (hp:∀x∈l,∀m',m.le m'->CX Tryz.prog g (.agg x.cs.toArray::ca).toArray m' [] (Ret (.bool (p x)))):
  CX Tryz.prog 178 #[.slice a l.length c,.func (.func g) #[] ca.toArray] m [] (Ret (.int .i64 (if l.any p then(l.findIdx p:Nat)else(-1:Int)))):=by
 apply Zbr a l.length c g [] ca
 refine⟨λxs _ _ m'' q=>∃i:Nat,i<=l.length/\xs=[.int .i64 i]/\(∀x∈l.take i,p x=false)/\q=l.length - i,⟨l.length,0,by omega,rfl,by simp,by omega⟩,?_⟩
 rintro n m' q hm ⟨i,hi,hn,fS,hq⟩
 obtain rfl:n=i:=by simpa using hn
 refine Zab (λbB=>?_) (λdF=>?_)
 ·have bQ:i < l.length:=by simpa using bB
  obtain⟨x,hx⟩:=Zdb bQ
  have cP:x∈l:=List.mem_of_getElem? hx
  obtain⟨b1,o1,ha,eI⟩:=Zam Va.len (hr.mono hm) hx (by omega)
  refine⟨b1,o1,ha,⟨by omega,by omega⟩,_,_,_,_,eI,Zag (hp x cP m' hm) λm1 aV=>Zab (λfQ=>?_) (λfQ=>?_)⟩
  ·refine Zac (mLt hm aV) ?_
   have fu:l.any p=true:=List.any_eq_true.2 ⟨x,cP,fQ⟩
   have fZ:l.findIdx p=i:=by
    rw[List.findIdx_eq bQ]
    refine⟨by rw[(List.getElem?_eq_some_iff.1 hx).2];exact fQ,λj hj=>?_⟩
    exact fS _ (List.mem_of_getElem? (i:=j) (by rw[List.getElem?_take_of_lt hj];exact List.getElem?_eq_getElem (by omega)))
   simp[Ret,fu,fZ]
  ·refine⟨l.length - (i+1),by omega,i+1,by omega,by rw[Zal (by omega) (by omega)];rfl,?_,rfl⟩
   intro y hy
   rw[List.take_add_one,hx]at hy
   rcases List.mem_append.1 hy with hy|hy
   ·exact fS y hy
   ·simp at hy;rw[hy];exact fQ
 ·have hi':i=l.length:=by
   have:¬((i:Int) < (l.length:Int)):=by simpa using dF
   omega
  subst hi'
  refine Zac hm ?_
  have fu:l.any p=false:=by
   rw[List.any_eq_false]
   rw[List.take_length]at fS
   exact λx hx=>by simp[fS x hx]
  simp[Ret,fu]
theorem Zs8(l:List Va)(a:Option Addr)(c:Nat)(g:Nat)(ca:List Value)(p:Va->Bool)(m:Mem)(hl:l.length<=1000000000000000)(hr:rowRd m a (l.map Va.cs).flatten)
  (hp:∀x∈l,∀m',m.le m'->CX Tryz.prog g (.agg x.cs.toArray::ca).toArray m' [] (Ret (.bool (p x)))):
  CX Tryz.prog 148 #[.slice a l.length c,.func (.func g) #[] ca.toArray] m [] (Ret (.bool (l.any p))):=by
 apply Za9 a l.length c g [] ca
 refine Zav (Zl7 l a c g ca p m hl hr hp) λm' hm=>Zac hm ?_
 cases h:l.any p <;> simp[Ret]
theorem Zey(n a b:Int)(m:Mem):CX Tryz.prog 151 #[.int .i64 n,.int .i64 a,.int .i64 b] m [] (Ret (.bool (ZbB n a b))):=by
 apply Zhf
 exact⟨ZbB n a b,Zab (λh=>by unfold ZbB;rw[h];rfl) (λh=>by unfold ZbB;rw[h];rfl),Zac (Mem.le_refl m) rfl⟩
theorem Zu0(v:Va)(name:ByteArray)(b:Nat)(m:Mem)(hb:m.reads b 0 [.string name]):CX Tryz.prog 185 #[.agg v.cs.toArray,.pointer (some ⟨b,0,none⟩)] m [] (Ret (.bool (eqS v.s name))):=by
 apply Zhg (c0b:=b) (c0o:=0)
 intro b1 m1 aV _
 exact⟨_,aV.c _ _ _ (hb 0 _ rfl),Zaa rfl (Zac aV rfl)⟩
theorem Zu1{l:List Va}{p:Va->Bool}(h:l.any p=true):∃v,l[l.findIdx p]?=some v/\l.find? p=some v:=by
 induction l with
 | nil=>simp at h
 | cons x l ih=>
  cases hx:p x with
  | true=>exact⟨x,by simp[List.findIdx_cons,hx],by simp[hx]⟩
  | false=>
   obtain⟨v,h1,h2⟩:=ih (by simpa[hx]using h)
   exact⟨v,by simp[List.findIdx_cons,hx,h1],by simp[hx,h2]⟩
theorem Zs9{l:List Va}{p:Va->Bool}(h:l.any p=false):l.find? p=none:=by
 rw[List.find?_eq_none];rw[List.any_eq_false]at h;exact h
theorem ZrG(s:Sc)(name:ByteArray)(m:Mem)(hr:RepC m s):CX Tryz.prog 166 #[s.v,.string name] m [] (Ret (.tuple #[.bool (Zdd s name).1,.bool (Zdd s name).2])):=by
 apply ZkB
 intro b m1 aV _ b1 m2 bA dG
 have fR:=hr.vlen
 unfold few at fR
 have bF:=hr.vrow.mono (mLt aV bA)
 refine Zav (Zl7 s.vars s.va s.vc _ [.pointer (some ⟨b1,0,none⟩)] (λv=>eqS v.s name) m2 (by omega) bF λx _ m' hm'=>Zu0 x name b1 m' (dG.mono hm')) λm3 bS=>?_
 have cJ:=mLt aV (mLt bA bS)
 cases h:s.vars.any (λv=>eqS v.s name)with
 | true=>
  obtain⟨v,qu,pf⟩:=Zu1 h
  have hk:Zdd s name=(v.b,true):=by unfold Zdd;rw[pf]
  obtain⟨b4,o4,ha,lp⟩:=Zam Va.len (bF.mono bS) qu (by omega)
  have bB:=(List.getElem?_eq_some_iff.1 qu).1
  simp only[if_true]
  refine⟨v.b,true,ZpM (decide_eq_true (by omega)) ⟨b4,o4,ha,⟨by omega,by omega⟩,.bool v.b,?_,by trivial,Zaa rfl ?_⟩,Zac cJ (by rw[hk])⟩
  ·have:=lp 1 _ rfl
   rw[Int.toNat_natCast];exact this
  ·rw[decide_eq_true (by omega:((List.findIdx (λv=>eqS v.s name) s.vars:Nat):Int) ≥ 0)]
 | false=>
  have hk:Zdd s name=(false,false):=by unfold Zdd;rw[Zs9 h]
  refine⟨false,false,Ze8 rfl ⟨by trivial,rfl⟩,Zac cJ (by rw[hk])⟩
theorem Zpc(s:Sc)(name:ByteArray)(b:Nat)(m:Mem)(hr:RepC m s)(hb:m.reads b 0 s.cs):CX Tryz.prog 188 #[.string name,.pointer (some ⟨b,0,none⟩)] m [] (Ret (.bool (!(Zdd s name).1))):=by
 apply ZeU (c0b:=b) (c0o:=0)
 refine⟨_,_,_,hb,?_⟩
 refine Zaj (ZrG s name m hr) (λv _ _ e=>by rw[show v=_ from e];rfl) ?_
 intro x y m1 aV hv
 have hv:Value.tuple (Array.mk [Value.bool x,Value.bool y])=Value.tuple #[.bool (Zdd s name).1,.bool (Zdd s name).2]:=hv
 simp only[Value.tuple.injEq,Array.mk.injEq,List.cons.injEq,Value.bool.injEq,and_true]at hv
 obtain⟨rfl,rfl⟩:=hv
 exact Zac aV rfl
theorem Zu2(e:E):e.vars.length<=1000000000000000:=by
 unfold E.vars
 split
 ·rename_i hl
  have h2:=Zf9 e []
  have h3:=of_decide_eq_true (show decide (e.nodes.length<=10000)=true from hl)
  simp only[List.length_nil]at h2
  omega
 ·simp
theorem Zh9(s:Sc)(e:E)(m:Mem)(hr:RepC m s)(he:RepE m e):CX Tryz.prog 167 #[s.v,e.v] m [] (Ret (.bool (Zdx s e))):=by
 apply Zgo
 intro b m1 aV hb b1 m2 bA _
 refine Zaj (ZuZ e m2 (RepE.mono' he (mLt aV bA))) Zs6 ?_
 rintro a n c m3 bS ⟨a',c',hv,bF⟩
 simp only[Value.slice.injEq]at hv
 obtain⟨rfl,rfl,rfl⟩:=hv
 refine Zag (Zgz e.vars a c _ [.pointer (some ⟨b,0,none⟩)] (λn=>!(Zdd s n).1) m3 (Zu2 e) bF λx _ m' hm'=>Zpc s x b m' (hr.mono (mLt aV (mLt bA (mLt bS hm')))) (hb.mono (mLt bA (mLt bS hm')))) λm4 cR=>Zac (mLt aV (mLt bA (mLt bS cR))) rfl
theorem Zt8(e:E)(m:Mem)(he:RepE m e):CX Tryz.prog 164 #[e.v] m [] (Ret (.bool (ZpK e))):=by
 apply ZkC
 intro b m1 aV _
 exact Zag (ZrE e E0 m1 (RepE.mono' he aV) (ZvI m1)) λm2 bA=>Zac (mLt aV bA) rfl
theorem Zgd(r:Ru)(m:Mem)(hr:Rep m r.t):CX Tryz.prog 170 #[.agg r.cs.toArray] m [] (Ret (.int .i64 (Zcc r))):=by
 apply Zfs
 intro b m1 aV _
 refine Zab (λh=>?_) (λh=>Zab (λh2=>Zac aV ?_) (λh2=>Zac aV ?_))
 ·have hk:r.k=1:=by simpa using h
  exact Zav (Zo5 r.t m1 (hr.mono aV)) λm2 bA=>Zac (mLt aV bA) (by unfold Zcc;rw[if_pos hk])
 ·have hk:¬r.k=1:=by simpa using h
  have hU:r.k=2:=by simpa using h2
  unfold Zcc;rw[if_neg hk,if_pos hU]
 ·have hk:¬r.k=1:=by simpa using h
  have hU:¬r.k=2:=by simpa using h2
  unfold Zcc;rw[if_neg hk,if_neg hU]
theorem Zpd(e:E)(m:Mem)(he:RepE m e):CX Tryz.prog 70 #[e.v] m [] (Ret (.int .i64 (nE e))):=by
 apply ZmI
 intro b m1 aV _
 refine Zag (ZdH e m1 (RepE.mono' he aV)) λm2 bA=>Zab (λh=>Zac (mLt aV bA) ?_) (λh=>?_)
 ·have hl:e.light=false:=by simpa using h
  unfold nE;rw[hl];rfl
 ·have hl:e.light=true:=by simpa using h
  exact Zav (ZuT e m2 (RepE.mono' he (mLt aV bA))) λm3 bS=>Zac (mLt aV (mLt bA bS)) (by unfold nE;rw[hl];rfl)
set_option maxHeartbeats 4000000 in
def CntW(b n p:Int):Prop:=0<=n/\n<=b/\(n=p\/(20000 < n/\20000 < p))
theorem CntW.out{b n p t:Int}(h:CntW b n p)(hn:n > 20000)(ht:p<=t):t > 20000:=by
 rcases h.2.2 with e|⟨_,e⟩ <;> omega
theorem CntW.eq{b n p:Int}(h:CntW b n p)(hn:¬n > 20000):n=p:=by
 rcases h.2.2 with e|⟨e,_⟩ <;> omega
theorem ZkT(s:Sc)(m:Mem)(hr:RepC m s):CX Tryz.prog 38 #[s.v] m [] (Ret (.bool s.light)):=by
 apply ZmJ
 intro b m1 aV _
 have fR:=hr.vlen
 have fT:=hr.len
 unfold few at fR fT
 have dark:∀{M:Mem},m1.le M->s.weight > 20000->∀{n:Int},n > 20000->∃m'':Mem,m.le m''/\m''.le M/\Ret (.bool s.light) (.bool (decide (n<=20000))) m'' []:=λ{M} hM hw {n} hn=>Zac (mLt aV hM) (by
  show Value.bool _=Value.bool s.light
  unfold Sc.light
  rw[decide_eq_false (by omega),decide_eq_false (by omega)])
 generalize hV:((s.vars.length:Int)+s.states.length)=V0
 have wj:0<=V0/\V0<=200000:=by omega
 rw[Zal (by omega) (by omega)]
 have tn:s.weight=V0+Zcs (s.states.map wS):=by unfold Sc.weight;omega
 refine⟨λxs _ _ m' q=>∃(i:Nat)(n:Int),i<=s.states.length/\xs=[.int .i64 n,.int .i64 i]/\CntW 300000 n (V0+Zcs ((s.states.take i).map wS))/\q=s.states.length - i,⟨_,0,V0,by omega,rfl,⟨by omega,by omega,.inl (by simp[Zcs])⟩,rfl⟩,?_⟩
 rintro n k0 m2 q bA ⟨i,n',hi,hx,hC,hq⟩
 simp only[List.cons.injEq,Value.int.injEq,and_true,true_and]at hx
 obtain⟨rfl,rfl⟩:=hx
 subst hq
 have iJ:IntKind.i64.wrap ((i:Int)+1)=((i+1:Nat):Int):=by rw[Zal (by omega) (by omega)];rfl
 simp only[iJ,Int.toNat_natCast]
 refine Zau (λbB=>?_) (λdF=>?_)
 ·have bQ:i < s.states.length:=by omega
  obtain⟨x,hx⟩:=Zdb bQ
  have jB:=List.mem_of_getElem? hx
  obtain⟨b1,o1,ha,eI⟩:=Zam Sta.len ((hr.mono (mLt aV bA)).row) hx (by omega)
  have eA:=hr.all x jB
  have jC:=eA.len
  unfold few at jC
  refine⟨b1,o1,ha,⟨by omega,by omega⟩,_,_,eI,λb2=>Zaa rfl (Zaa rfl ?_)⟩
  generalize nq:V0+Zcs ((s.states.take i).map wS)=P0 at hC
  have tq:V0+Zcs ((s.states.take (i+1)).map wS)=P0+wS x:=by rw[ZeQ wS hx];omega
  have uR:P0+wS x<=s.weight:=by rw[<-tq,tn];have:=Zkj wS Zy6 s.states (i+1);omega
  refine⟨λxs _ _ m' q=>∃(k:Nat)(n:Int),k<=x.rules.length/\xs=[.int .i64 n,.int .i64 k]/\CntW 300000 n (P0+Zcs ((x.rules.take k).map wR))/\q=x.rules.length - k,⟨_,0,n,by omega,rfl,by simpa[Zcs]using hC,rfl⟩,?_⟩
  rintro n1 k1 m3 q bS ⟨k,n1',hk,gO,lQ,hq⟩
  simp only[List.cons.injEq,Value.int.injEq,and_true,true_and]at gO
  obtain⟨rfl,rfl⟩:=gO
  subst hq
  have gP:IntKind.i64.wrap ((k:Int)+1)=((k+1:Nat):Int):=by rw[Zal (by omega) (by omega)];rfl
  simp only[gP,Int.toNat_natCast]
  have eX:m.le m3:=mLt aV (mLt bA bS)
  refine Zau (λeL=>?_) (λfM=>?_)
  ·have kE:k < x.rules.length:=by have:(k:Int) < (x.rules.length:Int):=eL;omega
   obtain⟨r,ig⟩:=Zdb kE
   have qt:=List.mem_of_getElem? ig
   have gi:=eA.all r qt
   obtain⟨b3,o3,f4,kG⟩:=Zam Ru.len ((eA.row).mono eX) ig (by omega)
   have pg:=gi.len
   unfold few at pg
   generalize wk:P0+Zcs ((x.rules.take k).map wR)=P1 at lQ
   have ph:P0+Zcs ((x.rules.take (k+1)).map wR)=P1+wR r:=by rw[ZeQ wR ig];omega
   have uS:P1+wR r<=s.weight:=by
    rw[<-ph]
    have:=Zkj wR Zyz x.rules (k+1)
    unfold wS at uR
    omega
   refine Zaa rfl ⟨b3,o3,f4,⟨by omega,by show(k:Int) < (x.rules.length:Int);omega⟩,_,_,_,_,_,_,_,_,_,_,_,_,_,_,_,_,kG,λb4=>Zaa rfl ?_⟩
   have cE:=ZlX r.t
   refine Zav (Zrx r.t m3 (gi.t.mono eX)) λm4 cR=>?_
   have iL:(if(20000:Int) < r.t.size then(20000:Int)else r.t.size)=Zij r.t.size 20000:=rfl
   have gz:0<=Zij r.t.size 20000/\Zij r.t.size 20000<=20000:=by unfold Zij;split <;> omega
   rw[iL]
   have wl:=lQ.1
   have wm:=lQ.2.1
   refine⟨λxs _ _ m'=>∃n:Int,xs=[.int .i64 n]/\CntW 330000 n (P1+1+Zij r.t.size 20000+(if r.t.light then 0 else 20001)),?_,?_⟩
   ·refine Zag (ZeY r.t m4 (gi.t.mono (mLt eX cR))) λm5 dX=>Zab (λh=>⟨by trivial,20001,rfl,?_⟩) (λh=>⟨by trivial,_,rfl,?_⟩)
    ·have hl:r.t.light=false:=by simpa using h
     rw[hl,if_neg (by decide)]
     have hp:0<=P1:=by rcases lQ.2.2 with e|⟨_,e⟩ <;> omega
     exact⟨by omega,by omega,.inr ⟨by omega,by omega⟩⟩
    ·have hl:r.t.light=true:=by simpa using h
     rw[hl,if_pos rfl,Zal (n:=1+Zij r.t.size 20000) (by omega) (by omega),Zal (by omega) (by omega)]
     refine⟨by omega,by omega,?_⟩
     rcases lQ.2.2 with e|⟨e1,e2⟩
     ·left;omega
     ·right;omega
   ·rintro n2 m5 dX ⟨n2',jS,rS⟩
    obtain rfl:n2=n2':=by simpa using jS
    generalize uT:P1+1+Zij r.t.size 20000+(if r.t.light then 0 else 20001)=P2 at rS
    have iK:wR r=(P2 - P1)+Zcs (r.acts.map wA):=by unfold wR;rw[<-uT];omega
    have nI:m.le m5:=mLt eX (mLt cR dX)
    refine Zaa rfl ⟨λxs _ _ m' q=>∃(j:Nat)(n:Int),j<=r.acts.length/\xs=[.int .i64 n,.int .i64 j]/\CntW (330000+j*200000) n (P2+Zcs ((r.acts.take j).map wA))/\q=r.acts.length - j,⟨_,0,n2,by omega,rfl,by simpa[Zcs]using rS,rfl⟩,?_⟩
    rintro n3 k3 m6 q gX ⟨j,n3',hj,lp,lR,hq⟩
    simp only[List.cons.injEq,Value.int.injEq,and_true,true_and]at lp
    obtain⟨rfl,rfl⟩:=lp
    subst hq
    have uU:IntKind.i64.wrap ((j:Int)+1)=((j+1:Nat):Int):=by rw[Zal (by omega) (by omega)];rfl
    simp only[uU,Int.toNat_natCast]
    have jD:=mLt nI gX
    have fA:=lR.1
    have tr:=lR.2.1
    refine Zau (λkH=>?_) (λjE=>?_)
    ·have pi:j < r.acts.length:=by have:(j:Int) < (r.acts.length:Int):=kH;omega
     obtain⟨a,jF⟩:=Zdb pi
     have kI:=gi.all a (List.mem_of_getElem? jF)
     obtain⟨b5,o5,kV,qv⟩:=Zam Ac.len ((gi.row).mono jD) jF (by omega)
     have kU:=kI.n
     unfold few at kU
     have wn:=ZsL a.e
     generalize wo:P2+Zcs ((r.acts.take j).map wA)=P3 at lR
     have rT:P2+Zcs ((r.acts.take (j+1)).map wA)=P3+wA a:=by rw[ZeQ wA jF];omega
     have uV:P3+wA a<=s.weight:=by
      have:=Zkj wA Zyy r.acts (j+1)
      omega
     refine Zaa rfl ⟨b5,o5,kV,⟨by omega,by show(j:Int) < (r.acts.length:Int);omega⟩,_,_,_,_,_,_,_,_,qv,λb6=>Zaa rfl ?_⟩
     refine⟨λ_ _ _=>Ret (.int .i64 (nE a.e)),_,rfl,Zpd a.e m6 (RepE.mono' kI.e jD),λv _ _ e=>by rw[show v=_ from e];rfl,λn8 m7 iY rU=>Zaa rfl λM jA im=>Zaa rfl ?_⟩
     obtain rfl:n8=nE a.e:=by cases rU;rfl
     have rV:slN (Value.slice a.pa a.parts.length a.pc)=a.parts.length:=rfl
     rw[rV,Zal (n:=1+nE a.e) (by omega) (by omega),Zal (n:=1+nE a.e+(a.parts.length:Int)) (by omega) (by omega),Zal (by omega) (by omega)]
     have uW:wA a=(1+nE a.e+a.parts.length)+Zcs (a.parts.map λp=>nE p.e):=by unfold wA;omega
     have uX:=mLt jD jA
     refine⟨λxs _ _ m' q=>∃(w:Nat)(n:Int),w<=a.parts.length/\xs=[.int .i64 n,.int .i64 w]/\CntW (330000+(j+1)*200000) n (P3+(1+nE a.e+a.parts.length)+Zcs ((a.parts.take w).map λp=>nE p.e))/\q=a.parts.length - w,⟨_,0,_,by omega,rfl,⟨by omega,by omega,?_⟩,rfl⟩,?_⟩
     ·simp only[List.take_zero,List.map_nil,Zcs]
      rcases lR.2.2 with e|⟨e1,e2⟩
      ·left;omega
      ·right;omega
     rintro n4 k4 m8 q ge ⟨w,n4',hw,mT,mU,hq⟩
     simp only[List.cons.injEq,Value.int.injEq,and_true,true_and]at mT
     obtain⟨rfl,rfl⟩:=mT
     subst hq
     have rW:IntKind.i64.wrap ((w:Int)+1)=((w+1:Nat):Int):=by rw[Zal (by omega) (by omega)];rfl
     simp only[rW,Int.toNat_natCast]
     have nJ:=mLt uX ge
     have uY:m1.le m8:=mLt bA (mLt bS (mLt cR (mLt dX (mLt gX (mLt jA ge)))))
     have qw:=mU.1
     have wp:=mU.2.1
     refine Zau (λlq=>?_) (λlr=>?_)
     ·have pj:w < a.parts.length:=by have:(w:Int) < (a.parts.length:Int):=lq;omega
      obtain⟨p,jL⟩:=Zdb pj
      have gW:=kI.all p (List.mem_of_getElem? jL)
      obtain⟨b7,o7,rX,uZ⟩:=Zam Pt.len ((kI.row).mono nJ) jL (by omega)
      have wq:=ZsL p.e
      have eC:=ZeQ (λp:Pt=>nE p.e) jL
      have u0:=Zkj (λp:Pt=>nE p.e) (λp=>(ZsL p.e).1) a.parts w
      refine Zaa rfl ⟨b7,o7,rX,⟨by omega,by show(w:Int) < (a.parts.length:Int);omega⟩,_,_,_,_,_,_,_,_,uZ,λb8=>Zaa rfl (Zau (λhd=>dark uY (mU.out hd (by omega)) hd) (λhd=>?_))⟩
      refine Zav (Zpd p.e m8 (RepE.mono' gW.e nJ)) λm9 kJ=>⟨by trivial,a.parts.length - (w+1),by omega,w+1,_,by omega,rfl,?_,rfl⟩
      have he:=mU.eq hd
      rw[Zal (by omega) (by omega),eC]
      exact⟨by omega,by omega,.inl (by omega)⟩
     ·have hw':w=a.parts.length:=by have:¬(w:Int) < (a.parts.length:Int):=lr;omega
      subst hw'
      rw[List.take_length]at mU
      refine⟨by trivial,r.acts.length - (j+1),by omega,j+1,n4,by omega,rfl,?_,rfl⟩
      rw[rT,uW]
      exact⟨mU.1,by push_cast;omega,by rcases mU.2.2 with e|e;left;omega;right;omega⟩
    ·have hj':j=r.acts.length:=by have:¬(j:Int) < (r.acts.length:Int):=jE;omega
     subst hj'
     rw[List.take_length]at lR
     have qx:m1.le m6:=mLt bA (mLt bS (mLt cR (mLt dX gX)))
     refine Zau (λhd=>dark qx (lR.out hd (by omega)) hd) (λhd=>⟨by trivial,x.rules.length - (k+1),by omega,k+1,n3,by omega,rfl,?_,rfl⟩)
     rw[ph,iK]
     exact⟨lR.1,by omega,.inl (by have:=lR.eq hd;omega)⟩
  ·have hk':k=x.rules.length:=by have:¬(k:Int) < (x.rules.length:Int):=fM;omega
   subst hk'
   rw[List.take_length]at lQ
   refine⟨by trivial,s.states.length - (i+1),by omega,i+1,n1,by omega,rfl,?_,rfl⟩
   rw[tq];exact lQ
 ·have hi':i=s.states.length:=by omega
  subst hi'
  rw[List.take_length,<-tn]at hC
  refine Zac (mLt aV bA) ?_
  show Value.bool _=Value.bool s.light
  unfold Sc.light
  congr 1
  rw[decide_eq_decide]
  rcases hC.2.2 with e|⟨e1,e2⟩ <;> omega
theorem Zu3(x:Sta)(name:ByteArray)(b:Nat)(m:Mem)(hb:m.reads b 0 [.string name]):CX Tryz.prog 183 #[.agg x.cs.toArray,.pointer (some ⟨b,0,none⟩)] m [] (Ret (.bool (eqS x.s name))):=by
 apply Zkx (c0b:=b) (c0o:=0)
 intro b1 m1 aV _
 exact⟨_,(hb.mono aV) 0 _ rfl,Zaa rfl (Zac aV rfl)⟩
def ZyH(s:Sc)(name:ByteArray):Value->Mem->List (List Value)->Prop:=λv _ _=>∃n:Int,v=.tuple #[.int .i64 n,.bool (Zkk s name)]
theorem Zta{s name}:∀(v:Value)(m':Mem) (css:List (List Value)),ZyH s name v m' css->Shape.fits (.tup [.int .i64,.bool]) v=true:=λv _ _ ⟨_,e⟩=>by rw[e];rfl
theorem ZwI(s:Sc)(name:ByteArray)(m:Mem)(hr:RepC m s):CX Tryz.prog 161 #[s.v,.string name] m [] (ZyH s name):=by
 apply ZoP
 intro b m1 aV _ b1 m2 bA dG
 have fT:=hr.len
 unfold few at fT
 have cJ:=mLt aV bA
 refine Zav (Zl6 s.states s.sa s.sc _ [.pointer (some ⟨b1,0,none⟩)] (λx=>eqS x.s name) m2 (by omega) (hr.row.mono cJ) λx _ m' hm'=>Zu3 x name b1 m' (dG.mono hm')) λm3 bS=>?_
 have eX:=mLt cJ bS
 cases h:s.states.any (λx=>eqS x.s name)with
 | true=>
  refine⟨!s.light,Ze8 (decide_eq_false (by simp)) ?_,Zab (λhl=>Zac eX ⟨_,by unfold Zkk;rw[h];simp at hl;rw[hl];rfl⟩) (λhl=>Zac eX ⟨_,by unfold Zkk;rw[h];simp at hl;rw[hl];rfl⟩)⟩
  exact Zag (ZkT s m3 (hr.mono eX)) λm4 cR=>⟨by trivial,rfl⟩
 | false=>
  refine⟨true,ZpM rfl ⟨by trivial,rfl⟩,ZpM rfl (Zac eX ⟨_,by unfold Zkk;rw[h];rfl⟩)⟩
def Zzt(a:Int×Nat×List Value):List Value:=[.int .i64 a.1,.func (.func a.2.1) #[] a.2.2.toArray]
theorem Zu4(a:Int×Nat×List Value):(Zzt a).length=2:=rfl
theorem Zge(l:List ((Int×Nat×List Value)×Bool))(a:Option Addr)(c:Nat)(m:Mem)(hl:l.length<=100000)(hr:rowRd m a (l.map λx=>Zzt x.1).flatten)
  (hp:∀x∈l,∀m',m.le m'->CX Tryz.prog x.1.2.1 x.1.2.2.toArray m' [] (Ret (.bool x.2))):
  CX Tryz.prog 144 #[.slice a l.length c] m [] (Ret (.int .i64 (Zb7 (l.map λx=>(x.1.1,x.2))))):=by
 apply Zix a l.length c
 refine⟨λxs _ _ m'' q=>∃i:Nat,i<=l.length/\xs=[.int .i64 0,.int .i64 i]/\Zb7 (l.map λx=>(x.1.1,x.2))=Zb7 ((l.drop i).map λx=>(x.1.1,x.2))/\q=l.length - i,⟨l.length,0,by omega,rfl,rfl,by omega⟩,?_⟩
 rintro n k m1 q aV ⟨i,hi,hx,he,hq⟩
 simp only[List.cons.injEq,Value.int.injEq,and_true,true_and]at hx
 obtain⟨rfl,rfl⟩:=hx
 refine Zau (λbB=>?_) (λdF=>?_)
 ·have bQ:i < l.length:=by have:(i:Int) < (l.length:Int):=bB;omega
  obtain⟨x,hx⟩:=Zdb bQ
  have hd:l.drop i=x::l.drop (i+1):=by
   rw[List.drop_eq_getElem_cons bQ,(List.getElem?_eq_some_iff.1 hx).2]
  obtain⟨b1,o1,ha,eI⟩:=Zam (cs:=λx:(Int×Nat×List Value)×Bool=>Zzt x.1) (λx=>Zu4 x.1) (hr.mono aV) hx (by omega)
  refine⟨b1,o1,ha,⟨by omega,by show(i:Int) < (l.length:Int);omega⟩,_,_,eI,λb2=>Zaa rfl ⟨_,_,_,rfl,?_⟩⟩
  refine Zag (hp x (List.mem_of_getElem? hx) m1 aV) λm2 bA=>Zab (λh=>Zac (mLt aV bA) ?_) (λh=>?_)
  ·show Value.int _ _=Value.int _ _
   rw[he,hd,List.map_cons,Zb7,if_pos h]
  ·refine⟨l.length - (i+1),by omega,i+1,by omega,by rw[Zal (by omega) (by omega)];rfl,?_,rfl⟩
   rw[he,hd,List.map_cons,Zb7,if_neg (by rw[h];decide)]
 ·have hi':i=l.length:=by have:¬(i:Int) < (l.length:Int):=dF;omega
  refine Zac aV ?_
  show Value.int _ _=Value.int _ _
  rw[he,hi',List.drop_length];rfl
theorem Ztb(v:Va)(m:Mem):CX Tryz.prog 147 #[.agg #[.bool v.b,.string v.t,.float .f64 v.x]] m [] (Ret (.bool (Zfk v))):=by
 apply Zkz
 intro b m1 aV _
 refine Zab (λhb=>⟨Zfk v,Zag (Zo7 v.x m1) λm2 bA=>Zab (λh=>⟨by trivial,Zae ?_⟩) (λh=>⟨by trivial,Zae ?_⟩),Zac aV rfl⟩) (λhb=>⟨Zfk v,⟨_,Zo6 v.x,Zaa rfl (Zab (λh=>⟨by trivial,Zae ?_⟩) (λh=>⟨by trivial,Zae ?_⟩))⟩,Zac aV rfl⟩)
 ·unfold Zfk;rw[hb,if_pos rfl,h,Zb6];rfl
 ·unfold Zfk;rw[hb,if_pos rfl,h];rfl
 ·unfold Zfk;rw[hb,if_neg (by decide)]
  have:v.x=0:=by
   have h2:=eq_of_beq (show((v.x:Int) == 0)=true from h);omega
  rw[this]
  show decide ((v.t.size:Int)<=512)=(true&&decide (v.t.size<=512))
  rw[Bool.true_and,decide_eq_decide];omega
 ·unfold Zfk;rw[hb,if_neg (by decide)]
  have:¬v.x=0:=by
   intro e
   have h2:((v.x:Int) == 0)=false:=h
   rw[e]at h2;simp at h2
  rw[beq_eq_false_iff_ne.2 this];rfl
theorem ZkU(p q:Pt)(b:Nat)(m:Mem)(hq:RepP m q)(hb:m.reads b 0 q.cs):CX Tryz.prog 189 #[p.v,.pointer (some ⟨b,0,none⟩)] m [] (Ret (.bool (q.s.toList == p.s.toList&&(q.g == p.g&&(p.k == 4||ZpK q.e))))):=by
 apply Zc8 (c0b:=b) (c0o:=0)
 intro b1 m1 aV _
 have dG:=hb.mono aV
 refine⟨q.s.toList == p.s.toList&&(q.g == p.g&&(p.k == 4||ZpK q.e)),⟨_,dG 1 _ rfl,Zaa rfl (Zab (λh=>⟨_,dG 2 _ rfl,Zaa rfl (Zab (λh2=>Zab (λh3=>⟨by trivial,Zae ?_⟩) (λh3=>⟨q.e.k |> Value.int .u8,.float .f64 q.e.x,.string q.e.s,.int .i64 q.e.g,.slice q.e.a q.e.subs.length q.e.c,?_,?_⟩)) (λh2=>⟨by trivial,Zae ?_⟩))⟩) (λh=>⟨by trivial,Zae ?_⟩))⟩,Zac aV rfl⟩
 ·have h:(q.s.toList == p.s.toList)=true:=h
  have h2:(q.g == p.g)=true:=h2
  rw[h,h2,h3];rfl
 ·exact λi v hi=>by
   have:=dG (3+i) v (by unfold Pt.cs;rw[show 3+i=i+3 from by omega];exact hi)
   rw[show 0+3+i=0+(3+i) from by omega];exact this
 ·have h:(q.s.toList == p.s.toList)=true:=h
  have h2:(q.g == p.g)=true:=h2
  refine Zag (ZrE q.e E0 m1 (RepE.mono aV _ hq.e) (ZvI m1)) λm2 bA=>⟨by trivial,Zae ?_⟩
  rw[h,h2,h3];rfl
 ·have h:(q.s.toList == p.s.toList)=true:=h
  have h2:(q.g == p.g)=false:=h2
  rw[h,h2];rfl
 ·have h:(q.s.toList == p.s.toList)=false:=h
  rw[h];rfl
theorem Zm8(p:Pt)(m:Mem)(hp:RepP m p):CX Tryz.prog 172 #[p.v] m [] (Ret (.bool (ZbC p))):=by
 apply ZdF
 intro b m1 aV hb
 have s7:=hp.mono aV
 have one:=λ(p':Pt)(M:Mem)(hM:m1.le M)=>ZkU p' p b M (s7.mono hM) (hb.mono hM)
 have jY:∀x:ByteArray,((⟨#[]⟩:ByteArray).toList == x.toList)=(x.size == 0):=λx=>by rw[<-Zb6,Bool.beq_comm]
 refine Zab (λh1=>⟨ZbC p,Zau (λh2=>Zau (λh3=>Zag (one ⟨p.k,p.s,0,E0⟩ m1 (Mem.le_refl _)) λm2 bA=>⟨by trivial,Zae ?_⟩) (λh3=>⟨by trivial,Zae ?_⟩)) (λh2=>⟨by trivial,Zae ?_⟩),Zac aV rfl⟩)
  (λh1=>Zab (λh2=>⟨ZbC p,Zag (ZhF p.s hp.s m1) λm2 bA=>Zab (λh3=>Zag (one ⟨p.k,p.s,0,E0⟩ m2 bA) λm3 bS=>⟨by trivial,Zae ?_⟩) (λh3=>⟨by trivial,Zae ?_⟩),Zac aV rfl⟩)
   (λh2=>Zab (λh3=>⟨ZbC p,Zau (λh4=>Zau (λh5=>Zag (one ⟨p.k,⟨#[]⟩,p.g,E0⟩ m1 (Mem.le_refl _)) λm2 bA=>⟨by trivial,Zae ?_⟩) (λh5=>⟨by trivial,Zae ?_⟩)) (λh4=>⟨by trivial,Zae ?_⟩),Zac aV rfl⟩)
    (λh3=>Zab (λh4=>⟨ZbC p,Zag (Zo9 p.e m1 (RepE.mono aV _ hp.e)) λm2 bA=>Zab (λh5=>Zag (one ⟨p.k,⟨#[]⟩,0,E0⟩ m2 bA) λm3 bS=>⟨by trivial,Zae ?_⟩) (λh5=>⟨by trivial,Zae ?_⟩),Zac aV rfl⟩) (λh4=>Zac aV ?_))))
 ·have k1:p.k=1:=by simpa using h1
  have g2:p.s.size > 0:=by omega
  have g3:p.s.size<=512:=by omega
  unfold ZbC;simp[k1,g2,g3]
 ·have k1:p.k=1:=by simpa using h1
  have g3:¬p.s.size<=512:=by omega
  unfold ZbC;rw[if_pos k1,decide_eq_false g3];simp
 ·have k1:p.k=1:=by simpa using h1
  have g2:¬p.s.size > 0:=by omega
  unfold ZbC;rw[if_pos k1,decide_eq_false g2];rfl
 ·have k2:p.k=2:=by simpa using h2
  unfold ZbC;simp[k2,h3]
 ·have k2:p.k=2:=by simpa using h2
  unfold ZbC;simp[k2,h3]
 ·have k3:p.k=3:=by simpa using h3
  unfold ZbC;rw[if_neg (by omega),if_neg (by omega),if_pos k3,decide_eq_true h4,decide_eq_true h5,Zb6];simp[k3]
 ·have k3:p.k=3:=by simpa using h3
  unfold ZbC;rw[if_neg (by omega),if_neg (by omega),if_pos k3,decide_eq_false h5];simp
 ·have k3:p.k=3:=by simpa using h3
  unfold ZbC;rw[if_neg (by omega),if_neg (by omega),if_pos k3,decide_eq_false h4];simp
 ·have k4:p.k=4:=by simpa using h4
  unfold ZbC;rw[if_neg (by omega),if_neg (by omega),if_neg (by omega),if_pos k4,h5,Zb6];simp[k4]
 ·have k4:p.k=4:=by simpa using h4
  unfold ZbC;rw[if_neg (by omega),if_neg (by omega),if_neg (by omega),if_pos k4,h5];rfl
 ·have k1:¬p.k=1:=by simpa using h1
  have k2:¬p.k=2:=by simpa using h2
  have k3:¬p.k=3:=by simpa using h3
  have k4:¬p.k=4:=by simpa using h4
  show Value.bool false=Value.bool (ZbC p)
  unfold ZbC;rw[if_neg k1,if_neg k2,if_neg k3,if_neg k4]
theorem Ztc(r:Ru)(m:Mem)(hr:RepR m r):CX Tryz.prog 157 #[.agg r.cs.toArray] m [] (Ret (.bool (Za4 r))):=by
 apply Zhi
 intro b m1 aV _
 refine⟨Zxh r,Zab (λh=>⟨by trivial,Zae ?_⟩) (λh=>Zab (λh2=>⟨by trivial,Zae ?_⟩) (λh2=>Zag (ZwB r.t T0 m1 (hr.t.mono aV) (ZxT m1)) λm2 bA=>⟨by trivial,Zae ?_⟩)),?_⟩
 ·unfold Zxh;rw[h];rfl
 ·unfold Zxh;rw[h,h2];rfl
 ·unfold Zxh;rw[h,h2];rfl
 refine Zab (λk2=>?_) (λk2=>Zab (λk4=>?_) (λk4=>Zab (λk3=>?_) (λk3=>Zab (λk1=>?_) (λk1=>?_))))
 ·have k2:r.k=2:=by simpa using k2
  refine⟨Za4 r,Zab (λh=>Zab (λh2=>Zag (Zey r.s.size 1 64 m1) λm2 bA=>⟨by trivial,Zae ?_⟩) (λh2=>⟨by trivial,Zae ?_⟩)) (λh=>⟨by trivial,Zae ?_⟩),Zac aV rfl⟩
  ·unfold Za4;rw[if_pos k2,h,show(r.n == 0)=true from h2];rfl
  ·unfold Za4;rw[if_pos k2,h,show(r.n == 0)=false from h2];rfl
  ·unfold Za4;rw[if_pos k2,h];rfl
 ·have k2:¬r.k=2:=by simpa using k2
  have k4:r.k=4:=by simpa using k4
  refine⟨Za4 r,Zab (λh=>Zab (λh2=>Zag (Zey r.n 1 1000 m1) λm2 bA=>⟨by trivial,Zae ?_⟩) (λh2=>⟨by trivial,Zae ?_⟩)) (λh=>⟨by trivial,Zae ?_⟩),Zac aV rfl⟩
  ·rw[Zb6]at h2;unfold Za4;rw[if_neg k2,if_pos k4,h,h2];rfl
  ·rw[Zb6]at h2;unfold Za4;rw[if_neg k2,if_pos k4,h,h2];rfl
  ·unfold Za4;rw[if_neg k2,if_pos k4,h];rfl
 ·have k2:¬r.k=2:=by simpa using k2
  have k4:¬r.k=4:=by simpa using k4
  have k3:r.k=3:=by simpa using k3
  refine Zab (λh=>Zac aV ?_) (λh=>⟨Za4 r,Zab (λh2=>⟨by trivial,Zae ?_⟩) (λh2=>⟨by trivial,Zae ?_⟩),Zac aV rfl⟩)
  ·show Value.bool false=Value.bool (Za4 r)
   unfold Za4;rw[if_neg k2,if_neg k4,if_pos k3,h];rfl
  ·rw[Zb6]at h2;unfold Za4;rw[if_neg k2,if_neg k4,if_pos k3,h,h2];rfl
  ·rw[Zb6]at h2;unfold Za4;rw[if_neg k2,if_neg k4,if_pos k3,h,h2];rfl
 ·have k2:¬r.k=2:=by simpa using k2
  have k4:¬r.k=4:=by simpa using k4
  have k3:¬r.k=3:=by simpa using k3
  have k1:r.k=1:=by simpa using k1
  refine⟨Za4 r,Zab (λh2=>⟨by trivial,Zae ?_⟩) (λh2=>⟨by trivial,Zae ?_⟩),Zac aV rfl⟩
  ·rw[Zb6]at h2;unfold Za4;rw[if_neg k2,if_neg k4,if_neg k3,if_pos k1,h2];rfl
  ·rw[Zb6]at h2;unfold Za4;rw[if_neg k2,if_neg k4,if_neg k3,if_pos k1,h2];rfl
 ·have k2:¬r.k=2:=by simpa using k2
  have k4:¬r.k=4:=by simpa using k4
  have k3:¬r.k=3:=by simpa using k3
  have k1:¬r.k=1:=by simpa using k1
  refine Zac aV ?_
  show Value.bool false=Value.bool (Za4 r)
  unfold Za4;rw[if_neg k2,if_neg k4,if_neg k3,if_neg k1]
theorem Zck{m:Mem}{b o:Nat}{cs:List Value}(h:m.reads b o cs)(k n:Nat):m.reads b (o+k) ((cs.drop k).take n):=λi v hi=>by
 rw[Nat.add_assoc]
 refine h (k+i) v ?_
 rw[List.getElem?_take]at hi
 split at hi
 ·rwa [List.getElem?_drop]at hi
 ·cases hi
theorem Zpe{α:Type}{cs:α->List Value}{m:Mem}{a:Option Addr}{L:List α}(h:rowRd m a (L.map cs).flatten)(k:Nat):rowRd m a ((L.take k).map cs).flatten:=by
 have e:(L.map cs).flatten=((L.take k).map cs).flatten++((L.drop k).map cs).flatten:=by
  rw[<-List.flatten_append,<-List.map_append,List.take_append_drop]
 rw[e]at h
 rcases h with h|⟨b,o,ha,h⟩
 ·exact .inl (List.append_eq_nil_iff.1 h).1
 ·refine .inr ⟨b,o,ha,λj v hj=>h j v ?_⟩
  rw[List.getElem?_append_left (List.getElem?_eq_some_iff.1 hj).1];exact hj
section
variable {m:Mem} {b:Nat}
theorem Ztd(s:Sc)(hb:m.reads b 0 s.cs):CX Tryz.prog 150 #[.pointer (some ⟨b,0,none⟩)] m [] (Ret (.bool (!ZbB s.n 2 256))):=by
 apply Zgq (c0b:=b) (c0o:=0)
 refine⟨_,hb 0 _ rfl,Zag (Zey s.n 2 256 m) λm1 aV=>Zac aV rfl⟩
theorem Zte(s:Sc)(hb:m.reads b 0 s.cs):CX Tryz.prog 152 #[.pointer (some ⟨b,0,none⟩)] m [] (Ret (.bool (!ZbB s.states.length 1 24||decide (s.vars.length > 12)))):=by
 apply Zgr (c0b:=b) (c0o:=0)
 refine⟨!ZbB s.states.length 1 24||decide (s.vars.length > 12),⟨_,hb 2 _ rfl,Zaa rfl (Zag (Zey s.states.length 1 24 m) λm1 aV=>Zab (λh=>Zae ?_) (λh=>⟨_,(hb.mono aV) 1 _ rfl,Zaa rfl (Zae ?_)⟩))⟩,Zac (Mem.le_refl m) rfl⟩
 ·rw[h];rfl
 ·rw[h]
  show decide ((s.vars.length:Int) > 12)=(false||decide (s.vars.length > 12))
  rw[Bool.false_or,decide_eq_decide];omega
theorem Zu5(s:Sc)(hr:RepC m s):CX Tryz.prog 137 #[s.v] m [] (Ret (.int .i64 (ZsM s))):=by
 apply ZiB
 intro b m1 aV hb b1 hf
 have cJ:=Mem.le_add hf ([.int .i64 300,.func (.func 150) #[] #[.pointer (some ⟨b,0,none⟩)],.int .i64 302,.func (.func 152) #[] #[.pointer (some ⟨b,0,none⟩)]])
 refine Zav (Zge [((300,150,[.pointer (some ⟨b,0,none⟩)]),!ZbB s.n 2 256),((302,152,[.pointer (some ⟨b,0,none⟩)]),!ZbB s.states.length 1 24||decide (s.vars.length > 12))] _ 2 _ (by simp) (.inr ⟨b1,0,rfl,Zb3 m1 b1 _⟩) λx hx m' hm'=>?_) λm2 bA=>Zac (mLt aV (mLt cJ bA)) rfl
 have hb':=hb.mono (mLt cJ hm')
 simp only[List.mem_cons,List.not_mem_nil,or_false]at hx
 rcases hx with rfl|rfl
 ·exact Ztd s hb'
 ·exact Zte s hb'
theorem ZkV(v x:Va)(m:Mem)(b:Nat)(hb:m.reads b 0 v.cs):CX Tryz.prog 149 #[.agg x.cs.toArray,.pointer (some ⟨b,0,none⟩)] m [] (Ret (.bool (eqS x.s v.s))):=by
 apply ZdG (c0b:=b) (c0o:=0)
 intro b1 m1 aV _
 exact⟨_,(hb.mono aV) 0 _ rfl,Zaa rfl (Zac aV rfl)⟩
theorem Zm9(s:Sc)(i:Nat)(v:Va)(m:Mem)(b0 b1 b2:Nat)(hr:RepC m s)(hi:i<=s.vars.length)(hv:RepV v)(h0:m.reads b0 0 v.cs)(h1:m.reads b1 0 s.cs)(h2:m.reads b2 0 [.int .i64 i]):
  CX Tryz.prog 145 #[.pointer (some ⟨b0,0,none⟩),.pointer (some ⟨b1,0,none⟩),.pointer (some ⟨b2,0,none⟩)] m [] (Ret (.bool (!Zct v.s||(!Zfk v||(s.vars.take i).any λx=>eqS x.s v.s)))):=by
 apply Zev (c0b:=b0) (c0o:=0) (c1b:=b1) (c1o:=0) (c2b:=b2) (c2o:=0)
 have fR:=hr.vlen
 unfold few at fR
 refine⟨_,h0 0 _ rfl,Zag (ZhF v.s hv.s m) λm1 aV=>Zab (λh=>Zac aV ?_) (λh=>⟨_,_,_,Zck (h0.mono aV) 1 3,Zag (Ztb v m1) λm2 bA=>Zab (λh'=>Zac (mLt aV bA) ?_) (λh'=>?_)⟩)⟩
 ·show Value.bool true=Value.bool _
  rw[h];rfl
 ·show Value.bool true=Value.bool _
  rw[h,h'];rfl
 ·have hm:=mLt aV bA
  have hc:=hr.vcap
  have key:=Zs8 (s.vars.take i) s.va s.vc 149 [.pointer (some ⟨b0,0,none⟩)] (λx=>eqS x.s v.s) m2 (by rw[List.length_take];omega) (Zpe (hr.vrow.mono hm) i) λx _ m' hm'=>ZkV v x m' b0 (h0.mono (mLt hm hm'))
  rw[List.length_take,Nat.min_eq_left hi]at key
  refine⟨_,(h1.mono hm) 1 _ rfl,_,(h2.mono hm) 0 _ rfl,Zaa rfl (Zaa rfl ⟨⟨Int.natCast_nonneg i,by show(i:Int)<=(s.vc:Int);omega⟩,Zag key λm3 bS=>Zac (mLt hm bS) ?_⟩)⟩
  show Value.bool _=Value.bool _
  rw[h,h'];rfl
theorem Zpf(s:Sc)(i:Nat)(v:Va)(m:Mem)(hr:RepC m s)(hi:s.vars[i]?=some v):CX Tryz.prog 136 #[s.v,.int .i64 i] m [] (Ret (.int .i64 (Zfl s i v))):=by
 apply Zft
 intro b m1 aV hb b1 m2 bA dG
 have fR:=hr.vlen
 unfold few at fR
 have bB:=(List.getElem?_eq_some_iff.1 hi).1
 have cJ:=mLt aV bA
 obtain⟨b2,o2,ha,hx⟩:=Zam Va.len (hr.vrow.mono cJ) hi (by omega)
 refine⟨b2,o2,ha,⟨by omega,by omega⟩,_,_,_,_,hx,λb3=>Zaa rfl λb4 hf m3 bS fA=>?_⟩
 have lS:=mLt (Mem.le_add hf _) bS
 have eX:=mLt cJ lS
 refine Zav (Zge [((301,145,[.pointer (some ⟨b3,0,none⟩),.pointer (some ⟨b,0,none⟩),.pointer (some ⟨b1,0,none⟩)]),!Zct v.s||(!Zfk v||(s.vars.take i).any λx=>eqS x.s v.s))] _ 1 _ (by simp) (.inr ⟨b4,0,rfl,(Zb3 m2 b4 _).mono bS⟩) λx hx m' hm'=>?_) λm4 cR=>Zac (mLt eX cR) rfl
 simp only[List.mem_cons,List.not_mem_nil,or_false]at hx
 subst hx
 have hl':=mLt lS hm'
 exact Zm9 s i v m' b3 b b1 (hr.mono (mLt eX hm')) (by omega) (hr.vall v (List.mem_of_getElem? hi)) (fA.mono hm') (hb.mono (mLt bA hl')) (dG.mono hl')
theorem ZqH(v x:Sta)(m:Mem)(b:Nat)(hb:m.reads b 0 v.cs):CX Tryz.prog 155 #[.agg x.cs.toArray,.pointer (some ⟨b,0,none⟩)] m [] (Ret (.bool (eqS x.s v.s))):=by
 apply ZeW (c0b:=b) (c0o:=0)
 intro b1 m1 aV _
 exact⟨_,(hb.mono aV) 0 _ rfl,Zaa rfl (Zac aV rfl)⟩
theorem Ztf(s:Sc)(i:Nat)(v:Sta)(m:Mem)(b0 b1 b2:Nat)(hr:RepC m s)(hi:i<=s.states.length)(hv:RepS m v)(h0:m.reads b0 0 v.cs)(h1:m.reads b1 0 s.cs)(h2:m.reads b2 0 [.int .i64 i]):
  CX Tryz.prog 153 #[.pointer (some ⟨b0,0,none⟩),.pointer (some ⟨b1,0,none⟩),.pointer (some ⟨b2,0,none⟩)] m [] (Ret (.bool (!Zct v.s||(decide (v.rules.length > 12)||(s.states.take i).any λx=>eqS x.s v.s)))):=by
 apply Zgt (c0b:=b0) (c0o:=0) (c1b:=b1) (c1o:=0) (c2b:=b2) (c2o:=0)
 have fR:=hr.len
 unfold few at fR
 refine⟨_,h0 0 _ rfl,Zag (ZhF v.s hv.s m) λm1 aV=>Zab (λh=>Zac aV ?_) (λh=>⟨_,(h0.mono aV) 1 _ rfl,Zaa rfl (Zau (λh'=>Zac aV ?_) (λh'=>?_))⟩)⟩
 ·show Value.bool true=Value.bool _
  rw[h];rfl
 ·have h':(v.rules.length:Int) > 12:=h'
  show Value.bool true=Value.bool _
  rw[h,decide_eq_true (by omega)];rfl
 ·have h':¬(v.rules.length:Int) > 12:=h'
  have hc:=hr.scap
  have key:=Zs7 (s.states.take i) s.sa s.sc 155 [.pointer (some ⟨b0,0,none⟩)] (λx=>eqS x.s v.s) m1 (by rw[List.length_take];omega) (Zpe (hr.row.mono aV) i) λx _ m' hm'=>ZqH v x m' b0 (h0.mono (mLt aV hm'))
  rw[List.length_take,Nat.min_eq_left hi]at key
  refine⟨_,(h1.mono aV) 2 _ rfl,_,(h2.mono aV) 0 _ rfl,Zaa rfl (Zaa rfl ⟨⟨Int.natCast_nonneg i,by show(i:Int)<=(s.sc:Int);omega⟩,Zag key λm3 bS=>Zac (mLt aV bS) ?_⟩)⟩
  show Value.bool _=Value.bool _
  rw[h,decide_eq_false (by omega)];rfl
theorem Zu6(s:Sc)(i:Nat)(v:Sta)(m:Mem)(hr:RepC m s)(hi:s.states[i]?=some v):CX Tryz.prog 138 #[s.v,.int .i64 i] m [] (Ret (.int .i64 (ZoD s i v))):=by
 apply ZiC
 intro b m1 aV hb b1 m2 bA dG
 have fR:=hr.len
 unfold few at fR
 have bB:=(List.getElem?_eq_some_iff.1 hi).1
 have cJ:=mLt aV bA
 obtain⟨b2,o2,ha,hx⟩:=Zam Sta.len (hr.row.mono cJ) hi (by omega)
 refine⟨b2,o2,ha,⟨by omega,by omega⟩,_,_,hx,λb3=>Zaa rfl λb4 hf m3 bS fA=>?_⟩
 have lS:=mLt (Mem.le_add hf _) bS
 have eX:=mLt cJ lS
 refine Zav (Zge [((303,153,[.pointer (some ⟨b3,0,none⟩),.pointer (some ⟨b,0,none⟩),.pointer (some ⟨b1,0,none⟩)]),!Zct v.s||(decide (v.rules.length > 12)||(s.states.take i).any λx=>eqS x.s v.s))] _ 1 _ (by simp) (.inr ⟨b4,0,rfl,(Zb3 m2 b4 _).mono bS⟩) λx hx m' hm'=>?_) λm4 cR=>Zac (mLt eX cR) rfl
 simp only[List.mem_cons,List.not_mem_nil,or_false]at hx
 subst hx
 have hl':=mLt lS hm'
 have h0':=mLt eX hm'
 exact Ztf s i v m' b3 b b1 (hr.mono h0') (by omega) ((hr.all v (List.mem_of_getElem? hi)).mono h0') (fA.mono hm') (hb.mono (mLt bA hl')) (dG.mono hl')
theorem Zu7(r:Ru)(m:Mem)(b:Nat)(hr:RepR m r)(hb:m.reads b 0 r.cs):CX Tryz.prog 156 #[.pointer (some ⟨b,0,none⟩)] m [] (Ret (.bool (!Za4 r||decide (r.acts.length > 8)))):=by
 apply Zhm (c0b:=b) (c0o:=0)
 refine⟨!Za4 r||decide (r.acts.length > 8),⟨_,_,_,_,_,_,_,_,_,_,_,_,_,_,_,_,hb,Zag (Ztc r m hr) λm1 aV=>Zab (λh=>Zae ?_) (λh=>⟨_,(hb.mono aV) 13 _ rfl,Zaa rfl (Zae ?_)⟩)⟩,Zac (Mem.le_refl m) rfl⟩
 ·rw[h];rfl
 ·rw[h]
  show decide ((r.acts.length:Int) > 8)=(false||decide (r.acts.length > 8))
  rw[Bool.false_or,decide_eq_decide];omega
theorem Zu8(r:Ru)(total:Int)(m:Mem)(b b1:Nat)(hr:RepR m r)(hb:m.reads b 0 r.cs)(dG:m.reads b1 0 [.int .i64 total]):CX Tryz.prog 158 #[.pointer (some ⟨b,0,none⟩),.pointer (some ⟨b1,0,none⟩)] m [] (Ret (.bool (r.k == 1&&(!(r.t.check == 0)||decide (total > 600))))):=by
 apply Zhn (c0b:=b) (c0o:=0) (c1b:=b1) (c1o:=0)
 refine⟨r.k == 1&&(!(r.t.check == 0)||decide (total > 600)),⟨_,hb 0 _ rfl,Zaa rfl (Zab (λh=>⟨_,_,_,_,_,_,_,_,_,_,Zck hb 1 10,Zav (ZuS r.bg r.en r.t m hr.t) λm1 aV=>Zab (λh2=>Zae ?_) (λh2=>⟨_,(dG.mono aV) 0 _ rfl,Zaa rfl (Zae ?_)⟩)⟩) (λh=>Zae ?_))⟩,Zac (Mem.le_refl m) rfl⟩
 ·rw[show(r.k == 1)=true from h,h2];rfl
 ·rw[show(r.k == 1)=true from h,h2];rfl
 ·rw[show(r.k == 1)=false from h];rfl
theorem Zu9(s:Sc)(r:Ru)(m:Mem)(b b1:Nat)(hs:RepC m s)(hr:RepR m r)(hb:m.reads b 0 s.cs)(dG:m.reads b1 0 r.cs):CX Tryz.prog 160 #[.pointer (some ⟨b,0,none⟩),.pointer (some ⟨b1,0,none⟩)] m [] (Ret (.bool (if r.go.size=0 then !ZbB r.code 0 255 else !Zkk s r.go||!(r.code == 0)))):=by
 apply Zho (c0b:=b) (c0o:=0) (c1b:=b1) (c1o:=0)
 refine⟨_,_,_,hb,_,dG 14 _ rfl,Zaj (ZwI s r.go m hs) Zta ?_⟩
 rintro n ok m1 aV ⟨n',hv⟩
 have cW:ok=Zkk s r.go:=by
  have hv:Value.tuple (Array.mk [Value.int .i64 n,Value.bool ok])=Value.tuple #[.int .i64 n',.bool (Zkk s r.go)]:=hv
  simp only[Value.tuple.injEq,Array.mk.injEq,List.cons.injEq,Value.bool.injEq,and_true]at hv
  exact hv.2
 subst cW
 refine⟨_,(dG.mono aV) 14 _ rfl,Zaa rfl (Zab (λh=>⟨_,(dG.mono aV) 15 _ rfl,Zag (Zey r.code 0 255 m1) λm2 bA=>Zac (mLt aV bA) ?_⟩) (λh=>⟨!Zkk s r.go||!(r.code == 0),Zab (λh2=>Zae ?_) (λh2=>⟨_,(dG.mono aV) 15 _ rfl,Zaa rfl (Zae ?_)⟩),Zac aV ?_⟩))⟩
 ·have h:(r.go.size == 0)=true:=by rw[<-Zb6];exact h
  show Value.bool _=Value.bool _
  rw[if_pos (by simpa using h)]
 ·rw[h2];rfl
 ·rw[h2];rfl
 ·have h:(r.go.size == 0)=false:=by rw[<-Zb6];exact h
  show Value.bool _=Value.bool _
  rw[if_neg (by simpa using h)]
theorem ZwJ(s:Sc)(r:Ru)(total:Int)(m:Mem)(hs:RepC m s)(hr:RepR m r):CX Tryz.prog 139 #[s.v,.agg r.cs.toArray,.int .i64 total] m [] (Ret (.int .i64 (ZpL s r total))):=by
 apply ZkF
 intro b m1 aV hb b1 m2 bA dG b2 m3 bS fD b3 hf
 have eX:=mLt aV (mLt bA bS)
 refine Zav (Zge [((304,156,[.pointer (some ⟨b1,0,none⟩)]),!Za4 r||decide (r.acts.length > 8)),((305,158,[.pointer (some ⟨b1,0,none⟩),.pointer (some ⟨b2,0,none⟩)]),r.k == 1&&(!(r.t.check == 0)||decide (total > 600))),
  ((306,160,[.pointer (some ⟨b,0,none⟩),.pointer (some ⟨b1,0,none⟩)]),if r.go.size=0 then !ZbB r.code 0 255 else !Zkk s r.go||!(r.code == 0))] _ 3 _ (by simp) (.inr ⟨b3,0,rfl,Zb3 m3 b3 _⟩) λx hx m' hm'=>?_) λm4 cR=>Zac (mLt eX (mLt (Mem.le_add hf _) cR)) rfl
 have hl:=mLt (Mem.le_add hf _) hm'
 have h0':=mLt eX hl
 simp only[List.mem_cons,List.not_mem_nil,or_false]at hx
 rcases hx with rfl|rfl|rfl
 ·exact Zu7 r m' b1 (hr.mono h0') (dG.mono (mLt bS hl))
 ·exact Zu8 r total m' b1 b2 (hr.mono h0') (dG.mono (mLt bS hl)) (fD.mono hl)
 ·exact Zu9 s r m' b b1 (hs.mono h0') (hr.mono h0') (hb.mono (mLt bA (mLt bS hl))) (dG.mono (mLt bS hl))
end
def Zt9(a:Ac):Bool:=!ZbB a.k 1 3||(a.k == 1&&!(a.s.size == 0))||(a.k == 3&&decide (a.parts.length > 0))||(a.k == 3&&!a.e.clean)||(!(a.k == 3)&&!ZpK a.e)||decide (a.parts.length > 16)
theorem ZqI(a:Ac)(m:Mem)(b b1:Nat)(hr:RepA m a)(hb:m.reads b 0 a.cs)(dG:m.reads b1 0 [.bool (a.k == 3)]):CX Tryz.prog 162 #[.pointer (some ⟨b,0,none⟩),.pointer (some ⟨b1,0,none⟩)] m [] (Ret (.bool (Zt9 a))):=by
 apply Zfv (c0b:=b) (c0o:=0) (c1b:=b1) (c1o:=0)
 have hw:IntKind.i64.wrap a.k=a.k:=Zal (by have:=hr.k;omega) (by have:=hr.k;omega)
 have num:∀{M:Mem} {Q:Bool->Prop},m.le M->Q (a.k == 3)->∃v:Value,M.c b1 0=some v/\∃x:Bool,v=.bool x/\Q x:=λhM h=>⟨_,(dG.mono hM) 0 _ rfl,_,rfl,h⟩
 have big:∀{M:Mem},m.le M->Zt9 a=decide (a.parts.length > 16)->∃v:Value,M.c b (0+2)=some v/\chk (Zbl v) ([Value.bool (decide ((slN v:Int) > 16))]=[Value.bool (Zt9 a)]):=λhM h=>⟨_,(hb.mono hM) 2 _ rfl,Zaa rfl (Zae (by
  rw[h]
  show decide ((a.parts.length:Int) > 16)=decide (a.parts.length > 16)
  rw[decide_eq_decide];omega))⟩
 refine⟨Zt9 a,?_,Zac (Mem.le_refl m) rfl⟩
 refine⟨_,hb 0 _ rfl,Zaa rfl ?_⟩
 show ∃R:RT,True/\CX Tryz.prog 151 #[.int .i64 (IntKind.i64.wrap a.k),.int .i64 1,.int .i64 3] m [] R/\_
 rw[hw]
 refine Zag (Zey a.k 1 3 m) λm1 aV=>Zab (λh=>Zae ?_) (λiw=>⟨_,(hb.mono aV) 0 _ rfl,Zaa rfl ?_⟩)
 ·unfold Zt9;rw[h];rfl
 cases hn:(a.k == 3)with
 | true=>
  have hk:a.k=3:=by simpa using hn
  refine Ze8 (by show(a.k == 1)=false;rw[hk];rfl) (num aV (ZpM hn ⟨_,(hb.mono aV) 2 _ rfl,Zaa rfl (Zau (λh=>Zae ?_) (λh=>num aV (ZpM hn ⟨_,_,_,_,_,Zck (hb.mono aV) 3 5,Zag (Zo9 a.e m1 (RepE.mono aV _ hr.e)) λm2 bA=>Zab (λh2=>Zae ?_) (λh2=>num (mLt aV bA) (Ze8 (by rw[hn];rfl) (big (mLt aV bA) ?_)))⟩)))⟩))
  ·have h:(a.parts.length:Int) > 0:=h
   unfold Zt9;rw[hn,decide_eq_true (p:=a.parts.length > 0) (by omega),iw];simp
  ·have h:¬(a.parts.length:Int) > 0:=h
   unfold Zt9;rw[hn,h2];simp
  ·have h:¬(a.parts.length:Int) > 0:=h
   unfold Zt9;rw[hn,h2,iw,decide_eq_false (p:=a.parts.length > 0) (by omega),hk];simp
 | false=>
  refine Zab (λh1=>⟨_,(hb.mono aV) 1 _ rfl,Zaa rfl (Zab (λh=>Zae ?_) (λh=>num aV (Ze8 hn (num aV (Ze8 hn (num aV (ZpM (by rw[hn];rfl) ⟨_,_,_,_,_,Zck (hb.mono aV) 3 5,Zag (Zt8 a.e m1 (RepE.mono aV _ hr.e)) λm2 bA=>Zab (λh2=>Zae ?_) (λh2=>big (mLt aV bA) ?_)⟩)))))))⟩)
   (λh1=>num aV (Ze8 hn (num aV (Ze8 hn (num aV (ZpM (by rw[hn];rfl) ⟨_,_,_,_,_,Zck (hb.mono aV) 3 5,Zag (Zt8 a.e m1 (RepE.mono aV _ hr.e)) λm2 bA=>Zab (λh2=>Zae ?_) (λh2=>big (mLt aV bA) ?_)⟩))))))
  ·have h1:(a.k == 1)=true:=h1
   have h:(!(a.s.size == 0))=true:=by rw[<-Zb6];exact h
   unfold Zt9;rw[h1,h];simp
  ·unfold Zt9;rw[hn,h2];simp
  ·have h:(!(a.s.size == 0))=false:=by rw[<-Zb6];exact h
   unfold Zt9;rw[hn,h2,h,iw];simp
  ·unfold Zt9;rw[hn,h2];simp
  ·have h1:(a.k == 1)=false:=h1
   unfold Zt9;rw[hn,h2,h1,iw];simp
def ZwK(s:Sc)(a:Ac):Bool:=(!(a.k == 1)&&(!(Zdd s a.s).2||!((Zdd s a.s).1 == (a.k == 3))))||(a.k == 3&&!Zdx s a.e)
theorem ZqJ(s:Sc)(a:Ac)(m:Mem)(b b1 b2:Nat)(hs:RepC m s)(hr:RepA m a)(hb:m.reads b 0 s.cs)(dG:m.reads b1 0 a.cs)(fD:m.reads b2 0 [.bool (a.k == 3)]):
  CX Tryz.prog 165 #[.pointer (some ⟨b,0,none⟩),.pointer (some ⟨b1,0,none⟩),.pointer (some ⟨b2,0,none⟩)] m [] (Ret (.bool (ZwK s a))):=by
 apply Zfw (c0b:=b) (c0o:=0) (c1b:=b1) (c1o:=0) (c2b:=b2) (c2o:=0)
 refine⟨_,_,_,hb,_,dG 1 _ rfl,Zaj (ZrG s a.s m hs) (λv _ _ e=>by rw[show v=_ from e];rfl) ?_⟩
 intro x y m1 aV hv
 have hv:Value.tuple (Array.mk [Value.bool x,Value.bool y])=Value.tuple #[.bool (Zdd s a.s).1,.bool (Zdd s a.s).2]:=hv
 simp only[Value.tuple.injEq,Array.mk.injEq,List.cons.injEq,Value.bool.injEq,and_true]at hv
 obtain⟨rfl,rfl⟩:=hv
 have num:∀{M:Mem} {Q:Bool->Prop},m.le M->Q (a.k == 3)->∃v:Value,M.c b2 0=some v/\∃x:Bool,v=.bool x/\Q x:=λhM h=>⟨_,(fD.mono hM) 0 _ rfl,_,rfl,h⟩
 have three:ZwK s a=(a.k == 3&&!Zdx s a.e)->∃v:Value,m1.c b2 0=some v/\∃x:Bool,v=.bool x/\br x (∃v v4 v5:Value,m1.reads b 0 [v,v4,v5]/\∃v6 v7 v8 v9 v10:Value,m1.reads b1 (0+3) [v6,v7,v8,v9,v10]/\∃R:RT,True/\CX Tryz.prog 167 #[.agg #[v,v4,v5],.agg #[v6,v7,v8,v9,v10]] m1 [] R/\Zap .bool R/\∀(x:Bool)(m':Mem),m1.le m'->R (.bool x) m' []->[Value.bool !x]=[Value.bool (ZwK s a)]) ([Value.bool false]=[Value.bool (ZwK s a)]):=λhe=>num aV (Zab (λh3=>⟨_,_,_,hb.mono aV,_,_,_,_,_,Zck (dG.mono aV) 3 5,Zag (Zh9 s a.e m1 (hs.mono aV) (RepE.mono aV _ hr.e)) λm2 bA=>Zae (by rw[he,h3];rfl)⟩) (λh3=>Zae (by rw[he,h3];rfl)))
 refine⟨ZwK s a,⟨_,(dG.mono aV) 0 _ rfl,Zaa rfl (Zab (λh1=>Zab (λh2=>Zae ?_) (λh2=>num aV (Zab (λh3=>Zae ?_) (λh3=>three ?_)))) (λh1=>three ?_))⟩,Zac aV rfl⟩
 ·have h1:(!(a.k == 1))=true:=h1
  unfold ZwK;rw[h1,h2];rfl
 ·have h1:(!(a.k == 1))=true:=h1
  unfold ZwK;rw[h1,h3];simp
 ·have h1:(!(a.k == 1))=true:=h1
  unfold ZwK;rw[h1,h2,h3];rfl
 ·have h1:(!(a.k == 1))=false:=h1
  unfold ZwK;rw[h1];rfl
def ZyI(r:Ru)(a:Ac):Bool:=a.k == 3&&decide (a.e.most > Zcc r)
theorem ZqK(r:Ru)(a:Ac)(m:Mem)(b b1 b2:Nat)(hr:RepR m r)(ha:RepA m a)(hb:m.reads b 0 [.bool (a.k == 3)])(dG:m.reads b1 0 a.cs)(fD:m.reads b2 0 r.cs):
  CX Tryz.prog 168 #[.pointer (some ⟨b,0,none⟩),.pointer (some ⟨b1,0,none⟩),.pointer (some ⟨b2,0,none⟩)] m [] (Ret (.bool (ZyI r a))):=by
 apply Zfx (c0b:=b) (c0o:=0) (c1b:=b1) (c1o:=0) (c2b:=b2) (c2o:=0)
 refine⟨λi _ _=>match i with
  | 4=>Ret (.int .i64 a.e.most)
  | _=>Ret (.int .i64 (Zcc r)),_,hb 0 _ rfl,_,rfl,Zab (λh=>?_) (λh M hM _ _=>Zac hM ?_)⟩
 ·refine⟨_,_,_,_,_,Zck dG 3 5,_,rfl,ZrF a.e m ha.e,λv _ _ e=>by rw[show v=_ from e];rfl,λn m1 aV hn=>?_⟩
  obtain rfl:n=a.e.most:=by cases hn;rfl
  refine⟨_,_,_,_,_,_,_,_,_,_,_,_,_,_,_,_,fD,_,rfl,Zgd r m1 (hr.t.mono aV),λv _ _ e=>by rw[show v=_ from e];rfl,λn1 m2 bA hn M hM _ _=>Zac hM ?_⟩
  obtain rfl:n1=Zcc r:=by cases hn;rfl
  show Value.bool _=Value.bool (ZyI r a)
  unfold ZyI;rw[h];rfl
 ·show Value.bool _=Value.bool (ZyI r a)
  unfold ZyI;rw[h];rfl
theorem Ztg(s:Sc)(r:Ru)(a:Ac)(m:Mem)(hs:RepC m s)(hr:RepR m r)(ha:RepA m a):CX Tryz.prog 140 #[s.v,.agg r.cs.toArray,.agg a.cs.toArray] m [] (Ret (.int .i64 (ZdR s r a))):=by
 apply Zhp
 intro b m1 aV hb b1 m2 bA dG b2 m3 bS fD b3 b4 hf m4 cR fA
 have eX:=mLt aV (mLt bA bS)
 have lS:=mLt (Mem.le_add hf _) cR
 refine Zav (Zge [((307,162,[.pointer (some ⟨b2,0,none⟩),.pointer (some ⟨b3,0,none⟩)]),Zt9 a),((308,165,[.pointer (some ⟨b,0,none⟩),.pointer (some ⟨b2,0,none⟩),.pointer (some ⟨b3,0,none⟩)]),ZwK s a),
  ((309,168,[.pointer (some ⟨b3,0,none⟩),.pointer (some ⟨b2,0,none⟩),.pointer (some ⟨b1,0,none⟩)]),ZyI r a)] _ 3 _ (by simp) (.inr ⟨b4,0,rfl,(Zb3 m3 b4 _).mono cR⟩) λx hx m' hm'=>?_) λm5 dX=>Zac (mLt eX (mLt lS dX)) rfl
 have hl:=mLt lS hm'
 have h0':=mLt eX hl
 simp only[List.mem_cons,List.not_mem_nil,or_false]at hx
 rcases hx with rfl|rfl|rfl
 ·exact ZqI a m' b2 b3 (ha.mono h0') (fD.mono hl) (fA.mono hm')
 ·exact ZqJ s a m' b b2 b3 (hs.mono h0') (ha.mono h0') (hb.mono (mLt bA (mLt bS hl))) (fD.mono hl) (fA.mono hm')
 ·exact ZqK r a m' b3 b2 b1 (hr.mono h0') (ha.mono h0') (fA.mono hm') (fD.mono hl) (dG.mono (mLt bS hl))
def ZrH(l:List Pt)(i:Nat)(p:Pt):Bool:=!ZbC p||(decide (i > 0)&&(p.k == 1&&(match l[i - 1]? with
 | some q=>q.k == 1
 | none=>false)))
theorem Zva(l:List Pt)(a:Option Addr)(c:Nat)(i:Nat)(p:Pt)(m:Mem)(b b1 b2:Nat)(hl:l.length<=few)(bF:rowRd m a (l.map Pt.cs).flatten)(hi:i<=l.length)(hp:RepP m p)(hb:m.reads b 0 p.cs)(dG:m.reads b1 0 [.int .i64 i])(fD:m.reads b2 0 [.slice a l.length c]):
  CX Tryz.prog 171 #[.pointer (some ⟨b,0,none⟩),.pointer (some ⟨b1,0,none⟩),.pointer (some ⟨b2,0,none⟩)] m [] (Ret (.bool (ZrH l i p))):=by
 apply Zhq (c0b:=b) (c0o:=0) (c1b:=b1) (c1o:=0) (c2b:=b2) (c2o:=0)
 unfold few at hl
 refine⟨ZrH l i p,⟨_,_,_,_,_,_,_,_,hb,Zag (Zm8 p m hp) λm1 aV=>Zab (λh=>Zae ?_) (λh=>⟨_,(dG.mono aV) 0 _ rfl,Zaa rfl (Zau (λh2=>⟨_,(hb.mono aV) 0 _ rfl,Zaa rfl (Zab (λh3=>?_) (λh3=>Zae ?_))⟩) (λh2=>Zae ?_))⟩)⟩,Zac (Mem.le_refl m) rfl⟩
 ·unfold ZrH;rw[h];rfl
 ·have h2:(i:Int) > 0:=h2
  have h3:(p.k == 1)=true:=h3
  have bB:i - 1 < l.length:=by omega
  obtain⟨q,hq⟩:=Zdb bB
  have hw:IntKind.i64.wrap ((i:Int) - 1)=((i - 1:Nat):Int):=by rw[Zal (by omega) (by omega)];omega
  obtain⟨b3,o3,ha,hx⟩:=Zam Pt.len (bF.mono aV) hq (by omega)
  refine⟨_,(fD.mono aV) 0 _ rfl,_,(dG.mono aV) 0 _ rfl,Zaa rfl (Zaa rfl ⟨b3,o3,ha,?_,.int .u8 q.k,?_,Zaa rfl (Zae ?_)⟩)⟩
  ·show Zaf (IntKind.i64.wrap ((i:Int) - 1)) l.length
   rw[hw];exact⟨by omega,by omega⟩
  ·show m1.c b3 (o3+(IntKind.i64.wrap ((i:Int) - 1)).toNat*8+0)=_
   rw[hw,Int.toNat_natCast]
   exact hx 0 _ rfl
  ·show(q.k == 1)=_
   unfold ZrH;rw[h,decide_eq_true (p:=i > 0) (by omega),h3,hq];rfl
 ·have h3:(p.k == 1)=false:=h3
  unfold ZrH;rw[h,h3];simp
 ·have h2:¬(i:Int) > 0:=h2
  unfold ZrH;rw[h,decide_eq_false (p:=i > 0) (by omega)];rfl
def ZpN(s:Sc)(p:Pt):Bool:=(p.k == 2&&!(Zdd s p.s).2)||(p.k == 4&&!Zdx s p.e)
theorem Zvb(s:Sc)(p:Pt)(m:Mem)(b b1:Nat)(hs:RepC m s)(hp:RepP m p)(hb:m.reads b 0 s.cs)(dG:m.reads b1 0 p.cs):
  CX Tryz.prog 173 #[.pointer (some ⟨b,0,none⟩),.pointer (some ⟨b1,0,none⟩)] m [] (Ret (.bool (ZpN s p))):=by
 apply Zhr (c0b:=b) (c0o:=0) (c1b:=b1) (c1o:=0)
 refine⟨_,_,_,hb,_,dG 1 _ rfl,Zaj (ZrG s p.s m hs) (λv _ _ e=>by rw[show v=_ from e];rfl) ?_⟩
 intro x y m1 aV hv
 have hv:Value.tuple (Array.mk [Value.bool x,Value.bool y])=Value.tuple #[.bool (Zdd s p.s).1,.bool (Zdd s p.s).2]:=hv
 simp only[Value.tuple.injEq,Array.mk.injEq,List.cons.injEq,Value.bool.injEq,and_true]at hv
 obtain⟨rfl,rfl⟩:=hv
 refine⟨ZpN s p,⟨_,(dG.mono aV) 0 _ rfl,Zaa rfl (Zab (λh1=>Zab (λh2=>Zae ?_) (λh2=>⟨_,(dG.mono aV) 0 _ rfl,Zaa rfl (Zab (λh3=>⟨_,_,_,hb.mono aV,_,_,_,_,_,Zck (dG.mono aV) 3 5,Zag (Zh9 s p.e m1 (hs.mono aV) (RepE.mono aV _ hp.e)) λm2 bA=>Zae ?_⟩) (λh3=>Zae ?_))⟩))
  (λh1=>⟨_,(dG.mono aV) 0 _ rfl,Zaa rfl (Zab (λh3=>⟨_,_,_,hb.mono aV,_,_,_,_,_,Zck (dG.mono aV) 3 5,Zag (Zh9 s p.e m1 (hs.mono aV) (RepE.mono aV _ hp.e)) λm2 bA=>Zae ?_⟩) (λh3=>Zae ?_))⟩))⟩,Zac aV rfl⟩
 ·have h1:(p.k == 2)=true:=h1
  unfold ZpN;rw[h1,h2];rfl
 ·have h1:(p.k == 2)=true:=h1
  have h3:(p.k == 4)=true:=h3
  unfold ZpN;rw[h1,h2,h3];rfl
 ·have h1:(p.k == 2)=true:=h1
  have h3:(p.k == 4)=false:=h3
  unfold ZpN;rw[h1,h2,h3];rfl
 ·have h1:(p.k == 2)=false:=h1
  have h3:(p.k == 4)=true:=h3
  unfold ZpN;rw[h1,h3];rfl
 ·have h1:(p.k == 2)=false:=h1
  have h3:(p.k == 4)=false:=h3
  unfold ZpN;rw[h1,h3];rfl
def Znq(r:Ru)(p:Pt):Bool:=(p.k == 3&&decide (p.g > Zcc r))||(p.k == 4&&decide (p.e.most > Zcc r))
theorem Zvc(r:Ru)(p:Pt)(m:Mem)(b b1:Nat)(hr:RepR m r)(hp:RepP m p)(hb:m.reads b 0 p.cs)(dG:m.reads b1 0 r.cs):
  CX Tryz.prog 174 #[.pointer (some ⟨b,0,none⟩),.pointer (some ⟨b1,0,none⟩)] m [] (Ret (.bool (Znq r p))):=by
 apply Zhs (c0b:=b) (c0o:=0) (c1b:=b1) (c1o:=0)
 refine⟨λi _ _=>match i with
  | 17=>Ret (.int .i64 p.e.most)
  | _=>Ret (.int .i64 (Zcc r)),_,hb 0 _ rfl,Zaa rfl (Zab (λh3=>?_) (λh3=>?_))⟩
 ·have h3:(p.k == 3)=true:=h3
  have hk:p.k=3:=by simpa using h3
  refine⟨_,hb 2 _ rfl,_,_,_,_,_,_,_,_,_,_,_,_,_,_,_,_,dG,_,rfl,Zgd r m hr.t,λv _ _ e=>by rw[show v=_ from e];rfl,λn m1 aV hn=>?_⟩
  obtain rfl:n=Zcc r:=by cases hn;rfl
  refine Zaa rfl (Zau (λh=>λM hM _ _ _=>Zac hM ?_) (λh=>⟨_,(hb.mono aV) 0 _ rfl,Zaa rfl (Ze8 (by show(p.k == 4)=false;rw[hk];rfl) λM hM _ _ _=>Zac hM ?_)⟩))
  ·have h:p.g > Zcc r:=h
   show Value.bool _=Value.bool (Znq r p)
   unfold Znq;rw[h3,decide_eq_true h];rfl
  ·have h:¬p.g > Zcc r:=h
   show Value.bool _=Value.bool (Znq r p)
   unfold Znq;rw[decide_eq_false h,hk];rfl
 ·have h3:(p.k == 3)=false:=h3
  refine⟨_,hb 0 _ rfl,Zaa rfl (Zab (λh4=>?_) (λh4 M hM _ _ _=>Zac hM ?_))⟩
  ·have h4:(p.k == 4)=true:=h4
   refine⟨_,_,_,_,_,Zck hb 3 5,_,rfl,ZrF p.e m hp.e,λv _ _ e=>by rw[show v=_ from e];rfl,λn m1 aV hn=>?_⟩
   obtain rfl:n=p.e.most:=by cases hn;rfl
   refine⟨_,_,_,_,_,_,_,_,_,_,_,_,_,_,_,_,dG,_,rfl,Zgd r m1 (hr.t.mono aV),λv _ _ e=>by rw[show v=_ from e];rfl,λn1 m2 bA hn M hM _ _ _=>Zac hM ?_⟩
   obtain rfl:n1=Zcc r:=by cases hn;rfl
   show Value.bool _=Value.bool (Znq r p)
   unfold Znq;rw[h3,h4];rfl
  ·have h4:(p.k == 4)=false:=h4
   show Value.bool _=Value.bool (Znq r p)
   unfold Znq;rw[h3,h4];rfl
theorem Zrv(s:Sc)(r:Ru)(l:List Pt)(i:Nat)(p:Pt):Znp s r l i p=Zb7 [(307,ZrH l i p),(308,ZpN s p),(309,Znq r p)]:=rfl
theorem ZwL(s:Sc)(r:Ru)(l:List Pt)(a:Option Addr)(c:Nat)(i:Nat)(p:Pt)(m:Mem)(hs:RepC m s)(hr:RepR m r)(hl:l.length<=few)(bF:rowRd m a (l.map Pt.cs).flatten)(cN:∀x∈l,RepP m x)(hi:l[i]?=some p):
  CX Tryz.prog 141 #[s.v,.agg r.cs.toArray,.slice a l.length c,.int .i64 i] m [] (Ret (.int .i64 (Znp s r l i p))):=by
 apply ZkG
 intro b m1 aV hb b1 m2 bA dG b2 m3 bS fD b3 m4 cR fA
 have nK:=mLt bS cR
 have jQ:=mLt bA nK
 have jG:=mLt aV jQ
 have bB:=(List.getElem?_eq_some_iff.1 hi).1
 have hl':=hl
 unfold few at hl'
 obtain⟨b4,o4,ha,hx⟩:=Zam Pt.len (bF.mono jG) hi (by omega)
 refine⟨b4,o4,ha,⟨by omega,by omega⟩,_,_,_,_,_,_,_,_,hx,λb5=>Zaa rfl λb6 hf m5 dX rY=>?_⟩
 have tu:=mLt (Mem.le_add hf _) dX
 refine Zav (Zge [((307,171,[.pointer (some ⟨b5,0,none⟩),.pointer (some ⟨b3,0,none⟩),.pointer (some ⟨b2,0,none⟩)]),ZrH l i p),((308,173,[.pointer (some ⟨b,0,none⟩),.pointer (some ⟨b5,0,none⟩)]),ZpN s p),
  ((309,174,[.pointer (some ⟨b5,0,none⟩),.pointer (some ⟨b1,0,none⟩)]),Znq r p)] _ 3 _ (by simp) (.inr ⟨b6,0,rfl,(Zb3 m4 b6 _).mono dX⟩) λx hx m' hm'=>?_) λm6 gX=>Zac (mLt jG (mLt tu gX)) rfl
 have hl:=mLt tu hm'
 have h0':=mLt jG hl
 have hp:=(cN p (List.mem_of_getElem? hi)).mono h0'
 simp only[List.mem_cons,List.not_mem_nil,or_false]at hx
 rcases hx with rfl|rfl|rfl
 ·exact Zva l a c i p m' b5 b3 b2 (by unfold few;omega) (bF.mono h0') (by omega) hp (rY.mono hm') (fA.mono hl) (fD.mono (mLt cR hl))
 ·exact Zvb s p m' b b5 (hs.mono h0') hp (hb.mono (mLt jQ hl)) (rY.mono hm')
 ·exact Zvc r p m' b5 b1 (hr.mono h0') hp (rY.mono hm') (dG.mono (mLt nK hl))
theorem ZnC(r:Ru):0<=sizeR r/\sizeR r<=10001:=by
 have:=ZlX r.t
 unfold sizeR;split <;> omega
theorem ZwM{α:Type}(f:α->Int)(B:Int)(l:List α)(hf:∀x∈l,f x<=B):Zcs (l.map f)<=l.length*B:=by
 induction l with
 | nil=>simp[Zcs]
 | cons x l ih=>
  have h1:=hf x (by simp)
  have h2:=ih λy hy=>hf y (by simp[hy])
  simp only[List.map_cons,Zcs,List.length_cons]
  push_cast
  rw[Int.add_mul];omega
def Zth(x:Sta):Int:=Zcs (x.rules.map sizeR)
def T0s(s:Sc)(i:Nat):Int:=Zcs ((s.states.take i).map Zth)
theorem Zti{s:Sc}{i:Nat}{x:Sta}(h:s.states[i]?=some x)(k:Nat):totals s i k=T0s s i+Zcs ((x.rules.take (k+1)).map sizeR):=by
 unfold totals;rw[h];rfl
theorem ZnD{m:Mem}{x:Sta}(hx:RepS m x)(k:Nat):0<=Zcs ((x.rules.take k).map sizeR)/\Zcs ((x.rules.take k).map sizeR)<=1000100000:=by
 have hl:=hx.len
 unfold few at hl
 refine⟨Zir _ (λr=>(ZnC r).1) _,?_⟩
 have:=ZwM sizeR 10001 (x.rules.take k) λr _=>(ZnC r).2
 rw[List.length_take]at this
 omega
theorem Zza{m:Mem}{s:Sc}(hs:RepC m s)(i:Nat):0<=T0s s i/\T0s s i<=100010000000000:=by
 have hl:=hs.len
 unfold few at hl
 refine⟨Zir _ (λx=>Zir _ (λr=>(ZnC r).1) _) _,?_⟩
 have:=ZwM Zth 1000100000 (s.states.take i) λx hx=>by
  have:=(ZnD (hs.all x (List.mem_of_mem_take hx)) x.rules.length).2
  rw[List.take_length]at this;exact this
 rw[List.length_take]at this
 unfold T0s;omega
def ZvP(s:Sc)(i n:Nat):List Value:=(List.range n).map λj=>.int .i64 (totals s i j)
theorem Zvd(s:Sc)(i n:Nat):(ZvP s i n).length=n:=by simp[ZvP]
theorem Ztj(s:Sc)(i n:Nat):ZvP s i (n+1)=ZvP s i n++[.int .i64 (totals s i n)]:=by simp[ZvP,List.range_succ]
def TotI(s:Sc)(i:Nat)(a:Option Addr)(vs:List Value)(m:Mem):Prop:=vs.length=i/\rowRd m a vs/\∀(k:Nat)(x:Sta),k < i->s.states[k]?=some x->∃ak ck,vs[k]?=some (.slice ak x.rules.length ck)/\rowRd m ak (ZvP s k x.rules.length)
theorem TotI.mono{s:Sc}{i:Nat}{a:Option Addr}{vs:List Value}{m m':Mem}(h:TotI s i a vs m)(hm:m.le m'):TotI s i a vs m':=⟨h.1,h.2.1.mono hm,λk x hk hx=>by
 obtain⟨ak,ck,h1,h2⟩:=h.2.2 k x hk hx
 exact⟨ak,ck,h1,h2.mono hm⟩⟩
def ZzE(s:Sc):Value->Mem->List (List Value)->Prop:=λv m _=>∃a c vs,v=.slice a s.states.length c/\TotI s s.states.length a vs m
theorem Zve{s}:∀(v:Value)(m':Mem) (css:List (List Value)),ZzE s v m' css->Shape.fits .slice v=true:=λv _ _ ⟨_,_,_,e,_⟩=>by rw[e];rfl
set_option maxHeartbeats 1000000 in
theorem Ztk(s:Sc)(m:Mem)(hr:RepC m s):CX Tryz.prog 117 #[s.v] m [] (ZzE s):=by
 apply Zht
 intro b m1 aV _
 have fT:=hr.len
 unfold few at fT
 refine⟨λxs _ tks m' q=>∃(i:Nat)(a:Option Addr)(c:Nat)(vs:List Value),i<=s.states.length/\xs=[.int .i64 (T0s s i),.slice a i c,.int .i64 i]/\tks=[.slice a i c]/\m1.le m'/\TotI s i a vs m'/\q=s.states.length - i,
  ⟨s.states.length,0,none,0,[],by omega,rfl,rfl,Mem.le_refl _,⟨rfl,.inl rfl,λk x hk=>absurd hk (by omega)⟩,rfl⟩,?_⟩
 rintro n a n1 c n2 a1 n3 c1 m2 q bA ⟨i,A,C,vs,hi,hx,ht,cJ,hT,hq⟩
 simp only[List.cons.injEq,Value.int.injEq,Value.slice.injEq,and_true,true_and]at hx ht
 obtain⟨rfl,⟨ea,en,ec⟩,rfl⟩:=hx
 obtain⟨ea',en',ec'⟩:=ht
 subst a1 n3 c1 a n1 c
 subst hq
 have eW:=mLt aV bA
 have hw:∀k:Nat,k<=100000->IntKind.i64.wrap ((k:Int)+1)=((k+1:Nat):Int):=λk hk=>by rw[Zal (by omega) (by omega)];rfl
 refine Zau (λbB=>?_) (λdF=>?_)
 ·have bB:(i:Int) < (s.states.length:Int):=bB
  have bQ:i < s.states.length:=by omega
  obtain⟨x,hx⟩:=Zdb bQ
  have eA:=hr.all x (List.mem_of_getElem? hx)
  have jC:=eA.len
  unfold few at jC
  obtain⟨b2,o2,ha,gO⟩:=Zam Sta.len (hr.row.mono eW) hx (by omega)
  refine⟨b2,o2,ha,⟨by omega,by omega⟩,_,_,by rw[Int.toNat_natCast];exact gO,λb3=>Zaa rfl (Zaa rfl ?_)⟩
  refine⟨λxs _ tks m' q=>∃(k:Nat)(ak:Option Addr)(ck:Nat),k<=x.rules.length/\xs=[.int .i64 (T0s s i+Zcs ((x.rules.take k).map sizeR)),.slice ak k ck,.int .i64 k]/\tks=[.slice ak k ck]/\rowRd m' ak (ZvP s i k)/\q=x.rules.length - k,
   ⟨x.rules.length,0,none,0,by omega,by simp[Zcs],rfl,.inl rfl,rfl⟩,?_⟩
  rintro n a4 n5 c2 n6 a5 n7 c3 m3 q bS ⟨k,ak,ck,hk,kG,tw,bF,hq⟩
  simp only[List.cons.injEq,Value.int.injEq,Value.slice.injEq,and_true,true_and]at kG tw
  obtain⟨rfl,⟨ea,en,ec⟩,rfl⟩:=kG
  obtain⟨ea',en',ec'⟩:=tw
  subst a5 n7 c3 a4 n5 c2
  subst hq
  have eX:=mLt eW bS
  refine Zau (λeL=>?_) (λfM=>?_)
  ·have eL:(k:Int) < (x.rules.length:Int):=eL
   obtain⟨r,ig⟩:=Zdb (show k < x.rules.length by omega)
   have gi:=eA.all r (List.mem_of_getElem? ig)
   obtain⟨b4,o4,pk,lp⟩:=Zam Ru.len (eA.row.mono eX) ig (by omega)
   have sX:=Zza hr i
   have gj:=ZnD eA k
   have u2:=ZnD eA (k+1)
   have eC:=ZeQ sizeR ig
   have pm:=Zti hx k
   have next:∀{M M2:Mem} {b5:Nat} {z:Int} {Q:Option Addr->Nat->Mem->Prop},m3.le M->M.free b5->z=totals s i k->(∀(a':Option Addr)(c':Nat)(m':Mem),M.le m'->rowRd m' a' (ZvP s i (k+1))->Q a' c' m')->
     (Tok.mk (.slice ak k ck) 1=Tok.mk (.slice ak k ck) 1\/Value.slice ak k ck=.slice none 0 0\/ck < k+1)/\∃xs ys:List Value,xs.length=k*1/\ys.length=1*1/\rowRd (M.add b5 [.int .i64 z]) ak xs/\rowRd (M.add b5 [.int .i64 z]) (some ⟨b5,0,none⟩) ys/\(∀u∈ys,u.oneCell'=true)/\
      (k+1)*8<=140737488355328/\k+1<=9223372036854775807/\∀(a':Option Addr)(c':Nat)(m':Mem),(M.add b5 [.int .i64 z]).le m'->rowRd m' a' (xs++ys)->Q a' c' m':=λ{M M2 b5 z Q} hM hf hz hQ=>
    ⟨.inl rfl,ZvP s i k,[.int .i64 z],by rw[Zvd];omega,rfl,bF.mono (mLt hM (Mem.le_add hf _)),.inr ⟨b5,0,rfl,Zb3 M b5 _⟩,by simp[Value.oneCell'],by omega,by omega,λa' c' m' hm' hr'=>hQ a' c' m' (mLt (Mem.le_add hf _) hm') (by rw[Ztj,<-hz];exact hr')⟩
   refine Zaa rfl ⟨b4,o4,pk,⟨by omega,eL⟩,_,_,_,_,_,_,_,_,_,_,_,_,_,_,_,_,by rw[Int.toNat_natCast];exact lp,λb5=>Zaa rfl (Zaa rfl (Zab (λgk=>?_) (λgk b6 hf=>?_)))⟩
   ·have gk:r.k=1:=eq_of_beq (show(r.k == 1)=true from gk)
    have hz:sizeR r=r.t.size:=by unfold sizeR;rw[if_pos gk]
    refine Zav (Zrx r.t m3 (gi.t.mono eX)) λm4 cR b6 hf=>?_
    have cE:=ZlX r.t
    rw[Zal (n:=_+r.t.size) (by omega) (by omega)]
    refine next (M2:=m4) cR hf (by rw[pm,eC,hz];omega) λa' c' m' hm' hr'=>⟨rfl,rfl,x.rules.length - (k+1),by omega,k+1,a',c',by omega,?_,rfl,hr',rfl⟩
    rw[hw k (by omega),eC,hz]
    simp only[Int.add_assoc]
   ·have gk:¬r.k=1:=λe=>by
     have:(r.k == 1)=false:=gk
     rw[e]at this;simp at this
    have hz:sizeR r=0:=by unfold sizeR;rw[if_neg gk]
    refine next (M2:=m3) (Mem.le_refl _) hf (by rw[pm,eC,hz];omega) λa' c' m' hm' hr'=>⟨rfl,rfl,x.rules.length - (k+1),by omega,k+1,a',c',by omega,?_,rfl,hr',rfl⟩
    rw[hw k (by omega),eC,hz,Int.add_zero]
  ·have fM:¬(k:Int) < (x.rules.length:Int):=fM
   obtain rfl:k=x.rules.length:=by omega
   intro b3 hf
   have jO:=hT.mono (mLt bS (Mem.le_add hf [.slice ak x.rules.length ck]))
   refine⟨.inl rfl,vs,[.slice ak x.rules.length ck],by rw[hT.1];omega,rfl,jO.2.1,.inr ⟨b3,0,rfl,Zb3 m3 b3 _⟩,by simp[Value.oneCell'],by omega,by omega,λa' c' m' hm' hr'=>⟨rfl,s.states.length - (i+1),by omega,i+1,a',c',vs++[.slice ak x.rules.length ck],by omega,?_,rfl,mLt cJ (mLt bS (mLt (Mem.le_add hf _) hm')),⟨by rw[List.length_append,hT.1];rfl,hr',λj y hj hy=>?_⟩,rfl⟩⟩
   ·rw[hw i (by omega),List.take_length]
    have:T0s s (i+1)=T0s s i+Zth x:=ZeQ Zth hx
    rw[this];rfl
   ·by_cases ly:j < i
    ·obtain⟨aj,cj,h1,h2⟩:=jO.2.2 j y ly hy
     exact⟨aj,cj,by rw[List.getElem?_append_left (by rw[hT.1];omega)];exact h1,h2.mono hm'⟩
    ·obtain rfl:j=i:=by omega
     obtain rfl:x=y:=by rw[hx]at hy;exact Option.some.inj hy
     exact⟨ak,ck,by rw[List.getElem?_append_right (by rw[hT.1];omega),hT.1];simp,bF.mono (mLt (Mem.le_add hf _) hm')⟩
 ·have dF:¬(i:Int) < (s.states.length:Int):=dF
  obtain rfl:i=s.states.length:=by omega
  exact⟨m2,eW,Mem.le_refl _,A,C,vs,rfl,hT⟩
theorem ZzF{m:Mem}{a:Option Addr}{vs:List Value}(h:rowRd m a vs){k:Nat}{v:Value}(hk:vs[k]?=some v):∃b o,a=some ⟨b,o,none⟩/\m.c b (o+k*1)=some v:=by
 rcases h with h|⟨b,o,ha,h⟩
 ·rw[h]at hk;simp at hk
 ·exact⟨b,o,ha,by rw[Nat.mul_one];exact h k v hk⟩
theorem Zzb(s:Sc)(ta:Option Addr)(tc:Nat)(vs:List Value)(p:Pl)(m:Mem)(hr:RepC m s)(hT:TotI s s.states.length ta vs m)(hp:Zzr s p):
  CX Tryz.prog 119 #[s.v,.slice ta s.states.length tc,.agg p.cs.toArray] m [] (Ret (.int .i64 (atS s p))):=by
 obtain⟨pv,ps,pr,pa,pp⟩:=p
 dsimp only[Zzr]at hp
 dsimp only[Pl.cs]
 show CX Tryz.prog 119 #[s.v,.slice ta s.states.length tc,.agg #[.int .i64 pv,.int .i64 ps,.int .i64 pr,.int .i64 pa,.int .i64 pp]] m [] _
 apply ZoQ
 intro b m1 aV _ b1 m2 bA _
 have hm:=mLt aV bA
 have fR:=hr.vlen
 have fT:=hr.len
 unfold few at fR fT
 rcases hp with⟨i,rfl,v,hv⟩|⟨hv,hp⟩
 ·refine ZpM (decide_eq_true (Int.natCast_nonneg i)) (Zav (Zpf s i v m2 (hr.mono hm) hv) λm3 bS=>Zac (mLt hm bS) ?_)
  show Value.int _ _=Value.int _ _
  unfold atS;rw[if_pos (Int.natCast_nonneg i),Int.toNat_natCast,hv]
 have hv:pv < 0:=hv
 refine Ze8 (decide_eq_false (by omega)) ?_
 rcases hp with hs|⟨i,rfl,x,hx,hp⟩
 ·have hs:ps < 0:=hs
  refine ZpM (decide_eq_true hs) (Zav (Zu5 s (hr.mono hm)) λm3 bS=>Zac (mLt hm bS) ?_)
  show Value.int _ _=Value.int _ _
  unfold atS;rw[if_neg (by show ¬pv ≥ 0;omega),if_pos hs]
 refine Ze8 (decide_eq_false (by omega)) ?_
 have u4:=(List.getElem?_eq_some_iff.1 hx).1
 have at0:∀q:Pl,q.v=pv->q.s=i->atS s q=if q.r < 0 then ZoD s i x else match x.rules[q.r.toNat]? with
   | none=>0
   | some r=>if q.a < 0 then ZpL s r (totals s i q.r.toNat)else match r.acts[q.a.toNat]? with
    | none=>0
    | some a=>if q.p < 0 then ZdR s r a else match a.parts[q.p.toNat]? with
     | none=>0
     | some z=>Znp s r a.parts q.p.toNat z:=λq h1 h2=>by
  unfold atS;rw[h1,h2,if_neg (by omega),if_neg (by omega),Int.toNat_natCast,hx]
  rfl
 rcases hp with hs|⟨k,rfl,r,ig,hp⟩
 ·have hs:pr < 0:=hs
  refine ZpM (decide_eq_true hs) (Zav (Zu6 s i x m2 (hr.mono hm) hx) λm3 bS=>Zac (mLt hm bS) ?_)
  show Value.int _ _=Value.int _ _
  rw[at0 _ rfl rfl,if_pos hs]
 refine Ze8 (decide_eq_false (by omega)) ?_
 have jB:=List.mem_of_getElem? hx
 have eA:=(hr.all x jB).mono hm
 have jC:=eA.len
 unfold few at jC
 have lD:=(List.getElem?_eq_some_iff.1 ig).1
 have qt:=List.mem_of_getElem? ig
 have gi:=eA.all r qt
 have pg:=gi.len
 unfold few at pg
 obtain⟨b2,o2,mV,gO⟩:=Zam Sta.len (hr.row.mono hm) hx (by omega)
 obtain⟨b3,o3,f4,kG⟩:=Zam Ru.len eA.row ig (by omega)
 have at1:∀q:Pl,q.v=pv->q.s=i->q.r=k->atS s q=if q.a < 0 then ZpL s r (totals s i k)else match r.acts[q.a.toNat]? with
    | none=>0
    | some a=>if q.p < 0 then ZdR s r a else match a.parts[q.p.toNat]? with
     | none=>0
     | some z=>Znp s r a.parts q.p.toNat z:=λq h1 h2 h3=>by
  rw[at0 q h1 h2,h3,if_neg (by omega),Int.toNat_natCast,ig]
 refine⟨b2,o2,mV,⟨by omega,by omega⟩,_,gO 1 _ rfl,Zaa rfl ⟨b3,o3,f4,⟨by omega,by show(k:Int) < (x.rules.length:Int);omega⟩,_,_,_,_,_,_,_,_,_,_,_,_,_,_,_,_,kG,λb4=>Zaa rfl ?_⟩⟩
 rcases hp with hs|⟨j,rfl,a,jF,hp⟩
 ·have hs:pa < 0:=hs
  refine ZpM (decide_eq_true hs) ?_
  obtain⟨ak,ck,nZ,pn⟩:=hT.2.2 i x u4 hx
  obtain⟨b5,o5,kV,rZ⟩:=ZzF (hT.2.1.mono hm) nZ
  have fq:(ZvP s i x.rules.length)[k]?=some (.int .i64 (totals s i k)):=by
   unfold ZvP;rw[List.getElem?_map,List.getElem?_range lD];rfl
  obtain⟨b6,o6,jc,mW⟩:=ZzF (pn.mono hm) fq
  refine⟨λ_ _ _=>Ret (.int .i64 (ZpL s r (totals s i k))),b5,o5,kV,⟨by omega,by omega⟩,_,rZ,Zaa rfl ⟨b6,o6,jc,⟨by omega,by show(k:Int) < (x.rules.length:Int);omega⟩,_,mW,_,rfl,ZwJ s r (totals s i k) m2 (hr.mono hm) gi,λv _ _ e=>by rw[show v=_ from e];rfl,λn m3 bS hn M hM _=>Zac (mLt hm hM) ?_⟩⟩
  obtain rfl:n=ZpL s r (totals s i k):=by cases hn;rfl
  show Value.int _ _=Value.int _ _
  rw[at1 _ rfl rfl rfl,if_pos hs]
 refine Ze8 (decide_eq_false (by omega)) ?_
 have tx:=(List.getElem?_eq_some_iff.1 jF).1
 have u5:=List.mem_of_getElem? jF
 have kI:=gi.all a u5
 obtain⟨b5,o5,kV,qv⟩:=Zam Ac.len gi.row jF (by omega)
 rcases hp with hs|⟨n,rfl,z,hz⟩
 ·have hs:pp < 0:=hs
  refine ZpM (decide_eq_true hs) ⟨λ_ _ _=>Ret (.int .i64 (ZdR s r a)),Zaa rfl ⟨b5,o5,kV,⟨by omega,by show(j:Int) < (r.acts.length:Int);omega⟩,_,_,_,_,_,_,_,_,qv,_,rfl,Ztg s r a m2 (hr.mono hm) gi kI,λv _ _ e=>by rw[show v=_ from e];rfl,λn m3 bS hn M hM _=>Zac (mLt hm hM) ?_⟩⟩
  obtain rfl:n=ZdR s r a:=by cases hn;rfl
  show Value.int _ _=Value.int _ _
  have r5:¬(j:Int) < 0:=by omega
  have oZ:r.acts[(j:Int).toNat]?=some a:=by rw[Int.toNat_natCast];exact jF
  rw[at1 _ rfl rfl rfl]
  simp only[r5,oZ,hs,if_true,if_false]
 ·refine Ze8 (decide_eq_false (by omega)) ⟨λ_ _ _=>Ret (.int .i64 (Znp s r a.parts n z)),Zaa rfl ⟨b5,o5,kV,⟨by omega,by show(j:Int) < (r.acts.length:Int);omega⟩,_,qv 2 _ rfl,_,rfl,ZwL s r a.parts a.pa a.pc n z m2 (hr.mono hm) gi kI.n kI.row kI.all hz,λv _ _ e=>by rw[show v=_ from e];rfl,λn' m3 bS hn M hM _=>Zac (mLt hm hM) ?_⟩⟩
  obtain rfl:n'=Znp s r a.parts n z:=by cases hn;rfl
  show Value.int _ _=Value.int _ _
  have r5:¬(j:Int) < 0:=by omega
  have oZ:r.acts[(j:Int).toNat]?=some a:=by rw[Int.toNat_natCast];exact jF
  have pZ:¬(n:Int) < 0:=by omega
  have kP:a.parts[(n:Int).toNat]?=some z:=by rw[Int.toNat_natCast];exact hz
  rw[at1 _ rfl rfl rfl]
  simp only[r5,oZ,pZ,kP,if_false]
  rw[Int.toNat_natCast]
end Go.Proofs.YtojlhhphofhaoaaGreatDoor