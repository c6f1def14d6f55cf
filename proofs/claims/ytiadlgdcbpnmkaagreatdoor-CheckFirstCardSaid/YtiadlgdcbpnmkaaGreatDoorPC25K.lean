/- Part of the proof: conditions and contracts of functions of this program. No condition of its own. -/
import Derived.Test.YtiadlgdcbpnmkaaGreatDoorPVEB
import Derived.Test.YtiadlgdcbpnmkaaGreatDoorPC25P
import Derived.Test.YtiadlgdcbpnmkaaGreatDoorPVEC
import Derived.Test.YtiadlgdcbpnmkaaGreatDoorMr
set_option linter.unusedVariables false
set_option linter.unusedSimpArgs false
set_option linter.unusedSectionVars false
namespace Go.Proofs.YtiadlgdcbpnmkaaGreatDoor
open Go Go.Eng Go.Rx Go.Proofs Go.RowKit
set_option maxRecDepth 100000
theorem Zmh(l:List Sta)(a:Option Addr)(c:Nat)(g:Nat)(ca:List Value)(p:Sta->Bool)(m:Mem)(hl:l.length<=1000000000000000)(hr:rowRd m a (l.map Sta.cs).flatten)
  (hp:∀x∈l,∀m',m.le m'->CX Tryz.prog g (.agg x.cs.toArray::ca).toArray m' [] (Ret (.bool (p x)))):
  CX Tryz.prog 86 #[.slice a l.length c,.func (.func g) #[] ca.toArray] m [] (Ret (.int .i64 (if l.any p then(l.findIdx p:Nat)else(-1:Int)))):=by
 apply Za9 a l.length c g [] ca
 unfold ZaG
 refine⟨λxs _ _ m'' q=>∃i:Nat,i<=l.length/\xs=[.int .i64 i]/\(∀x∈l.take i,p x=false)/\q=l.length - i,⟨l.length,0,by omega,rfl,by simp,by omega⟩,?_⟩
 rintro n m' q hm ⟨i,hi,hn,fC,hq⟩
 obtain rfl:n=i:=by simpa using hn
 refine Zac (λbF=>?_) (λdC=>?_)
 ·have bQ:i < l.length:=by simpa using bF
  obtain⟨x,hx⟩:=Zb8 bQ
  have cE:x∈l:=List.mem_of_getElem? hx
  obtain⟨b1,o1,ha,dO⟩:=Zav Sta.len (hr.mono hm) hx (by omega)
  refine⟨b1,o1,ha,⟨by omega,by omega⟩,_,_,dO,Zae (hp x cE m' hm) λm1 aU=>Zac (λeI=>?_) (λeI=>?_)⟩
  ·refine Zaa (mLt hm aU) ?_
   have dV:l.any p=true:=List.any_eq_true.2 ⟨x,cE,eI⟩
   have eR:l.findIdx p=i:=by
    rw[List.findIdx_eq bQ]
    refine⟨by rw[(List.getElem?_eq_some_iff.1 hx).2];exact eI,λj hj=>?_⟩
    exact fC _ (List.mem_of_getElem? (i:=j) (by rw[List.getElem?_take_of_lt hj];exact List.getElem?_eq_getElem (by omega)))
   simp[Ret,dV,eR]
  ·refine⟨l.length - (i+1),by omega,i+1,by omega,by rw[Zan (by omega) (by omega)];rfl,?_,rfl⟩
   intro y hy
   rw[List.take_add_one,hx]at hy
   rcases List.mem_append.1 hy with hy|hy
   ·exact fC y hy
   ·simp at hy;rw[hy];exact eI
 ·have hi':i=l.length:=by
   have:¬((i:Int) < (l.length:Int)):=by simpa using dC
   omega
  subst hi'
  refine Zaa hm ?_
  have dV:l.any p=false:=by
   rw[List.any_eq_false]
   rw[List.take_length]at fC
   exact λx hx=>by simp[fC x hx]
  simp[Ret,dV]
theorem ZsD(l:List Sta)(a:Option Addr)(c:Nat)(g:Nat)(ca:List Value)(p:Sta->Bool)(m:Mem)(hl:l.length<=1000000000000000)(hr:rowRd m a (l.map Sta.cs).flatten)
  (hp:∀x∈l,∀m',m.le m'->CX Tryz.prog g (.agg x.cs.toArray::ca).toArray m' [] (Ret (.bool (p x)))):
  CX Tryz.prog 58 #[.slice a l.length c,.func (.func g) #[] ca.toArray] m [] (Ret (.bool (l.any p))):=by
 apply Za2 a l.length c g [] ca
 unfold ZaE
 refine ZaD (Zmh l a c g ca p m hl hr hp) λm' hm=>Zaa hm ?_
 cases h:l.any p <;> simp[Ret]
theorem Zmi(l:List Va)(a:Option Addr)(c:Nat)(g:Nat)(ca:List Value)(p:Va->Bool)(m:Mem)(hl:l.length<=1000000000000000)(hr:rowRd m a (l.map Va.cs).flatten)
  (hp:∀x∈l,∀m',m.le m'->CX Tryz.prog g (.agg x.cs.toArray::ca).toArray m' [] (Ret (.bool (p x)))):
  CX Tryz.prog 85 #[.slice a l.length c,.func (.func g) #[] ca.toArray] m [] (Ret (.int .i64 (if l.any p then(l.findIdx p:Nat)else(-1:Int)))):=by
 apply Zbt a l.length c g [] ca
 unfold ZaV
 refine⟨λxs _ _ m'' q=>∃i:Nat,i<=l.length/\xs=[.int .i64 i]/\(∀x∈l.take i,p x=false)/\q=l.length - i,⟨l.length,0,by omega,rfl,by simp,by omega⟩,?_⟩
 rintro n m' q hm ⟨i,hi,hn,fC,hq⟩
 obtain rfl:n=i:=by simpa using hn
 refine Zac (λbF=>?_) (λdC=>?_)
 ·have bQ:i < l.length:=by simpa using bF
  obtain⟨x,hx⟩:=Zb8 bQ
  have cE:x∈l:=List.mem_of_getElem? hx
  obtain⟨b1,o1,ha,dO⟩:=Zav Va.len (hr.mono hm) hx (by omega)
  refine⟨b1,o1,ha,⟨by omega,by omega⟩,_,_,_,_,dO,Zae (hp x cE m' hm) λm1 aU=>Zac (λeI=>?_) (λeI=>?_)⟩
  ·refine Zaa (mLt hm aU) ?_
   have dV:l.any p=true:=List.any_eq_true.2 ⟨x,cE,eI⟩
   have eR:l.findIdx p=i:=by
    rw[List.findIdx_eq bQ]
    refine⟨by rw[(List.getElem?_eq_some_iff.1 hx).2];exact eI,λj hj=>?_⟩
    exact fC _ (List.mem_of_getElem? (i:=j) (by rw[List.getElem?_take_of_lt hj];exact List.getElem?_eq_getElem (by omega)))
   simp[Ret,dV,eR]
  ·refine⟨l.length - (i+1),by omega,i+1,by omega,by rw[Zan (by omega) (by omega)];rfl,?_,rfl⟩
   intro y hy
   rw[List.take_add_one,hx]at hy
   rcases List.mem_append.1 hy with hy|hy
   ·exact fC y hy
   ·simp at hy;rw[hy];exact eI
 ·have hi':i=l.length:=by
   have:¬((i:Int) < (l.length:Int)):=by simpa using dC
   omega
  subst hi'
  refine Zaa hm ?_
  have dV:l.any p=false:=by
   rw[List.any_eq_false]
   rw[List.take_length]at fC
   exact λx hx=>by simp[fC x hx]
  simp[Ret,dV]
theorem ZsE(l:List Va)(a:Option Addr)(c:Nat)(g:Nat)(ca:List Value)(p:Va->Bool)(m:Mem)(hl:l.length<=1000000000000000)(hr:rowRd m a (l.map Va.cs).flatten)
  (hp:∀x∈l,∀m',m.le m'->CX Tryz.prog g (.agg x.cs.toArray::ca).toArray m' [] (Ret (.bool (p x)))):
  CX Tryz.prog 52 #[.slice a l.length c,.func (.func g) #[] ca.toArray] m [] (Ret (.bool (l.any p))):=by
 apply Zbe a l.length c g [] ca
 unfold ZaL
 refine ZaD (Zmi l a c g ca p m hl hr hp) λm' hm=>Zaa hm ?_
 cases h:l.any p <;> simp[Ret]
theorem ZeT(n a b:Int)(m:Mem):CX Tryz.prog 55 #[.int .i64 n,.int .i64 a,.int .i64 b] m [] (Ret (.bool (Zc8 n a b))):=by
 apply ZhW
 unfold Zez
 exact⟨Zc8 n a b,Zac (λh=>by unfold Zc8;rw[h];rfl) (λh=>by unfold Zc8;rw[h];rfl),Zaa (Mem.le_refl m) rfl⟩
theorem Zug(v:Va)(name:ByteArray)(b:Nat)(m:Mem)(hb:m.reads b 0 [.string name]):CX Tryz.prog 94 #[.agg v.cs.toArray,.pointer (some ⟨b,0,none⟩)] m [] (Ret (.bool (eqS v.s name))):=by
 apply ZhX (c0b:=b) (c0o:=0)
 unfold ZeA
 intro b1 m1 aU _
 exact⟨_,aU.c _ _ _ (hb 0 _ rfl),Zab rfl (Zaa aU rfl)⟩
theorem Zuh{l:List Va}{p:Va->Bool}(h:l.any p=true):∃v,l[l.findIdx p]?=some v/\l.find? p=some v:=by
 induction l with
 | nil=>simp at h
 | cons x l ih=>
  cases hx:p x with
  | true=>exact⟨x,by simp[List.findIdx_cons,hx],by simp[hx]⟩
  | false=>
   obtain⟨v,h1,h2⟩:=ih (by simpa[hx]using h)
   exact⟨v,by simp[List.findIdx_cons,hx,h1],by simp[hx,h2]⟩
theorem ZsF{l:List Va}{p:Va->Bool}(h:l.any p=false):l.find? p=none:=by
 rw[List.find?_eq_none];rw[List.any_eq_false]at h;exact h
theorem Zri(s:Sc)(name:ByteArray)(m:Mem)(hr:RepC m s):CX Tryz.prog 70 #[s.v,.string name] m [] (Ret (.tuple #[.bool (ZeV s name).1,.bool (ZeV s name).2])):=by
 apply Zk8
 unfold ZgH
 intro b m1 aU _ b1 m2 bG cP
 have eU:=hr.vlen
 unfold few at eU
 have dA:=hr.vrow.mono (mLt aU bG)
 refine ZaD (Zmi s.vars s.va s.vc _ [.pointer (some ⟨b1,0,none⟩)] (λv=>eqS v.s name) m2 (by omega) dA λx _ m' hm'=>Zug x name b1 m' (cP.mono hm')) λm3 bX=>?_
 have cA:=mLt aU (mLt bG bX)
 cases h:s.vars.any (λv=>eqS v.s name)with
 | true=>
  obtain⟨v,qg,ry⟩:=Zuh h
  have hk:ZeV s name=(v.b,true):=by unfold ZeV;rw[ry]
  obtain⟨b4,o4,ha,ko⟩:=Zav Va.len (dA.mono bX) qg (by omega)
  have bF:=(List.getElem?_eq_some_iff.1 qg).1
  simp only[if_true]
  refine⟨v.b,true,ZnB (decide_eq_true (by omega)) ⟨b4,o4,ha,⟨by omega,by omega⟩,.bool v.b,?_,by trivial,Zab rfl ?_⟩,Zaa cA (by rw[hk])⟩
  ·have:=ko 1 _ rfl
   rw[Int.toNat_natCast];exact this
  ·rw[decide_eq_true (by omega:((List.findIdx (λv=>eqS v.s name) s.vars:Nat):Int) ≥ 0)]
 | false=>
  have hk:ZeV s name=(false,false):=by unfold ZeV;rw[ZsF h]
  refine⟨false,false,ZfC rfl ⟨by trivial,rfl⟩,Zaa cA (by rw[hk])⟩
theorem Zpa(s:Sc)(name:ByteArray)(b:Nat)(m:Mem)(hr:RepC m s)(hb:m.reads b 0 s.cs):CX Tryz.prog 97 #[.string name,.pointer (some ⟨b,0,none⟩)] m [] (Ret (.bool (!(ZeV s name).1))):=by
 apply Zfa (c0b:=b) (c0o:=0)
 unfold Zdb
 refine⟨_,_,_,hb,?_⟩
 refine Zao (Zri s name m hr) (λv _ _ e=>by rw[show v=_ from e];rfl) ?_
 intro x y m1 aU hv
 have hv:Value.tuple (Array.mk [Value.bool x,Value.bool y])=Value.tuple #[.bool (ZeV s name).1,.bool (ZeV s name).2]:=hv
 simp only[Value.tuple.injEq,Array.mk.injEq,List.cons.injEq,Value.bool.injEq,and_true]at hv
 obtain⟨rfl,rfl⟩:=hv
 exact Zaa aU rfl
theorem Zui(e:E):e.vars.length<=1000000000000000:=by
 unfold E.vars
 split
 ·rename_i hl
  have h2:=Zgz e []
  have h3:=of_decide_eq_true (show decide (e.nodes.length<=10000)=true from hl)
  simp only[List.length_nil]at h2
  omega
 ·simp
theorem ZiW(s:Sc)(e:E)(m:Mem)(hr:RepC m s)(he:RepE m e):CX Tryz.prog 71 #[s.v,e.v] m [] (Ret (.bool (ZgA s e))):=by
 apply Zg2
 unfold ZdT
 intro b m1 aU hb b1 m2 bG _
 refine Zao (Zuf e m2 (RepE.mono' he (mLt aU bG))) ZsC ?_
 rintro a n c m3 bX ⟨a',c',hv,dA⟩
 simp only[Value.slice.injEq]at hv
 obtain⟨rfl,rfl,rfl⟩:=hv
 refine Zae (Zhg e.vars a c _ [.pointer (some ⟨b,0,none⟩)] (λn=>!(ZeV s n).1) m3 (Zui e) dA λx _ m' hm'=>Zpa s x b m' (hr.mono (mLt aU (mLt bG (mLt bX hm')))) (hb.mono (mLt bG (mLt bX hm')))) λm4 cM=>Zaa (mLt aU (mLt bG (mLt bX cM))) rfl
theorem Ztw(e:E)(m:Mem)(he:RepE m e):CX Tryz.prog 68 #[e.v] m [] (Ret (.bool (Zq9 e))):=by
 apply Zk9
 unfold ZgI
 intro b m1 aU _
 exact Zae (Zrg e E0 m1 (RepE.mono' he aU) (Ztn m1)) λm2 bG=>Zaa (mLt aU bG) rfl
theorem ZgV(r:Ru)(m:Mem)(hr:Rep m r.t):CX Tryz.prog 74 #[.agg r.cs.toArray] m [] (Ret (.int .i64 (Zhk r))):=by
 apply ZfS
 unfold Zdt
 intro b m1 aU _
 refine Zac (λh=>?_) (λh=>Zac (λh2=>Zaa aU ?_) (λh2=>Zaa aU ?_))
 ·have hk:r.k=1:=by simpa using h
  exact ZaD (Zo3 r.t m1 (hr.mono aU)) λm2 bG=>Zaa (mLt aU bG) (by unfold Zhk;rw[if_pos hk])
 ·have hk:¬r.k=1:=by simpa using h
  have fE:r.k=2:=by simpa using h2
  unfold Zhk;rw[if_neg hk,if_pos fE]
 ·have hk:¬r.k=1:=by simpa using h
  have fE:¬r.k=2:=by simpa using h2
  unfold Zhk;rw[if_neg hk,if_neg fE]
theorem Zpb(e:E)(m:Mem)(he:RepE m e):CX Tryz.prog 34 #[e.v] m [] (Ret (.int .i64 (nE e))):=by
 apply ZmO
 unfold ZhU
 intro b m1 aU _
 refine Zae (ZdI e m1 (RepE.mono' he aU)) λm2 bG=>Zac (λh=>Zaa (mLt aU bG) ?_) (λh=>?_)
 ·have hl:e.light=false:=by simpa using h
  unfold nE;rw[hl];rfl
 ·have hl:e.light=true:=by simpa using h
  exact ZaD (Zt9 e m2 (RepE.mono' he (mLt aU bG))) λm3 bX=>Zaa (mLt aU (mLt bG bX)) (by unfold nE;rw[hl];rfl)
theorem ZaF{p:Prop} [Decidable p]{A B:Prop}(ht:p->A)(hf:¬p->B):br (decide p) A B:=Zac (λh=>ht (of_decide_eq_true h)) (λh=>hf (of_decide_eq_false h))
set_option maxHeartbeats 4000000 in
def CntW(b n p:Int):Prop:=0<=n/\n<=b/\(n=p\/(20000 < n/\20000 < p))
theorem CntW.out{b n p t:Int}(h:CntW b n p)(hn:n > 20000)(ht:p<=t):t > 20000:=by
 rcases h.2.2 with e|⟨_,e⟩ <;> omega
theorem CntW.eq{b n p:Int}(h:CntW b n p)(hn:¬n > 20000):n=p:=by
 rcases h.2.2 with e|⟨e,_⟩ <;> omega
theorem Ziz(s:Sc)(m:Mem)(hr:RepC m s):CX Tryz.prog 21 #[s.v] m [] (Ret (.bool s.light)):=by
 apply ZmP
 unfold ZhV
 intro b m1 aU _
 have eU:=hr.vlen
 have fV:=hr.len
 unfold few at eU fV
 have dark:∀{M:Mem},m1.le M->s.weight > 20000->∀{n:Int},n > 20000->∃m'':Mem,m.le m''/\m''.le M/\Ret (.bool s.light) (.bool (decide (n<=20000))) m'' []:=λ{M} hM hw {n} hn=>Zaa (mLt aU hM) (by
  show Value.bool _=Value.bool s.light
  unfold Sc.light
  rw[decide_eq_false (by omega),decide_eq_false (by omega)])
 generalize hV:((s.vars.length:Int)+s.states.length)=V0
 have uh:0<=V0/\V0<=200000:=by omega
 rw[Zan (by omega) (by omega)]
 have rz:s.weight=V0+Zcd (s.states.map wS):=by unfold Sc.weight;omega
 refine⟨λxs _ _ m' q=>∃(i:Nat)(n:Int),i<=s.states.length/\xs=[.int .i64 n,.int .i64 i]/\CntW 300000 n (V0+Zcd ((s.states.take i).map wS))/\q=s.states.length - i,⟨_,0,V0,by omega,rfl,⟨by omega,by omega,.inl (by simp[Zcd])⟩,rfl⟩,?_⟩
 rintro n k0 m2 q bG ⟨i,n',hi,hx,hC,hq⟩
 simp only[List.cons.injEq,Value.int.injEq,and_true,true_and]at hx
 obtain⟨rfl,rfl⟩:=hx
 subst hq
 have mF:IntKind.i64.wrap ((i:Int)+1)=((i+1:Nat):Int):=by rw[Zan (by omega) (by omega)];rfl
 simp only[mF,Int.toNat_natCast]
 refine ZaF (λbF=>?_) (λdC=>?_)
 ·have bQ:i < s.states.length:=by omega
  obtain⟨x,hx⟩:=Zb8 bQ
  have qh:=List.mem_of_getElem? hx
  obtain⟨b1,o1,ha,dO⟩:=Zav Sta.len ((hr.mono (mLt aU bG)).row) hx (by omega)
  have dX:=hr.all x qh
  have kp:=dX.len
  unfold few at kp
  refine⟨b1,o1,ha,⟨by omega,by omega⟩,_,_,dO,λb2=>Zab rfl (Zab rfl ?_)⟩
  generalize ma:V0+Zcd ((s.states.take i).map wS)=P0 at hC
  have rA:V0+Zcd ((s.states.take (i+1)).map wS)=P0+wS x:=by rw[ZcF wS hx];omega
  have td:P0+wS x<=s.weight:=by rw[<-rA,rz];have:=ZkY wS ZxJ s.states (i+1);omega
  refine⟨λxs _ _ m' q=>∃(k:Nat)(n:Int),k<=x.rules.length/\xs=[.int .i64 n,.int .i64 k]/\CntW 300000 n (P0+Zcd ((x.rules.take k).map wR))/\q=x.rules.length - k,⟨_,0,n,by omega,rfl,by simpa[Zcd]using hC,rfl⟩,?_⟩
  rintro n1 k1 m3 q bX ⟨k,n1',hk,iA,lT,hq⟩
  simp only[List.cons.injEq,Value.int.injEq,and_true,true_and]at iA
  obtain⟨rfl,rfl⟩:=iA
  subst hq
  have iB:IntKind.i64.wrap ((k:Int)+1)=((k+1:Nat):Int):=by rw[Zan (by omega) (by omega)];rfl
  simp only[iB,Int.toNat_natCast]
  have dY:m.le m3:=mLt aU (mLt bG bX)
  refine ZaF (λeB=>?_) (λeY=>?_)
  ·have nF:k < x.rules.length:=by have:(k:Int) < (x.rules.length:Int):=eB;omega
   obtain⟨r,gJ⟩:=Zb8 nF
   have oL:=List.mem_of_getElem? gJ
   have gA:=dX.all r oL
   obtain⟨b3,o3,jQ,iW⟩:=Zav Ru.len ((dX.row).mono dY) gJ (by omega)
   have lU:=gA.len
   unfold few at lU
   generalize ui:P0+Zcd ((x.rules.take k).map wR)=P1 at lT
   have nG:P0+Zcd ((x.rules.take (k+1)).map wR)=P1+wR r:=by rw[ZcF wR gJ];omega
   have te:P1+wR r<=s.weight:=by
    rw[<-nG]
    have:=ZkY wR Zxc x.rules (k+1)
    unfold wS at td
    omega
   refine Zab rfl ⟨b3,o3,jQ,⟨by omega,by show(k:Int) < (x.rules.length:Int);omega⟩,_,_,_,_,_,_,_,_,_,_,_,_,_,_,_,_,iW,λb4=>Zab rfl ?_⟩
   have cD:=Zmb r.t
   refine ZaD (Zrb r.t m3 (gA.t.mono dY)) λm4 cM=>?_
   have ig:(if(20000:Int) < r.t.size then(20000:Int)else r.t.size)=Zki r.t.size 20000:=rfl
   have uj:0<=Zki r.t.size 20000/\Zki r.t.size 20000<=20000:=by unfold Zki;split <;> omega
   rw[ig]
   have uk:=lT.1
   have ul:=lT.2.1
   refine⟨λxs _ _ m'=>∃n:Int,xs=[.int .i64 n]/\CntW 330000 n (P1+1+Zki r.t.size 20000+(if r.t.light then 0 else 20001)),?_,?_⟩
   ·refine Zae (Zff r.t m4 (gA.t.mono (mLt dY cM))) λm5 eJ=>Zac (λh=>⟨by trivial,20001,rfl,?_⟩) (λh=>⟨by trivial,_,rfl,?_⟩)
    ·have hl:r.t.light=false:=by simpa using h
     rw[hl,if_neg (by decide)]
     have hp:0<=P1:=by rcases lT.2.2 with e|⟨_,e⟩ <;> omega
     exact⟨by omega,by omega,.inr ⟨by omega,by omega⟩⟩
    ·have hl:r.t.light=true:=by simpa using h
     rw[hl,if_pos rfl,Zan (n:=1+Zki r.t.size 20000) (by omega) (by omega),Zan (by omega) (by omega)]
     refine⟨by omega,by omega,?_⟩
     rcases lT.2.2 with e|⟨e1,e2⟩
     ·left;omega
     ·right;omega
   ·rintro n2 m5 eJ ⟨n2',gn,kq⟩
    obtain rfl:n2=n2':=by simpa using gn
    generalize tf:P1+1+Zki r.t.size 20000+(if r.t.light then 0 else 20001)=P2 at kq
    have iZ:wR r=(P2 - P1)+Zcd (r.acts.map wA):=by unfold wR;rw[<-tf];omega
    have kr:m.le m5:=mLt dY (mLt cM eJ)
    refine Zab rfl ⟨λxs _ _ m' q=>∃(j:Nat)(n:Int),j<=r.acts.length/\xs=[.int .i64 n,.int .i64 j]/\CntW (330000+j*200000) n (P2+Zcd ((r.acts.take j).map wA))/\q=r.acts.length - j,⟨_,0,n2,by omega,rfl,by simpa[Zcd]using kq,rfl⟩,?_⟩
    rintro n3 k3 m6 q iv ⟨j,n3',hj,ko,kW,hq⟩
    simp only[List.cons.injEq,Value.int.injEq,and_true,true_and]at ko
    obtain⟨rfl,rfl⟩:=ko
    subst hq
    have tg:IntKind.i64.wrap ((j:Int)+1)=((j+1:Nat):Int):=by rw[Zan (by omega) (by omega)];rfl
    simp only[tg,Int.toNat_natCast]
    have lV:=mLt kr iv
    have eX:=kW.1
    have um:=kW.2.1
    refine ZaF (λjR=>?_) (λiN=>?_)
    ·have nH:j < r.acts.length:=by have:(j:Int) < (r.acts.length:Int):=jR;omega
     obtain⟨a,hU⟩:=Zb8 nH
     have iw:=gA.all a (List.mem_of_getElem? hU)
     obtain⟨b5,o5,gO,ia⟩:=Zav Ac.len ((gA.row).mono lV) hU (by omega)
     have iE:=iw.n
     unfold few at iE
     have un:=Zso a.e
     generalize uo:P2+Zcd ((r.acts.take j).map wA)=P3 at kW
     have qi:P2+Zcd ((r.acts.take (j+1)).map wA)=P3+wA a:=by rw[ZcF wA hU];omega
     have ti:P3+wA a<=s.weight:=by
      have:=ZkY wA Zxb r.acts (j+1)
      omega
     refine Zab rfl ⟨b5,o5,gO,⟨by omega,by show(j:Int) < (r.acts.length:Int);omega⟩,_,_,_,_,_,_,_,_,ia,λb6=>Zab rfl ?_⟩
     refine⟨λ_ _ _=>Ret (.int .i64 (nE a.e)),_,rfl,Zpb a.e m6 (RepE.mono' iw.e lV),λv _ _ e=>by rw[show v=_ from e];rfl,λn8 m7 mt tj=>Zab rfl λM jn lr=>Zab rfl ?_⟩
     obtain rfl:n8=nE a.e:=by cases tj;rfl
     have lW:slN (Value.slice a.pa a.parts.length a.pc)=a.parts.length:=rfl
     rw[lW,Zan (n:=1+nE a.e) (by omega) (by omega),Zan (n:=1+nE a.e+(a.parts.length:Int)) (by omega) (by omega),Zan (by omega) (by omega)]
     have tn:wA a=(1+nE a.e+a.parts.length)+Zcd (a.parts.map λp=>nE p.e):=by unfold wA;omega
     have qj:=mLt lV jn
     refine⟨λxs _ _ m' q=>∃(w:Nat)(n:Int),w<=a.parts.length/\xs=[.int .i64 n,.int .i64 w]/\CntW (330000+(j+1)*200000) n (P3+(1+nE a.e+a.parts.length)+Zcd ((a.parts.take w).map λp=>nE p.e))/\q=a.parts.length - w,⟨_,0,_,by omega,rfl,⟨by omega,by omega,?_⟩,rfl⟩,?_⟩
     ·simp only[List.take_zero,List.map_nil,Zcd]
      rcases kW.2.2 with e|⟨e1,e2⟩
      ·left;omega
      ·right;omega
     rintro n4 k4 m8 q iX ⟨w,n4',hw,oM,lX,hq⟩
     simp only[List.cons.injEq,Value.int.injEq,and_true,true_and]at oM
     obtain⟨rfl,rfl⟩:=oM
     subst hq
     have tp:IntKind.i64.wrap ((w:Int)+1)=((w+1:Nat):Int):=by rw[Zan (by omega) (by omega)];rfl
     simp only[tp,Int.toNat_natCast]
     have kX:=mLt qj iX
     have tq:m1.le m8:=mLt bG (mLt bX (mLt cM (mLt eJ (mLt iv (mLt jn iX)))))
     have oN:=lX.1
     have uq:=lX.2.1
     refine ZaF (λkt=>?_) (λku=>?_)
     ·have nI:w < a.parts.length:=by have:(w:Int) < (a.parts.length:Int):=kt;omega
      obtain⟨p,jh⟩:=Zb8 nI
      have gm:=iw.all p (List.mem_of_getElem? jh)
      obtain⟨b7,o7,tr,tu⟩:=Zav Pt.len ((iw.row).mono kX) jh (by omega)
      have ur:=Zso p.e
      have dP:=ZcF (λp:Pt=>nE p.e) jh
      have tw:=ZkY (λp:Pt=>nE p.e) (λp=>(Zso p.e).1) a.parts w
      refine Zab rfl ⟨b7,o7,tr,⟨by omega,by show(w:Int) < (a.parts.length:Int);omega⟩,_,_,_,_,_,_,_,_,tu,λb8=>Zab rfl (ZaF (λhd=>dark tq (lX.out hd (by omega)) hd) (λhd=>?_))⟩
      refine ZaD (Zpb p.e m8 (RepE.mono' gm.e kX)) λm9 qk=>⟨by trivial,a.parts.length - (w+1),by omega,w+1,_,by omega,rfl,?_,rfl⟩
      have he:=lX.eq hd
      rw[Zan (by omega) (by omega),dP]
      exact⟨by omega,by omega,.inl (by omega)⟩
     ·have hw':w=a.parts.length:=by have:¬(w:Int) < (a.parts.length:Int):=ku;omega
      subst hw'
      rw[List.take_length]at lX
      refine⟨by trivial,r.acts.length - (j+1),by omega,j+1,n4,by omega,rfl,?_,rfl⟩
      rw[qi,tn]
      exact⟨lX.1,by push_cast;omega,by rcases lX.2.2 with e|e;left;omega;right;omega⟩
    ·have hj':j=r.acts.length:=by have:¬(j:Int) < (r.acts.length:Int):=iN;omega
     subst hj'
     rw[List.take_length]at kW
     have tx:m1.le m6:=mLt bG (mLt bX (mLt cM (mLt eJ iv)))
     refine ZaF (λhd=>dark tx (kW.out hd (by omega)) hd) (λhd=>⟨by trivial,x.rules.length - (k+1),by omega,k+1,n3,by omega,rfl,?_,rfl⟩)
     rw[nG,iZ]
     exact⟨kW.1,by omega,.inl (by have:=kW.eq hd;omega)⟩
  ·have hk':k=x.rules.length:=by have:¬(k:Int) < (x.rules.length:Int):=eY;omega
   subst hk'
   rw[List.take_length]at lT
   refine⟨by trivial,s.states.length - (i+1),by omega,i+1,n1,by omega,rfl,?_,rfl⟩
   rw[rA];exact lT
 ·have hi':i=s.states.length:=by omega
  subst hi'
  rw[List.take_length,<-rz]at hC
  refine Zaa (mLt aU bG) ?_
  show Value.bool _=Value.bool s.light
  unfold Sc.light
  congr 1
  rw[decide_eq_decide]
  rcases hC.2.2 with e|⟨e1,e2⟩ <;> omega
theorem Zuj(x:Sta)(name:ByteArray)(b:Nat)(m:Mem)(hb:m.reads b 0 [.string name]):CX Tryz.prog 91 #[.agg x.cs.toArray,.pointer (some ⟨b,0,none⟩)] m [] (Ret (.bool (eqS x.s name))):=by
 apply Zk4 (c0b:=b) (c0o:=0)
 unfold ZgE
 intro b1 m1 aU _
 exact⟨_,(hb.mono aU) 0 _ rfl,Zab rfl (Zaa aU rfl)⟩
def Zxg(s:Sc)(name:ByteArray):Value->Mem->List (List Value)->Prop:=λv _ _=>∃n:Int,v=.tuple #[.int .i64 n,.bool (ZoA s name)]
theorem ZsG{s name}:∀(v:Value)(m':Mem) (css:List (List Value)),Zxg s name v m' css->Shape.fits (.tup [.int .i64,.bool]) v=true:=λv _ _ ⟨_,e⟩=>by rw[e];rfl
theorem ZvJ(s:Sc)(name:ByteArray)(m:Mem)(hr:RepC m s):CX Tryz.prog 65 #[s.v,.string name] m [] (Zxg s name):=by
 apply ZoJ
 unfold Zj5
 intro b m1 aU _ b1 m2 bG cP
 have fV:=hr.len
 unfold few at fV
 have cA:=mLt aU bG
 refine ZaD (Zmh s.states s.sa s.sc _ [.pointer (some ⟨b1,0,none⟩)] (λx=>eqS x.s name) m2 (by omega) (hr.row.mono cA) λx _ m' hm'=>Zuj x name b1 m' (cP.mono hm')) λm3 bX=>?_
 have dY:=mLt cA bX
 cases h:s.states.any (λx=>eqS x.s name)with
 | true=>
  refine⟨!s.light,ZfC (decide_eq_false (by simp)) ?_,Zac (λhl=>Zaa dY ⟨_,by unfold ZoA;rw[h];simp at hl;rw[hl];rfl⟩) (λhl=>Zaa dY ⟨_,by unfold ZoA;rw[h];simp at hl;rw[hl];rfl⟩)⟩
  exact Zae (Ziz s m3 (hr.mono dY)) λm4 cM=>⟨by trivial,rfl⟩
 | false=>
  refine⟨true,ZnB rfl ⟨by trivial,rfl⟩,ZnB rfl (Zaa dY ⟨_,by unfold ZoA;rw[h];rfl⟩)⟩
def ZxY(a:Int×Nat×List Value):List Value:=[.int .i64 a.1,.func (.func a.2.1) #[] a.2.2.toArray]
theorem Zuk(a:Int×Nat×List Value):(ZxY a).length=2:=rfl
theorem ZgW(l:List ((Int×Nat×List Value)×Bool))(a:Option Addr)(c:Nat)(m:Mem)(hl:l.length<=100000)(hr:rowRd m a (l.map λx=>ZxY x.1).flatten)
  (hp:∀x∈l,∀m',m.le m'->CX Tryz.prog x.1.2.1 x.1.2.2.toArray m' [] (Ret (.bool x.2))):
  CX Tryz.prog 48 #[.slice a l.length c] m [] (Ret (.int .i64 (ZfO (l.map λx=>(x.1.1,x.2))))):=by
 apply Zjh a l.length c
 unfold Zfu
 refine⟨λxs _ _ m'' q=>∃i:Nat,i<=l.length/\xs=[.int .i64 0,.int .i64 i]/\ZfO (l.map λx=>(x.1.1,x.2))=ZfO ((l.drop i).map λx=>(x.1.1,x.2))/\q=l.length - i,⟨l.length,0,by omega,rfl,rfl,by omega⟩,?_⟩
 rintro n k m1 q aU ⟨i,hi,hx,he,hq⟩
 simp only[List.cons.injEq,Value.int.injEq,and_true,true_and]at hx
 obtain⟨rfl,rfl⟩:=hx
 refine ZaF (λbF=>?_) (λdC=>?_)
 ·have bQ:i < l.length:=by have:(i:Int) < (l.length:Int):=bF;omega
  obtain⟨x,hx⟩:=Zb8 bQ
  have hd:l.drop i=x::l.drop (i+1):=by
   rw[List.drop_eq_getElem_cons bQ,(List.getElem?_eq_some_iff.1 hx).2]
  obtain⟨b1,o1,ha,dO⟩:=Zav (cs:=λx:(Int×Nat×List Value)×Bool=>ZxY x.1) (λx=>Zuk x.1) (hr.mono aU) hx (by omega)
  refine⟨b1,o1,ha,⟨by omega,by show(i:Int) < (l.length:Int);omega⟩,_,_,dO,λb2=>Zab rfl ⟨_,_,_,rfl,?_⟩⟩
  refine Zae (hp x (List.mem_of_getElem? hx) m1 aU) λm2 bG=>Zac (λh=>Zaa (mLt aU bG) ?_) (λh=>?_)
  ·show Value.int _ _=Value.int _ _
   rw[he,hd,List.map_cons,ZfO,if_pos h]
  ·refine⟨l.length - (i+1),by omega,i+1,by omega,by rw[Zan (by omega) (by omega)];rfl,?_,rfl⟩
   rw[he,hd,List.map_cons,ZfO,if_neg (by rw[h];decide)]
 ·have hi':i=l.length:=by have:¬(i:Int) < (l.length:Int):=dC;omega
  refine Zaa aU ?_
  show Value.int _ _=Value.int _ _
  rw[he,hi',List.drop_length];rfl
theorem ZsH(v:Va)(m:Mem):CX Tryz.prog 51 #[.agg #[.bool v.b,.string v.t,.float .f64 v.x]] m [] (Ret (.bool (ZhN v))):=by
 apply Zk6
 unfold ZgG
 intro b m1 aU _
 refine Zac (λhb=>⟨ZhN v,Zae (Zo5 v.x m1) λm2 bG=>Zac (λh=>⟨by trivial,Zag ?_⟩) (λh=>⟨by trivial,Zag ?_⟩),Zaa aU rfl⟩) (λhb=>⟨ZhN v,⟨_,Zo4 v.x,Zab rfl (Zac (λh=>⟨by trivial,Zag ?_⟩) (λh=>⟨by trivial,Zag ?_⟩))⟩,Zaa aU rfl⟩)
 ·unfold ZhN;rw[hb,if_pos rfl,h,Zcc];rfl
 ·unfold ZhN;rw[hb,if_pos rfl,h];rfl
 ·unfold ZhN;rw[hb,if_neg (by decide)]
  have:v.x=0:=by
   have h2:=eq_of_beq (show((v.x:Int) == 0)=true from h);omega
  rw[this]
  show decide ((v.t.size:Int)<=512)=(true&&decide (v.t.size<=512))
  rw[Bool.true_and,decide_eq_decide];omega
 ·unfold ZhN;rw[hb,if_neg (by decide)]
  have:¬v.x=0:=by
   intro e
   have h2:((v.x:Int) == 0)=false:=h
   rw[e]at h2;simp at h2
  rw[beq_eq_false_iff_ne.2 this];rfl
theorem Zlt(p q:Pt)(b:Nat)(m:Mem)(hq:RepP m q)(hb:m.reads b 0 q.cs):CX Tryz.prog 98 #[p.v,.pointer (some ⟨b,0,none⟩)] m [] (Ret (.bool (q.s.toList == p.s.toList&&(q.g == p.g&&(p.k == 4||Zq9 q.e))))):=by
 apply Zda (c0b:=b) (c0o:=0)
 unfold Zb2
 intro b1 m1 aU _
 have cP:=hb.mono aU
 refine⟨q.s.toList == p.s.toList&&(q.g == p.g&&(p.k == 4||Zq9 q.e)),⟨_,cP 1 _ rfl,Zab rfl (Zac (λh=>⟨_,cP 2 _ rfl,Zab rfl (Zac (λh2=>Zac (λh3=>⟨by trivial,Zag ?_⟩) (λh3=>⟨q.e.k |> Value.int .u8,.float .f64 q.e.x,.string q.e.s,.int .i64 q.e.g,.slice q.e.a q.e.subs.length q.e.c,?_,?_⟩)) (λh2=>⟨by trivial,Zag ?_⟩))⟩) (λh=>⟨by trivial,Zag ?_⟩))⟩,Zaa aU rfl⟩
 ·have h:(q.s.toList == p.s.toList)=true:=h
  have h2:(q.g == p.g)=true:=h2
  rw[h,h2,h3];rfl
 ·exact λi v hi=>by
   have:=cP (3+i) v (by unfold Pt.cs;rw[show 3+i=i+3 from by omega];exact hi)
   rw[show 0+3+i=0+(3+i) from by omega];exact this
 ·have h:(q.s.toList == p.s.toList)=true:=h
  have h2:(q.g == p.g)=true:=h2
  refine Zae (Zrg q.e E0 m1 (RepE.mono aU _ hq.e) (Ztn m1)) λm2 bG=>⟨by trivial,Zag ?_⟩
  rw[h,h2,h3];rfl
 ·have h:(q.s.toList == p.s.toList)=true:=h
  have h2:(q.g == p.g)=false:=h2
  rw[h,h2];rfl
 ·have h:(q.s.toList == p.s.toList)=false:=h
  rw[h];rfl
theorem Zni(p:Pt)(m:Mem)(hp:RepP m p):CX Tryz.prog 76 #[p.v] m [] (Ret (.bool (ZcZ p))):=by
 apply ZdG
 unfold Zcm
 intro b m1 aU hb
 have rn:=hp.mono aU
 have one:=λ(p':Pt)(M:Mem)(hM:m1.le M)=>Zlt p' p b M (rn.mono hM) (hb.mono hM)
 have j5:∀x:ByteArray,((⟨#[]⟩:ByteArray).toList == x.toList)=(x.size == 0):=λx=>by rw[<-Zcc,Bool.beq_comm]
 refine Zac (λh1=>⟨ZcZ p,ZaF (λh2=>ZaF (λh3=>Zae (one ⟨p.k,p.s,0,E0⟩ m1 (Mem.le_refl _)) λm2 bG=>⟨by trivial,Zag ?_⟩) (λh3=>⟨by trivial,Zag ?_⟩)) (λh2=>⟨by trivial,Zag ?_⟩),Zaa aU rfl⟩)
  (λh1=>Zac (λh2=>⟨ZcZ p,Zae (Ziy p.s hp.s m1) λm2 bG=>Zac (λh3=>Zae (one ⟨p.k,p.s,0,E0⟩ m2 bG) λm3 bX=>⟨by trivial,Zag ?_⟩) (λh3=>⟨by trivial,Zag ?_⟩),Zaa aU rfl⟩)
   (λh2=>Zac (λh3=>⟨ZcZ p,ZaF (λh4=>ZaF (λh5=>Zae (one ⟨p.k,⟨#[]⟩,p.g,E0⟩ m1 (Mem.le_refl _)) λm2 bG=>⟨by trivial,Zag ?_⟩) (λh5=>⟨by trivial,Zag ?_⟩)) (λh4=>⟨by trivial,Zag ?_⟩),Zaa aU rfl⟩)
    (λh3=>Zac (λh4=>⟨ZcZ p,Zae (Zo7 p.e m1 (RepE.mono aU _ hp.e)) λm2 bG=>Zac (λh5=>Zae (one ⟨p.k,⟨#[]⟩,0,E0⟩ m2 bG) λm3 bX=>⟨by trivial,Zag ?_⟩) (λh5=>⟨by trivial,Zag ?_⟩),Zaa aU rfl⟩) (λh4=>Zaa aU ?_))))
 ·have k1:p.k=1:=by simpa using h1
  have g2:p.s.size > 0:=by omega
  have g3:p.s.size<=512:=by omega
  unfold ZcZ;simp[k1,g2,g3]
 ·have k1:p.k=1:=by simpa using h1
  have g3:¬p.s.size<=512:=by omega
  unfold ZcZ;rw[if_pos k1,decide_eq_false g3];simp
 ·have k1:p.k=1:=by simpa using h1
  have g2:¬p.s.size > 0:=by omega
  unfold ZcZ;rw[if_pos k1,decide_eq_false g2];rfl
 ·have k2:p.k=2:=by simpa using h2
  unfold ZcZ;simp[k2,h3]
 ·have k2:p.k=2:=by simpa using h2
  unfold ZcZ;simp[k2,h3]
 ·have k3:p.k=3:=by simpa using h3
  unfold ZcZ;rw[if_neg (by omega),if_neg (by omega),if_pos k3,decide_eq_true h4,decide_eq_true h5,Zcc];simp[k3]
 ·have k3:p.k=3:=by simpa using h3
  unfold ZcZ;rw[if_neg (by omega),if_neg (by omega),if_pos k3,decide_eq_false h5];simp
 ·have k3:p.k=3:=by simpa using h3
  unfold ZcZ;rw[if_neg (by omega),if_neg (by omega),if_pos k3,decide_eq_false h4];simp
 ·have k4:p.k=4:=by simpa using h4
  unfold ZcZ;rw[if_neg (by omega),if_neg (by omega),if_neg (by omega),if_pos k4,h5,Zcc];simp[k4]
 ·have k4:p.k=4:=by simpa using h4
  unfold ZcZ;rw[if_neg (by omega),if_neg (by omega),if_neg (by omega),if_pos k4,h5];rfl
 ·have k1:¬p.k=1:=by simpa using h1
  have k2:¬p.k=2:=by simpa using h2
  have k3:¬p.k=3:=by simpa using h3
  have k4:¬p.k=4:=by simpa using h4
  show Value.bool false=Value.bool (ZcZ p)
  unfold ZcZ;rw[if_neg k1,if_neg k2,if_neg k3,if_neg k4]
theorem ZsI(r:Ru)(m:Mem)(hr:RepR m r):CX Tryz.prog 61 #[.agg r.cs.toArray] m [] (Ret (.bool (Zbn r))):=by
 apply ZhZ
 unfold ZeB
 intro b m1 aU _
 refine⟨ZuP r,Zac (λh=>⟨by trivial,Zag ?_⟩) (λh=>Zac (λh2=>⟨by trivial,Zag ?_⟩) (λh2=>Zae (ZvB r.t T0 m1 (hr.t.mono aU) (Zot m1)) λm2 bG=>⟨by trivial,Zag ?_⟩)),?_⟩
 ·unfold ZuP;rw[h];rfl
 ·unfold ZuP;rw[h,h2];rfl
 ·unfold ZuP;rw[h,h2];rfl
 refine Zac (λk2=>?_) (λk2=>Zac (λk4=>?_) (λk4=>Zac (λk3=>?_) (λk3=>Zac (λk1=>?_) (λk1=>?_))))
 ·have k2:r.k=2:=by simpa using k2
  refine⟨Zbn r,Zac (λh=>Zac (λh2=>Zae (ZeT r.s.size 1 64 m1) λm2 bG=>⟨by trivial,Zag ?_⟩) (λh2=>⟨by trivial,Zag ?_⟩)) (λh=>⟨by trivial,Zag ?_⟩),Zaa aU rfl⟩
  ·unfold Zbn;rw[if_pos k2,h,show(r.n == 0)=true from h2];rfl
  ·unfold Zbn;rw[if_pos k2,h,show(r.n == 0)=false from h2];rfl
  ·unfold Zbn;rw[if_pos k2,h];rfl
 ·have k2:¬r.k=2:=by simpa using k2
  have k4:r.k=4:=by simpa using k4
  refine⟨Zbn r,Zac (λh=>Zac (λh2=>Zae (ZeT r.n 1 1000 m1) λm2 bG=>⟨by trivial,Zag ?_⟩) (λh2=>⟨by trivial,Zag ?_⟩)) (λh=>⟨by trivial,Zag ?_⟩),Zaa aU rfl⟩
  ·rw[Zcc]at h2;unfold Zbn;rw[if_neg k2,if_pos k4,h,h2];rfl
  ·rw[Zcc]at h2;unfold Zbn;rw[if_neg k2,if_pos k4,h,h2];rfl
  ·unfold Zbn;rw[if_neg k2,if_pos k4,h];rfl
 ·have k2:¬r.k=2:=by simpa using k2
  have k4:¬r.k=4:=by simpa using k4
  have k3:r.k=3:=by simpa using k3
  refine Zac (λh=>Zaa aU ?_) (λh=>⟨Zbn r,Zac (λh2=>⟨by trivial,Zag ?_⟩) (λh2=>⟨by trivial,Zag ?_⟩),Zaa aU rfl⟩)
  ·show Value.bool false=Value.bool (Zbn r)
   unfold Zbn;rw[if_neg k2,if_neg k4,if_pos k3,h];rfl
  ·rw[Zcc]at h2;unfold Zbn;rw[if_neg k2,if_neg k4,if_pos k3,h,h2];rfl
  ·rw[Zcc]at h2;unfold Zbn;rw[if_neg k2,if_neg k4,if_pos k3,h,h2];rfl
 ·have k2:¬r.k=2:=by simpa using k2
  have k4:¬r.k=4:=by simpa using k4
  have k3:¬r.k=3:=by simpa using k3
  have k1:r.k=1:=by simpa using k1
  refine⟨Zbn r,Zac (λh2=>⟨by trivial,Zag ?_⟩) (λh2=>⟨by trivial,Zag ?_⟩),Zaa aU rfl⟩
  ·rw[Zcc]at h2;unfold Zbn;rw[if_neg k2,if_neg k4,if_neg k3,if_pos k1,h2];rfl
  ·rw[Zcc]at h2;unfold Zbn;rw[if_neg k2,if_neg k4,if_neg k3,if_pos k1,h2];rfl
 ·have k2:¬r.k=2:=by simpa using k2
  have k4:¬r.k=4:=by simpa using k4
  have k3:¬r.k=3:=by simpa using k3
  have k1:¬r.k=1:=by simpa using k1
  refine Zaa aU ?_
  show Value.bool false=Value.bool (Zbn r)
  unfold Zbn;rw[if_neg k2,if_neg k4,if_neg k3,if_neg k1]
theorem Zba{m:Mem}{b o:Nat}{cs:List Value}(h:m.reads b o cs)(k n:Nat):m.reads b (o+k) ((cs.drop k).take n):=λi v hi=>by
 rw[Nat.add_assoc]
 refine h (k+i) v ?_
 rw[List.getElem?_take]at hi
 split at hi
 ·rwa [List.getElem?_drop]at hi
 ·cases hi
theorem Zpc{α:Type}{cs:α->List Value}{m:Mem}{a:Option Addr}{L:List α}(h:rowRd m a (L.map cs).flatten)(k:Nat):rowRd m a ((L.take k).map cs).flatten:=by
 have e:(L.map cs).flatten=((L.take k).map cs).flatten++((L.drop k).map cs).flatten:=by
  rw[<-List.flatten_append,<-List.map_append,List.take_append_drop]
 rw[e]at h
 rcases h with h|⟨b,o,ha,h⟩
 ·exact .inl (List.append_eq_nil_iff.1 h).1
 ·refine .inr ⟨b,o,ha,λj v hj=>h j v ?_⟩
  rw[List.getElem?_append_left (List.getElem?_eq_some_iff.1 hj).1];exact hj
section
variable {m:Mem} {b:Nat}
theorem ZsJ(s:Sc)(hb:m.reads b 0 s.cs):CX Tryz.prog 54 #[.pointer (some ⟨b,0,none⟩)] m [] (Ret (.bool (!Zc8 s.n 2 256))):=by
 apply Zg4 (c0b:=b) (c0o:=0)
 unfold ZdU
 refine⟨_,hb 0 _ rfl,Zae (ZeT s.n 2 256 m) λm1 aU=>Zaa aU rfl⟩
theorem ZsK(s:Sc)(hb:m.reads b 0 s.cs):CX Tryz.prog 56 #[.pointer (some ⟨b,0,none⟩)] m [] (Ret (.bool (!Zc8 s.states.length 1 24||decide (s.vars.length > 12)))):=by
 apply Zg5 (c0b:=b) (c0o:=0)
 unfold ZdV
 refine⟨!Zc8 s.states.length 1 24||decide (s.vars.length > 12),⟨_,hb 2 _ rfl,Zab rfl (Zae (ZeT s.states.length 1 24 m) λm1 aU=>Zac (λh=>Zag ?_) (λh=>⟨_,(hb.mono aU) 1 _ rfl,Zab rfl (Zag ?_)⟩))⟩,Zaa (Mem.le_refl m) rfl⟩
 ·rw[h];rfl
 ·rw[h]
  show decide ((s.vars.length:Int) > 12)=(false||decide (s.vars.length > 12))
  rw[Bool.false_or,decide_eq_decide];omega
theorem Zul(s:Sc)(hr:RepC m s):CX Tryz.prog 39 #[s.v] m [] (Ret (.int .i64 (Zvu s))):=by
 apply Zjl
 unfold Zfv
 intro b m1 aU hb b1 hf
 have cA:=Mem.le_add hf ([.int .i64 300,.func (.func 54) #[] #[.pointer (some ⟨b,0,none⟩)],.int .i64 302,.func (.func 56) #[] #[.pointer (some ⟨b,0,none⟩)]])
 refine ZaD (ZgW [((300,54,[.pointer (some ⟨b,0,none⟩)]),!Zc8 s.n 2 256),((302,56,[.pointer (some ⟨b,0,none⟩)]),!Zc8 s.states.length 1 24||decide (s.vars.length > 12))] _ 2 _ (by simp) (.inr ⟨b1,0,rfl,Zat m1 b1 _⟩) λx hx m' hm'=>?_) λm2 bG=>Zaa (mLt aU (mLt cA bG)) rfl
 have hb':=hb.mono (mLt cA hm')
 simp only[List.mem_cons,List.not_mem_nil,or_false]at hx
 rcases hx with rfl|rfl
 ·exact ZsJ s hb'
 ·exact ZsK s hb'
theorem Zlu(v x:Va)(m:Mem)(b:Nat)(hb:m.reads b 0 v.cs):CX Tryz.prog 53 #[.agg x.cs.toArray,.pointer (some ⟨b,0,none⟩)] m [] (Ret (.bool (eqS x.s v.s))):=by
 apply ZdH (c0b:=b) (c0o:=0)
 unfold Zcn
 intro b1 m1 aU _
 exact⟨_,(hb.mono aU) 0 _ rfl,Zab rfl (Zaa aU rfl)⟩
theorem Znj(s:Sc)(i:Nat)(v:Va)(m:Mem)(b0 b1 b2:Nat)(hr:RepC m s)(hi:i<=s.vars.length)(hv:RepV v)(h0:m.reads b0 0 v.cs)(h1:m.reads b1 0 s.cs)(h2:m.reads b2 0 [.int .i64 i]):
  CX Tryz.prog 49 #[.pointer (some ⟨b0,0,none⟩),.pointer (some ⟨b1,0,none⟩),.pointer (some ⟨b2,0,none⟩)] m [] (Ret (.bool (!Zd4 v.s||(!ZhN v||(s.vars.take i).any λx=>eqS x.s v.s)))):=by
 apply ZeC (c0b:=b0) (c0o:=0) (c1b:=b1) (c1o:=0) (c2b:=b2) (c2o:=0)
 unfold ZcM
 have eU:=hr.vlen
 unfold few at eU
 refine⟨_,h0 0 _ rfl,Zae (Ziy v.s hv.s m) λm1 aU=>Zac (λh=>Zaa aU ?_) (λh=>⟨_,_,_,Zba (h0.mono aU) 1 3,Zae (ZsH v m1) λm2 bG=>Zac (λh'=>Zaa (mLt aU bG) ?_) (λh'=>?_)⟩)⟩
 ·show Value.bool true=Value.bool _
  rw[h];rfl
 ·show Value.bool true=Value.bool _
  rw[h,h'];rfl
 ·have hm:=mLt aU bG
  have hc:=hr.vcap
  have key:=ZsE (s.vars.take i) s.va s.vc 53 [.pointer (some ⟨b0,0,none⟩)] (λx=>eqS x.s v.s) m2 (by rw[List.length_take];omega) (Zpc (hr.vrow.mono hm) i) λx _ m' hm'=>Zlu v x m' b0 (h0.mono (mLt hm hm'))
  rw[List.length_take,Nat.min_eq_left hi]at key
  refine⟨_,(h1.mono hm) 1 _ rfl,_,(h2.mono hm) 0 _ rfl,Zab rfl (Zab rfl ⟨⟨Int.natCast_nonneg i,by show(i:Int)<=(s.vc:Int);omega⟩,Zae key λm3 bX=>Zaa (mLt hm bX) ?_⟩)⟩
  show Value.bool _=Value.bool _
  rw[h,h'];rfl
theorem Zpd(s:Sc)(i:Nat)(v:Va)(m:Mem)(hr:RepC m s)(hi:s.vars[i]?=some v):CX Tryz.prog 38 #[s.v,.int .i64 i] m [] (Ret (.int .i64 (Zoz s i v))):=by
 apply ZfT
 unfold Zdu
 intro b m1 aU hb b1 m2 bG cP
 have eU:=hr.vlen
 unfold few at eU
 have bF:=(List.getElem?_eq_some_iff.1 hi).1
 have cA:=mLt aU bG
 obtain⟨b2,o2,ha,hx⟩:=Zav Va.len (hr.vrow.mono cA) hi (by omega)
 refine⟨b2,o2,ha,⟨by omega,by omega⟩,_,_,_,_,hx,λb3=>Zab rfl λb4 hf m3 bX eX=>?_⟩
 have kY:=mLt (Mem.le_add hf _) bX
 have dY:=mLt cA kY
 refine ZaD (ZgW [((301,49,[.pointer (some ⟨b3,0,none⟩),.pointer (some ⟨b,0,none⟩),.pointer (some ⟨b1,0,none⟩)]),!Zd4 v.s||(!ZhN v||(s.vars.take i).any λx=>eqS x.s v.s))] _ 1 _ (by simp) (.inr ⟨b4,0,rfl,(Zat m2 b4 _).mono bX⟩) λx hx m' hm'=>?_) λm4 cM=>Zaa (mLt dY cM) rfl
 simp only[List.mem_cons,List.not_mem_nil,or_false]at hx
 subst hx
 have hl':=mLt kY hm'
 exact Znj s i v m' b3 b b1 (hr.mono (mLt dY hm')) (by omega) (hr.vall v (List.mem_of_getElem? hi)) (eX.mono hm') (hb.mono (mLt bG hl')) (cP.mono hl')
theorem Zqr(v x:Sta)(m:Mem)(b:Nat)(hb:m.reads b 0 v.cs):CX Tryz.prog 59 #[.agg x.cs.toArray,.pointer (some ⟨b,0,none⟩)] m [] (Ret (.bool (eqS x.s v.s))):=by
 apply Zfc (c0b:=b) (c0o:=0)
 unfold Zdc
 intro b1 m1 aU _
 exact⟨_,(hb.mono aU) 0 _ rfl,Zab rfl (Zaa aU rfl)⟩
theorem ZsL(s:Sc)(i:Nat)(v:Sta)(m:Mem)(b0 b1 b2:Nat)(hr:RepC m s)(hi:i<=s.states.length)(hv:RepS m v)(h0:m.reads b0 0 v.cs)(h1:m.reads b1 0 s.cs)(h2:m.reads b2 0 [.int .i64 i]):
  CX Tryz.prog 57 #[.pointer (some ⟨b0,0,none⟩),.pointer (some ⟨b1,0,none⟩),.pointer (some ⟨b2,0,none⟩)] m [] (Ret (.bool (!Zd4 v.s||(decide (v.rules.length > 12)||(s.states.take i).any λx=>eqS x.s v.s)))):=by
 apply Zg7 (c0b:=b0) (c0o:=0) (c1b:=b1) (c1o:=0) (c2b:=b2) (c2o:=0)
 unfold ZdW
 have eU:=hr.len
 unfold few at eU
 refine⟨_,h0 0 _ rfl,Zae (Ziy v.s hv.s m) λm1 aU=>Zac (λh=>Zaa aU ?_) (λh=>⟨_,(h0.mono aU) 1 _ rfl,Zab rfl (ZaF (λh'=>Zaa aU ?_) (λh'=>?_))⟩)⟩
 ·show Value.bool true=Value.bool _
  rw[h];rfl
 ·have h':(v.rules.length:Int) > 12:=h'
  show Value.bool true=Value.bool _
  rw[h,decide_eq_true (by omega)];rfl
 ·have h':¬(v.rules.length:Int) > 12:=h'
  have hc:=hr.scap
  have key:=ZsD (s.states.take i) s.sa s.sc 59 [.pointer (some ⟨b0,0,none⟩)] (λx=>eqS x.s v.s) m1 (by rw[List.length_take];omega) (Zpc (hr.row.mono aU) i) λx _ m' hm'=>Zqr v x m' b0 (h0.mono (mLt aU hm'))
  rw[List.length_take,Nat.min_eq_left hi]at key
  refine⟨_,(h1.mono aU) 2 _ rfl,_,(h2.mono aU) 0 _ rfl,Zab rfl (Zab rfl ⟨⟨Int.natCast_nonneg i,by show(i:Int)<=(s.sc:Int);omega⟩,Zae key λm3 bX=>Zaa (mLt aU bX) ?_⟩)⟩
  show Value.bool _=Value.bool _
  rw[h,decide_eq_false (by omega)];rfl
theorem Zum(s:Sc)(i:Nat)(v:Sta)(m:Mem)(hr:RepC m s)(hi:s.states[i]?=some v):CX Tryz.prog 40 #[s.v,.int .i64 i] m [] (Ret (.int .i64 (Zt2 s i v))):=by
 apply Zjm
 unfold Zfw
 intro b m1 aU hb b1 m2 bG cP
 have eU:=hr.len
 unfold few at eU
 have bF:=(List.getElem?_eq_some_iff.1 hi).1
 have cA:=mLt aU bG
 obtain⟨b2,o2,ha,hx⟩:=Zav Sta.len (hr.row.mono cA) hi (by omega)
 refine⟨b2,o2,ha,⟨by omega,by omega⟩,_,_,hx,λb3=>Zab rfl λb4 hf m3 bX eX=>?_⟩
 have kY:=mLt (Mem.le_add hf _) bX
 have dY:=mLt cA kY
 refine ZaD (ZgW [((303,57,[.pointer (some ⟨b3,0,none⟩),.pointer (some ⟨b,0,none⟩),.pointer (some ⟨b1,0,none⟩)]),!Zd4 v.s||(decide (v.rules.length > 12)||(s.states.take i).any λx=>eqS x.s v.s))] _ 1 _ (by simp) (.inr ⟨b4,0,rfl,(Zat m2 b4 _).mono bX⟩) λx hx m' hm'=>?_) λm4 cM=>Zaa (mLt dY cM) rfl
 simp only[List.mem_cons,List.not_mem_nil,or_false]at hx
 subst hx
 have hl':=mLt kY hm'
 have h0':=mLt dY hm'
 exact ZsL s i v m' b3 b b1 (hr.mono h0') (by omega) ((hr.all v (List.mem_of_getElem? hi)).mono h0') (eX.mono hm') (hb.mono (mLt bG hl')) (cP.mono hl')
theorem Zun(r:Ru)(m:Mem)(b:Nat)(hr:RepR m r)(hb:m.reads b 0 r.cs):CX Tryz.prog 60 #[.pointer (some ⟨b,0,none⟩)] m [] (Ret (.bool (!Zbn r||decide (r.acts.length > 8)))):=by
 apply Zh3 (c0b:=b) (c0o:=0)
 unfold ZeD
 refine⟨!Zbn r||decide (r.acts.length > 8),⟨_,_,_,_,_,_,_,_,_,_,_,_,_,_,_,_,hb,Zae (ZsI r m hr) λm1 aU=>Zac (λh=>Zag ?_) (λh=>⟨_,(hb.mono aU) 13 _ rfl,Zab rfl (Zag ?_)⟩)⟩,Zaa (Mem.le_refl m) rfl⟩
 ·rw[h];rfl
 ·rw[h]
  show decide ((r.acts.length:Int) > 8)=(false||decide (r.acts.length > 8))
  rw[Bool.false_or,decide_eq_decide];omega
theorem Zuo(r:Ru)(total:Int)(m:Mem)(b b1:Nat)(hr:RepR m r)(hb:m.reads b 0 r.cs)(cP:m.reads b1 0 [.int .i64 total]):CX Tryz.prog 62 #[.pointer (some ⟨b,0,none⟩),.pointer (some ⟨b1,0,none⟩)] m [] (Ret (.bool (r.k == 1&&(!(r.t.check == 0)||decide (total > 600))))):=by
 apply Zh4 (c0b:=b) (c0o:=0) (c1b:=b1) (c1o:=0)
 unfold ZeE
 refine⟨r.k == 1&&(!(r.t.check == 0)||decide (total > 600)),⟨_,hb 0 _ rfl,Zab rfl (Zac (λh=>⟨_,_,_,_,_,_,_,_,_,_,Zba hb 1 10,ZaD (Zt8 r.bg r.en r.t m hr.t) λm1 aU=>Zac (λh2=>Zag ?_) (λh2=>⟨_,(cP.mono aU) 0 _ rfl,Zab rfl (Zag ?_)⟩)⟩) (λh=>Zag ?_))⟩,Zaa (Mem.le_refl m) rfl⟩
 ·rw[show(r.k == 1)=true from h,h2];rfl
 ·rw[show(r.k == 1)=true from h,h2];rfl
 ·rw[show(r.k == 1)=false from h];rfl
theorem Zup(s:Sc)(r:Ru)(m:Mem)(b b1:Nat)(hs:RepC m s)(hr:RepR m r)(hb:m.reads b 0 s.cs)(cP:m.reads b1 0 r.cs):CX Tryz.prog 64 #[.pointer (some ⟨b,0,none⟩),.pointer (some ⟨b1,0,none⟩)] m [] (Ret (.bool (if r.go.size=0 then !Zc8 r.code 0 255 else !ZoA s r.go||!(r.code == 0)))):=by
 apply Zh5 (c0b:=b) (c0o:=0) (c1b:=b1) (c1o:=0)
 unfold ZeF
 refine⟨_,_,_,hb,_,cP 14 _ rfl,Zao (ZvJ s r.go m hs) ZsG ?_⟩
 rintro n ok m1 aU ⟨n',hv⟩
 have cN:ok=ZoA s r.go:=by
  have hv:Value.tuple (Array.mk [Value.int .i64 n,Value.bool ok])=Value.tuple #[.int .i64 n',.bool (ZoA s r.go)]:=hv
  simp only[Value.tuple.injEq,Array.mk.injEq,List.cons.injEq,Value.bool.injEq,and_true]at hv
  exact hv.2
 subst cN
 refine⟨_,(cP.mono aU) 14 _ rfl,Zab rfl (Zac (λh=>⟨_,(cP.mono aU) 15 _ rfl,Zae (ZeT r.code 0 255 m1) λm2 bG=>Zaa (mLt aU bG) ?_⟩) (λh=>⟨!ZoA s r.go||!(r.code == 0),Zac (λh2=>Zag ?_) (λh2=>⟨_,(cP.mono aU) 15 _ rfl,Zab rfl (Zag ?_)⟩),Zaa aU ?_⟩))⟩
 ·have h:(r.go.size == 0)=true:=by rw[<-Zcc];exact h
  show Value.bool _=Value.bool _
  rw[if_pos (by simpa using h)]
 ·rw[h2];rfl
 ·rw[h2];rfl
 ·have h:(r.go.size == 0)=false:=by rw[<-Zcc];exact h
  show Value.bool _=Value.bool _
  rw[if_neg (by simpa using h)]
theorem ZvK(s:Sc)(r:Ru)(total:Int)(m:Mem)(hs:RepC m s)(hr:RepR m r):CX Tryz.prog 41 #[s.v,.agg r.cs.toArray,.int .i64 total] m [] (Ret (.int .i64 (Ztr s r total))):=by
 apply Zlc
 unfold ZgJ
 intro b m1 aU hb b1 m2 bG cP b2 m3 bX fJ b3 hf
 have dY:=mLt aU (mLt bG bX)
 refine ZaD (ZgW [((304,60,[.pointer (some ⟨b1,0,none⟩)]),!Zbn r||decide (r.acts.length > 8)),((305,62,[.pointer (some ⟨b1,0,none⟩),.pointer (some ⟨b2,0,none⟩)]),r.k == 1&&(!(r.t.check == 0)||decide (total > 600))),
  ((306,64,[.pointer (some ⟨b,0,none⟩),.pointer (some ⟨b1,0,none⟩)]),if r.go.size=0 then !Zc8 r.code 0 255 else !ZoA s r.go||!(r.code == 0))] _ 3 _ (by simp) (.inr ⟨b3,0,rfl,Zat m3 b3 _⟩) λx hx m' hm'=>?_) λm4 cM=>Zaa (mLt dY (mLt (Mem.le_add hf _) cM)) rfl
 have hl:=mLt (Mem.le_add hf _) hm'
 have h0':=mLt dY hl
 simp only[List.mem_cons,List.not_mem_nil,or_false]at hx
 rcases hx with rfl|rfl|rfl
 ·exact Zun r m' b1 (hr.mono h0') (cP.mono (mLt bX hl))
 ·exact Zuo r total m' b1 b2 (hr.mono h0') (cP.mono (mLt bX hl)) (fJ.mono hl)
 ·exact Zup s r m' b b1 (hs.mono h0') (hr.mono h0') (hb.mono (mLt bG (mLt bX hl))) (cP.mono (mLt bX hl))
end
def Ztx(a:Ac):Bool:=!Zc8 a.k 1 3||(a.k == 1&&!(a.s.size == 0))||(a.k == 3&&decide (a.parts.length > 0))||(a.k == 3&&!a.e.clean)||(!(a.k == 3)&&!Zq9 a.e)||decide (a.parts.length > 16)
theorem Zqs(a:Ac)(m:Mem)(b b1:Nat)(hr:RepA m a)(hb:m.reads b 0 a.cs)(cP:m.reads b1 0 [.bool (a.k == 3)]):CX Tryz.prog 66 #[.pointer (some ⟨b,0,none⟩),.pointer (some ⟨b1,0,none⟩)] m [] (Ret (.bool (Ztx a))):=by
 apply ZfV (c0b:=b) (c0o:=0) (c1b:=b1) (c1o:=0)
 unfold Zdv
 have hw:IntKind.i64.wrap a.k=a.k:=Zan (by have:=hr.k;omega) (by have:=hr.k;omega)
 have num:∀{M:Mem} {Q:Bool->Prop},m.le M->Q (a.k == 3)->∃v:Value,M.c b1 0=some v/\∃x:Bool,v=.bool x/\Q x:=λhM h=>⟨_,(cP.mono hM) 0 _ rfl,_,rfl,h⟩
 have big:∀{M:Mem},m.le M->Ztx a=decide (a.parts.length > 16)->∃v:Value,M.c b (0+2)=some v/\chk (ZbM v) ([Value.bool (decide ((slN v:Int) > 16))]=[Value.bool (Ztx a)]):=λhM h=>⟨_,(hb.mono hM) 2 _ rfl,Zab rfl (Zag (by
  rw[h]
  show decide ((a.parts.length:Int) > 16)=decide (a.parts.length > 16)
  rw[decide_eq_decide];omega))⟩
 refine⟨Ztx a,?_,Zaa (Mem.le_refl m) rfl⟩
 refine⟨_,hb 0 _ rfl,Zab rfl ?_⟩
 show ∃R:RT,True/\CX Tryz.prog 55 #[.int .i64 (IntKind.i64.wrap a.k),.int .i64 1,.int .i64 3] m [] R/\_
 rw[hw]
 refine Zae (ZeT a.k 1 3 m) λm1 aU=>Zac (λh=>Zag ?_) (λgw=>⟨_,(hb.mono aU) 0 _ rfl,Zab rfl ?_⟩)
 ·unfold Ztx;rw[h];rfl
 cases hn:(a.k == 3)with
 | true=>
  have hk:a.k=3:=by simpa using hn
  refine ZfC (by show(a.k == 1)=false;rw[hk];rfl) (num aU (ZnB hn ⟨_,(hb.mono aU) 2 _ rfl,Zab rfl (ZaF (λh=>Zag ?_) (λh=>num aU (ZnB hn ⟨_,_,_,_,_,Zba (hb.mono aU) 3 5,Zae (Zo7 a.e m1 (RepE.mono aU _ hr.e)) λm2 bG=>Zac (λh2=>Zag ?_) (λh2=>num (mLt aU bG) (ZfC (by rw[hn];rfl) (big (mLt aU bG) ?_)))⟩)))⟩))
  ·have h:(a.parts.length:Int) > 0:=h
   unfold Ztx;rw[hn,decide_eq_true (p:=a.parts.length > 0) (by omega),gw];simp
  ·have h:¬(a.parts.length:Int) > 0:=h
   unfold Ztx;rw[hn,h2];simp
  ·have h:¬(a.parts.length:Int) > 0:=h
   unfold Ztx;rw[hn,h2,gw,decide_eq_false (p:=a.parts.length > 0) (by omega),hk];simp
 | false=>
  refine Zac (λh1=>⟨_,(hb.mono aU) 1 _ rfl,Zab rfl (Zac (λh=>Zag ?_) (λh=>num aU (ZfC hn (num aU (ZfC hn (num aU (ZnB (by rw[hn];rfl) ⟨_,_,_,_,_,Zba (hb.mono aU) 3 5,Zae (Ztw a.e m1 (RepE.mono aU _ hr.e)) λm2 bG=>Zac (λh2=>Zag ?_) (λh2=>big (mLt aU bG) ?_)⟩)))))))⟩)
   (λh1=>num aU (ZfC hn (num aU (ZfC hn (num aU (ZnB (by rw[hn];rfl) ⟨_,_,_,_,_,Zba (hb.mono aU) 3 5,Zae (Ztw a.e m1 (RepE.mono aU _ hr.e)) λm2 bG=>Zac (λh2=>Zag ?_) (λh2=>big (mLt aU bG) ?_)⟩))))))
  ·have h1:(a.k == 1)=true:=h1
   have h:(!(a.s.size == 0))=true:=by rw[<-Zcc];exact h
   unfold Ztx;rw[h1,h];simp
  ·unfold Ztx;rw[hn,h2];simp
  ·have h:(!(a.s.size == 0))=false:=by rw[<-Zcc];exact h
   unfold Ztx;rw[hn,h2,h,gw];simp
  ·unfold Ztx;rw[hn,h2];simp
  ·have h1:(a.k == 1)=false:=h1
   unfold Ztx;rw[hn,h2,h1,gw];simp
def ZvL(s:Sc)(a:Ac):Bool:=(!(a.k == 1)&&(!(ZeV s a.s).2||!((ZeV s a.s).1 == (a.k == 3))))||(a.k == 3&&!ZgA s a.e)
theorem Zqt(s:Sc)(a:Ac)(m:Mem)(b b1 b2:Nat)(hs:RepC m s)(hr:RepA m a)(hb:m.reads b 0 s.cs)(cP:m.reads b1 0 a.cs)(fJ:m.reads b2 0 [.bool (a.k == 3)]):
  CX Tryz.prog 69 #[.pointer (some ⟨b,0,none⟩),.pointer (some ⟨b1,0,none⟩),.pointer (some ⟨b2,0,none⟩)] m [] (Ret (.bool (ZvL s a))):=by
 apply ZfW (c0b:=b) (c0o:=0) (c1b:=b1) (c1o:=0) (c2b:=b2) (c2o:=0)
 unfold Zdw
 refine⟨_,_,_,hb,_,cP 1 _ rfl,Zao (Zri s a.s m hs) (λv _ _ e=>by rw[show v=_ from e];rfl) ?_⟩
 intro x y m1 aU hv
 have hv:Value.tuple (Array.mk [Value.bool x,Value.bool y])=Value.tuple #[.bool (ZeV s a.s).1,.bool (ZeV s a.s).2]:=hv
 simp only[Value.tuple.injEq,Array.mk.injEq,List.cons.injEq,Value.bool.injEq,and_true]at hv
 obtain⟨rfl,rfl⟩:=hv
 have num:∀{M:Mem} {Q:Bool->Prop},m.le M->Q (a.k == 3)->∃v:Value,M.c b2 0=some v/\∃x:Bool,v=.bool x/\Q x:=λhM h=>⟨_,(fJ.mono hM) 0 _ rfl,_,rfl,h⟩
 have three:ZvL s a=(a.k == 3&&!ZgA s a.e)->∃v:Value,m1.c b2 0=some v/\∃x:Bool,v=.bool x/\br x (∃v v4 v5:Value,m1.reads b 0 [v,v4,v5]/\∃v6 v7 v8 v9 v10:Value,m1.reads b1 (0+3) [v6,v7,v8,v9,v10]/\∃R:RT,True/\CX Tryz.prog 71 #[.agg #[v,v4,v5],.agg #[v6,v7,v8,v9,v10]] m1 [] R/\Zal .bool R/\∀(x:Bool)(m':Mem),m1.le m'->R (.bool x) m' []->[Value.bool !x]=[Value.bool (ZvL s a)]) ([Value.bool false]=[Value.bool (ZvL s a)]):=λhe=>num aU (Zac (λh3=>⟨_,_,_,hb.mono aU,_,_,_,_,_,Zba (cP.mono aU) 3 5,Zae (ZiW s a.e m1 (hs.mono aU) (RepE.mono aU _ hr.e)) λm2 bG=>Zag (by rw[he,h3];rfl)⟩) (λh3=>Zag (by rw[he,h3];rfl)))
 refine⟨ZvL s a,⟨_,(cP.mono aU) 0 _ rfl,Zab rfl (Zac (λh1=>Zac (λh2=>Zag ?_) (λh2=>num aU (Zac (λh3=>Zag ?_) (λh3=>three ?_)))) (λh1=>three ?_))⟩,Zaa aU rfl⟩
 ·have h1:(!(a.k == 1))=true:=h1
  unfold ZvL;rw[h1,h2];rfl
 ·have h1:(!(a.k == 1))=true:=h1
  unfold ZvL;rw[h1,h3];simp
 ·have h1:(!(a.k == 1))=true:=h1
  unfold ZvL;rw[h1,h2,h3];rfl
 ·have h1:(!(a.k == 1))=false:=h1
  unfold ZvL;rw[h1];rfl
def Zxh(r:Ru)(a:Ac):Bool:=a.k == 3&&decide (a.e.most > Zhk r)
theorem Zqu(r:Ru)(a:Ac)(m:Mem)(b b1 b2:Nat)(hr:RepR m r)(ha:RepA m a)(hb:m.reads b 0 [.bool (a.k == 3)])(cP:m.reads b1 0 a.cs)(fJ:m.reads b2 0 r.cs):
  CX Tryz.prog 72 #[.pointer (some ⟨b,0,none⟩),.pointer (some ⟨b1,0,none⟩),.pointer (some ⟨b2,0,none⟩)] m [] (Ret (.bool (Zxh r a))):=by
 apply ZfX (c0b:=b) (c0o:=0) (c1b:=b1) (c1o:=0) (c2b:=b2) (c2o:=0)
 unfold Zdx
 refine⟨λi _ _=>match i with
  | 4=>Ret (.int .i64 a.e.most)
  | _=>Ret (.int .i64 (Zhk r)),_,hb 0 _ rfl,_,rfl,Zac (λh=>?_) (λh M hM _ _=>Zaa hM ?_)⟩
 ·refine⟨_,_,_,_,_,Zba cP 3 5,_,rfl,Zrh a.e m ha.e,λv _ _ e=>by rw[show v=_ from e];rfl,λn m1 aU hn=>?_⟩
  obtain rfl:n=a.e.most:=by cases hn;rfl
  refine⟨_,_,_,_,_,_,_,_,_,_,_,_,_,_,_,_,fJ,_,rfl,ZgV r m1 (hr.t.mono aU),λv _ _ e=>by rw[show v=_ from e];rfl,λn1 m2 bG hn M hM _ _=>Zaa hM ?_⟩
  obtain rfl:n1=Zhk r:=by cases hn;rfl
  show Value.bool _=Value.bool (Zxh r a)
  unfold Zxh;rw[h];rfl
 ·show Value.bool _=Value.bool (Zxh r a)
  unfold Zxh;rw[h];rfl
theorem ZsM(s:Sc)(r:Ru)(a:Ac)(m:Mem)(hs:RepC m s)(hr:RepR m r)(ha:RepA m a):CX Tryz.prog 42 #[s.v,.agg r.cs.toArray,.agg a.cs.toArray] m [] (Ret (.int .i64 (Zj4 s r a))):=by
 apply Zh6
 unfold ZeG
 intro b m1 aU hb b1 m2 bG cP b2 m3 bX fJ b3 b4 hf m4 cM eX
 have dY:=mLt aU (mLt bG bX)
 have kY:=mLt (Mem.le_add hf _) cM
 refine ZaD (ZgW [((307,66,[.pointer (some ⟨b2,0,none⟩),.pointer (some ⟨b3,0,none⟩)]),Ztx a),((308,69,[.pointer (some ⟨b,0,none⟩),.pointer (some ⟨b2,0,none⟩),.pointer (some ⟨b3,0,none⟩)]),ZvL s a),
  ((309,72,[.pointer (some ⟨b3,0,none⟩),.pointer (some ⟨b2,0,none⟩),.pointer (some ⟨b1,0,none⟩)]),Zxh r a)] _ 3 _ (by simp) (.inr ⟨b4,0,rfl,(Zat m3 b4 _).mono cM⟩) λx hx m' hm'=>?_) λm5 eJ=>Zaa (mLt dY (mLt kY eJ)) rfl
 have hl:=mLt kY hm'
 have h0':=mLt dY hl
 simp only[List.mem_cons,List.not_mem_nil,or_false]at hx
 rcases hx with rfl|rfl|rfl
 ·exact Zqs a m' b2 b3 (ha.mono h0') (fJ.mono hl) (eX.mono hm')
 ·exact Zqt s a m' b b2 b3 (hs.mono h0') (ha.mono h0') (hb.mono (mLt bG (mLt bX hl))) (fJ.mono hl) (eX.mono hm')
 ·exact Zqu r a m' b3 b2 b1 (hr.mono h0') (ha.mono h0') (eX.mono hm') (fJ.mono hl) (cP.mono (mLt bX hl))
def ZsN(l:List Pt)(i:Nat)(p:Pt):Bool:=!ZcZ p||(decide (i > 0)&&(p.k == 1&&(match l[i - 1]? with
 | some q=>q.k == 1
 | none=>false)))
theorem Zuq(l:List Pt)(a:Option Addr)(c:Nat)(i:Nat)(p:Pt)(m:Mem)(b b1 b2:Nat)(hl:l.length<=few)(dA:rowRd m a (l.map Pt.cs).flatten)(hi:i<=l.length)(hp:RepP m p)(hb:m.reads b 0 p.cs)(cP:m.reads b1 0 [.int .i64 i])(fJ:m.reads b2 0 [.slice a l.length c]):
  CX Tryz.prog 75 #[.pointer (some ⟨b,0,none⟩),.pointer (some ⟨b1,0,none⟩),.pointer (some ⟨b2,0,none⟩)] m [] (Ret (.bool (ZsN l i p))):=by
 apply Zh7 (c0b:=b) (c0o:=0) (c1b:=b1) (c1o:=0) (c2b:=b2) (c2o:=0)
 unfold ZeH
 unfold few at hl
 refine⟨ZsN l i p,⟨_,_,_,_,_,_,_,_,hb,Zae (Zni p m hp) λm1 aU=>Zac (λh=>Zag ?_) (λh=>⟨_,(cP.mono aU) 0 _ rfl,Zab rfl (ZaF (λh2=>⟨_,(hb.mono aU) 0 _ rfl,Zab rfl (Zac (λh3=>?_) (λh3=>Zag ?_))⟩) (λh2=>Zag ?_))⟩)⟩,Zaa (Mem.le_refl m) rfl⟩
 ·unfold ZsN;rw[h];rfl
 ·have h2:(i:Int) > 0:=h2
  have h3:(p.k == 1)=true:=h3
  have bF:i - 1 < l.length:=by omega
  obtain⟨q,hq⟩:=Zb8 bF
  have hw:IntKind.i64.wrap ((i:Int) - 1)=((i - 1:Nat):Int):=by rw[Zan (by omega) (by omega)];omega
  obtain⟨b3,o3,ha,hx⟩:=Zav Pt.len (dA.mono aU) hq (by omega)
  refine⟨_,(fJ.mono aU) 0 _ rfl,_,(cP.mono aU) 0 _ rfl,Zab rfl (Zab rfl ⟨b3,o3,ha,?_,.int .u8 q.k,?_,Zab rfl (Zag ?_)⟩)⟩
  ·show Zai (IntKind.i64.wrap ((i:Int) - 1)) l.length
   rw[hw];exact⟨by omega,by omega⟩
  ·show m1.c b3 (o3+(IntKind.i64.wrap ((i:Int) - 1)).toNat*8+0)=_
   rw[hw,Int.toNat_natCast]
   exact hx 0 _ rfl
  ·show(q.k == 1)=_
   unfold ZsN;rw[h,decide_eq_true (p:=i > 0) (by omega),h3,hq];rfl
 ·have h3:(p.k == 1)=false:=h3
  unfold ZsN;rw[h,h3];simp
 ·have h2:¬(i:Int) > 0:=h2
  unfold ZsN;rw[h,decide_eq_false (p:=i > 0) (by omega)];rfl
def Zrj(s:Sc)(p:Pt):Bool:=(p.k == 2&&!(ZeV s p.s).2)||(p.k == 4&&!ZgA s p.e)
theorem Zur(s:Sc)(p:Pt)(m:Mem)(b b1:Nat)(hs:RepC m s)(hp:RepP m p)(hb:m.reads b 0 s.cs)(cP:m.reads b1 0 p.cs):
  CX Tryz.prog 77 #[.pointer (some ⟨b,0,none⟩),.pointer (some ⟨b1,0,none⟩)] m [] (Ret (.bool (Zrj s p))):=by
 apply Zh8 (c0b:=b) (c0o:=0) (c1b:=b1) (c1o:=0)
 unfold ZeI
 refine⟨_,_,_,hb,_,cP 1 _ rfl,Zao (Zri s p.s m hs) (λv _ _ e=>by rw[show v=_ from e];rfl) ?_⟩
 intro x y m1 aU hv
 have hv:Value.tuple (Array.mk [Value.bool x,Value.bool y])=Value.tuple #[.bool (ZeV s p.s).1,.bool (ZeV s p.s).2]:=hv
 simp only[Value.tuple.injEq,Array.mk.injEq,List.cons.injEq,Value.bool.injEq,and_true]at hv
 obtain⟨rfl,rfl⟩:=hv
 refine⟨Zrj s p,⟨_,(cP.mono aU) 0 _ rfl,Zab rfl (Zac (λh1=>Zac (λh2=>Zag ?_) (λh2=>⟨_,(cP.mono aU) 0 _ rfl,Zab rfl (Zac (λh3=>⟨_,_,_,hb.mono aU,_,_,_,_,_,Zba (cP.mono aU) 3 5,Zae (ZiW s p.e m1 (hs.mono aU) (RepE.mono aU _ hp.e)) λm2 bG=>Zag ?_⟩) (λh3=>Zag ?_))⟩))
  (λh1=>⟨_,(cP.mono aU) 0 _ rfl,Zab rfl (Zac (λh3=>⟨_,_,_,hb.mono aU,_,_,_,_,_,Zba (cP.mono aU) 3 5,Zae (ZiW s p.e m1 (hs.mono aU) (RepE.mono aU _ hp.e)) λm2 bG=>Zag ?_⟩) (λh3=>Zag ?_))⟩))⟩,Zaa aU rfl⟩
 ·have h1:(p.k == 2)=true:=h1
  unfold Zrj;rw[h1,h2];rfl
 ·have h1:(p.k == 2)=true:=h1
  have h3:(p.k == 4)=true:=h3
  unfold Zrj;rw[h1,h2,h3];rfl
 ·have h1:(p.k == 2)=true:=h1
  have h3:(p.k == 4)=false:=h3
  unfold Zrj;rw[h1,h2,h3];rfl
 ·have h1:(p.k == 2)=false:=h1
  have h3:(p.k == 4)=true:=h3
  unfold Zrj;rw[h1,h3];rfl
 ·have h1:(p.k == 2)=false:=h1
  have h3:(p.k == 4)=false:=h3
  unfold Zrj;rw[h1,h3];rfl
def Zpe(r:Ru)(p:Pt):Bool:=(p.k == 3&&decide (p.g > Zhk r))||(p.k == 4&&decide (p.e.most > Zhk r))
theorem Zus(r:Ru)(p:Pt)(m:Mem)(b b1:Nat)(hr:RepR m r)(hp:RepP m p)(hb:m.reads b 0 p.cs)(cP:m.reads b1 0 r.cs):
  CX Tryz.prog 78 #[.pointer (some ⟨b,0,none⟩),.pointer (some ⟨b1,0,none⟩)] m [] (Ret (.bool (Zpe r p))):=by
 apply Zh9 (c0b:=b) (c0o:=0) (c1b:=b1) (c1o:=0)
 unfold ZeJ
 refine⟨λi _ _=>match i with
  | 17=>Ret (.int .i64 p.e.most)
  | _=>Ret (.int .i64 (Zhk r)),_,hb 0 _ rfl,Zab rfl (Zac (λh3=>?_) (λh3=>?_))⟩
 ·have h3:(p.k == 3)=true:=h3
  have hk:p.k=3:=by simpa using h3
  refine⟨_,hb 2 _ rfl,_,_,_,_,_,_,_,_,_,_,_,_,_,_,_,_,cP,_,rfl,ZgV r m hr.t,λv _ _ e=>by rw[show v=_ from e];rfl,λn m1 aU hn=>?_⟩
  obtain rfl:n=Zhk r:=by cases hn;rfl
  refine Zab rfl (ZaF (λh=>λM hM _ _ _=>Zaa hM ?_) (λh=>⟨_,(hb.mono aU) 0 _ rfl,Zab rfl (ZfC (by show(p.k == 4)=false;rw[hk];rfl) λM hM _ _ _=>Zaa hM ?_)⟩))
  ·have h:p.g > Zhk r:=h
   show Value.bool _=Value.bool (Zpe r p)
   unfold Zpe;rw[h3,decide_eq_true h];rfl
  ·have h:¬p.g > Zhk r:=h
   show Value.bool _=Value.bool (Zpe r p)
   unfold Zpe;rw[decide_eq_false h,hk];rfl
 ·have h3:(p.k == 3)=false:=h3
  refine⟨_,hb 0 _ rfl,Zab rfl (Zac (λh4=>?_) (λh4 M hM _ _ _=>Zaa hM ?_))⟩
  ·have h4:(p.k == 4)=true:=h4
   refine⟨_,_,_,_,_,Zba hb 3 5,_,rfl,Zrh p.e m hp.e,λv _ _ e=>by rw[show v=_ from e];rfl,λn m1 aU hn=>?_⟩
   obtain rfl:n=p.e.most:=by cases hn;rfl
   refine⟨_,_,_,_,_,_,_,_,_,_,_,_,_,_,_,_,cP,_,rfl,ZgV r m1 (hr.t.mono aU),λv _ _ e=>by rw[show v=_ from e];rfl,λn1 m2 bG hn M hM _ _ _=>Zaa hM ?_⟩
   obtain rfl:n1=Zhk r:=by cases hn;rfl
   show Value.bool _=Value.bool (Zpe r p)
   unfold Zpe;rw[h3,h4];rfl
  ·have h4:(p.k == 4)=false:=h4
   show Value.bool _=Value.bool (Zpe r p)
   unfold Zpe;rw[h3,h4];rfl
theorem ZvM(s:Sc)(r:Ru)(l:List Pt)(a:Option Addr)(c:Nat)(i:Nat)(p:Pt)(m:Mem)(hs:RepC m s)(hr:RepR m r)(hl:l.length<=few)(dA:rowRd m a (l.map Pt.cs).flatten)(cB:∀x∈l,RepP m x)(hi:l[i]?=some p):
  CX Tryz.prog 43 #[s.v,.agg r.cs.toArray,.slice a l.length c,.int .i64 i] m [] (Ret (.int .i64 (Zts s r l i p))):=by
 apply Zld
 unfold ZgK
 intro b m1 aU hb b1 m2 bG cP b2 m3 bX fJ b3 m4 cM eX
 have rB:=mLt bX cM
 have rC:=mLt bG rB
 have jS:=mLt aU rC
 have bF:=(List.getElem?_eq_some_iff.1 hi).1
 have hl':=hl
 unfold few at hl'
 obtain⟨b4,o4,ha,hx⟩:=Zav Pt.len (dA.mono jS) hi (by omega)
 refine⟨b4,o4,ha,⟨by omega,by omega⟩,_,_,_,_,_,_,_,_,hx,λb5=>Zab rfl λb6 hf m5 eJ ql=>?_⟩
 have rD:=mLt (Mem.le_add hf _) eJ
 refine ZaD (ZgW [((307,75,[.pointer (some ⟨b5,0,none⟩),.pointer (some ⟨b3,0,none⟩),.pointer (some ⟨b2,0,none⟩)]),ZsN l i p),((308,77,[.pointer (some ⟨b,0,none⟩),.pointer (some ⟨b5,0,none⟩)]),Zrj s p),
  ((309,78,[.pointer (some ⟨b5,0,none⟩),.pointer (some ⟨b1,0,none⟩)]),Zpe r p)] _ 3 _ (by simp) (.inr ⟨b6,0,rfl,(Zat m4 b6 _).mono eJ⟩) λx hx m' hm'=>?_) λm6 iv=>Zaa (mLt jS (mLt rD iv)) rfl
 have hl:=mLt rD hm'
 have h0':=mLt jS hl
 have hp:=(cB p (List.mem_of_getElem? hi)).mono h0'
 simp only[List.mem_cons,List.not_mem_nil,or_false]at hx
 rcases hx with rfl|rfl|rfl
 ·exact Zuq l a c i p m' b5 b3 b2 (by unfold few;omega) (dA.mono h0') (by omega) hp (ql.mono hm') (eX.mono hl) (fJ.mono (mLt cM hl))
 ·exact Zur s p m' b b5 (hs.mono h0') hp (hb.mono (mLt rC hl)) (ql.mono hm')
 ·exact Zus r p m' b5 b1 (hr.mono h0') hp (ql.mono hm') (cP.mono (mLt rB hl))
theorem ZnC(r:Ru):0<=ZhO r/\ZhO r<=10001:=by
 have:=Zmb r.t
 unfold ZhO;split <;> omega
theorem ZvN{α:Type}(f:α->Int)(B:Int)(l:List α)(hf:∀x∈l,f x<=B):Zcd (l.map f)<=l.length*B:=by
 induction l with
 | nil=>simp[Zcd]
 | cons x l ih=>
  have h1:=hf x (by simp)
  have h2:=ih λy hy=>hf y (by simp[hy])
  simp only[List.map_cons,Zcd,List.length_cons]
  push_cast
  rw[Int.add_mul];omega
def ZsO(x:Sta):Int:=Zcd (x.rules.map ZhO)
def T0s(s:Sc)(i:Nat):Int:=Zcd ((s.states.take i).map ZsO)
theorem ZsP{s:Sc}{i:Nat}{x:Sta}(h:s.states[i]?=some x)(k:Nat):ZfP s i k=T0s s i+Zcd ((x.rules.take (k+1)).map ZhO):=by
 unfold ZfP;rw[h];rfl
theorem ZnD{m:Mem}{x:Sta}(hx:RepS m x)(k:Nat):0<=Zcd ((x.rules.take k).map ZhO)/\Zcd ((x.rules.take k).map ZhO)<=1000100000:=by
 have hl:=hx.len
 unfold few at hl
 refine⟨Zjb _ (λr=>(ZnC r).1) _,?_⟩
 have:=ZvN ZhO 10001 (x.rules.take k) λr _=>(ZnC r).2
 rw[List.length_take]at this
 omega
theorem ZxN{m:Mem}{s:Sc}(hs:RepC m s)(i:Nat):0<=T0s s i/\T0s s i<=100010000000000:=by
 have hl:=hs.len
 unfold few at hl
 refine⟨Zjb _ (λx=>Zjb _ (λr=>(ZnC r).1) _) _,?_⟩
 have:=ZvN ZsO 1000100000 (s.states.take i) λx hx=>by
  have:=(ZnD (hs.all x (List.mem_of_mem_take hx)) x.rules.length).2
  rw[List.take_length]at this;exact this
 rw[List.length_take]at this
 unfold T0s;omega
def ZuV(s:Sc)(i n:Nat):List Value:=(List.range n).map λj=>.int .i64 (ZfP s i j)
theorem Zut(s:Sc)(i n:Nat):(ZuV s i n).length=n:=by simp[ZuV]
theorem ZsQ(s:Sc)(i n:Nat):ZuV s i (n+1)=ZuV s i n++[.int .i64 (ZfP s i n)]:=by simp[ZuV,List.range_succ]
def TotI(s:Sc)(i:Nat)(a:Option Addr)(vs:List Value)(m:Mem):Prop:=vs.length=i/\rowRd m a vs/\∀(k:Nat)(x:Sta),k < i->s.states[k]?=some x->∃ak ck,vs[k]?=some (.slice ak x.rules.length ck)/\rowRd m ak (ZuV s k x.rules.length)
theorem TotI.mono{s:Sc}{i:Nat}{a:Option Addr}{vs:List Value}{m m':Mem}(h:TotI s i a vs m)(hm:m.le m'):TotI s i a vs m':=⟨h.1,h.2.1.mono hm,λk x hk hx=>by
 obtain⟨ak,ck,h1,h2⟩:=h.2.2 k x hk hx
 exact⟨ak,ck,h1,h2.mono hm⟩⟩
def ZxZ(s:Sc):Value->Mem->List (List Value)->Prop:=λv m _=>∃a c vs,v=.slice a s.states.length c/\TotI s s.states.length a vs m
theorem Zrk{s}:∀(v:Value)(m':Mem) (css:List (List Value)),ZxZ s v m' css->Shape.fits .slice v=true:=λv _ _ ⟨_,_,_,e,_⟩=>by rw[e];rfl
set_option maxHeartbeats 1000000 in
theorem Zpf(s:Sc)(m:Mem)(hr:RepC m s):CX Tryz.prog 28 #[s.v] m [] (ZxZ s):=by
 apply Zia
 unfold ZeK
 intro b m1 aU _
 have fV:=hr.len
 unfold few at fV
 refine⟨λxs _ tks m' q=>∃(i:Nat)(a:Option Addr)(c:Nat)(vs:List Value),i<=s.states.length/\xs=[.int .i64 (T0s s i),.slice a i c,.int .i64 i]/\tks=[.slice a i c]/\m1.le m'/\TotI s i a vs m'/\q=s.states.length - i,
  ⟨s.states.length,0,none,0,[],by omega,rfl,rfl,Mem.le_refl _,⟨rfl,.inl rfl,λk x hk=>absurd hk (by omega)⟩,rfl⟩,?_⟩
 rintro n a n1 c n2 a1 n3 c1 m2 q bG ⟨i,A,C,vs,hi,hx,ht,cA,hT,hq⟩
 simp only[List.cons.injEq,Value.int.injEq,Value.slice.injEq,and_true,true_and]at hx ht
 obtain⟨rfl,⟨ea,en,ec⟩,rfl⟩:=hx
 obtain⟨ea',en',ec'⟩:=ht
 subst a1 n3 c1 a n1 c
 subst hq
 have hO:=mLt aU bG
 have hw:∀k:Nat,k<=100000->IntKind.i64.wrap ((k:Int)+1)=((k+1:Nat):Int):=λk hk=>by rw[Zan (by omega) (by omega)];rfl
 refine ZaF (λbF=>?_) (λdC=>?_)
 ·have bF:(i:Int) < (s.states.length:Int):=bF
  have bQ:i < s.states.length:=by omega
  obtain⟨x,hx⟩:=Zb8 bQ
  have dX:=hr.all x (List.mem_of_getElem? hx)
  have kp:=dX.len
  unfold few at kp
  obtain⟨b2,o2,ha,iA⟩:=Zav Sta.len (hr.row.mono hO) hx (by omega)
  refine⟨b2,o2,ha,⟨by omega,by omega⟩,_,_,by rw[Int.toNat_natCast];exact iA,λb3=>Zab rfl (Zab rfl ?_)⟩
  refine⟨λxs _ tks m' q=>∃(k:Nat)(ak:Option Addr)(ck:Nat),k<=x.rules.length/\xs=[.int .i64 (T0s s i+Zcd ((x.rules.take k).map ZhO)),.slice ak k ck,.int .i64 k]/\tks=[.slice ak k ck]/\rowRd m' ak (ZuV s i k)/\q=x.rules.length - k,
   ⟨x.rules.length,0,none,0,by omega,by simp[Zcd],rfl,.inl rfl,rfl⟩,?_⟩
  rintro n a4 n5 c2 n6 a5 n7 c3 m3 q bX ⟨k,ak,ck,hk,iW,rE,dA,hq⟩
  simp only[List.cons.injEq,Value.int.injEq,Value.slice.injEq,and_true,true_and]at iW rE
  obtain⟨rfl,⟨ea,en,ec⟩,rfl⟩:=iW
  obtain⟨ea',en',ec'⟩:=rE
  subst a5 n7 c3 a4 n5 c2
  subst hq
  have dY:=mLt hO bX
  refine ZaF (λeB=>?_) (λeY=>?_)
  ·have eB:(k:Int) < (x.rules.length:Int):=eB
   obtain⟨r,gJ⟩:=Zb8 (show k < x.rules.length by omega)
   have gA:=dX.all r (List.mem_of_getElem? gJ)
   obtain⟨b4,o4,tz,ko⟩:=Zav Ru.len (dX.row.mono dY) gJ (by omega)
   have re:=ZxN hr i
   have fZ:=ZnD dX k
   have tA:=ZnD dX (k+1)
   have dP:=ZcF ZhO gJ
   have nJ:=ZsP hx k
   have next:∀{M M2:Mem} {b5:Nat} {z:Int} {Q:Option Addr->Nat->Mem->Prop},m3.le M->M.free b5->z=ZfP s i k->(∀(a':Option Addr)(c':Nat)(m':Mem),M.le m'->rowRd m' a' (ZuV s i (k+1))->Q a' c' m')->
     (Tok.mk (.slice ak k ck) 1=Tok.mk (.slice ak k ck) 1\/Value.slice ak k ck=.slice none 0 0\/ck < k+1)/\∃xs ys:List Value,xs.length=k*1/\ys.length=1*1/\rowRd (M.add b5 [.int .i64 z]) ak xs/\rowRd (M.add b5 [.int .i64 z]) (some ⟨b5,0,none⟩) ys/\(∀u∈ys,u.oneCell'=true)/\
      (k+1)*8<=140737488355328/\k+1<=9223372036854775807/\∀(a':Option Addr)(c':Nat)(m':Mem),(M.add b5 [.int .i64 z]).le m'->rowRd m' a' (xs++ys)->Q a' c' m':=λ{M M2 b5 z Q} hM hf hz hQ=>
    ⟨.inl rfl,ZuV s i k,[.int .i64 z],by rw[Zut];omega,rfl,dA.mono (mLt hM (Mem.le_add hf _)),.inr ⟨b5,0,rfl,Zat M b5 _⟩,by simp[Value.oneCell'],by omega,by omega,λa' c' m' hm' hr'=>hQ a' c' m' (mLt (Mem.le_add hf _) hm') (by rw[ZsQ,<-hz];exact hr')⟩
   refine Zab rfl ⟨b4,o4,tz,⟨by omega,eB⟩,_,_,_,_,_,_,_,_,_,_,_,_,_,_,_,_,by rw[Int.toNat_natCast];exact ko,λb5=>Zab rfl (Zab rfl (Zac (λgE=>?_) (λgE b6 hf=>?_)))⟩
   ·have gE:r.k=1:=eq_of_beq (show(r.k == 1)=true from gE)
    have hz:ZhO r=r.t.size:=by unfold ZhO;rw[if_pos gE]
    refine ZaD (Zrb r.t m3 (gA.t.mono dY)) λm4 cM b6 hf=>?_
    have cD:=Zmb r.t
    rw[Zan (n:=_+r.t.size) (by omega) (by omega)]
    refine next (M2:=m4) cM hf (by rw[nJ,dP,hz];omega) λa' c' m' hm' hr'=>⟨rfl,rfl,x.rules.length - (k+1),by omega,k+1,a',c',by omega,?_,rfl,hr',rfl⟩
    rw[hw k (by omega),dP,hz]
    simp only[Int.add_assoc]
   ·have gE:¬r.k=1:=λe=>by
     have:(r.k == 1)=false:=gE
     rw[e]at this;simp at this
    have hz:ZhO r=0:=by unfold ZhO;rw[if_neg gE]
    refine next (M2:=m3) (Mem.le_refl _) hf (by rw[nJ,dP,hz];omega) λa' c' m' hm' hr'=>⟨rfl,rfl,x.rules.length - (k+1),by omega,k+1,a',c',by omega,?_,rfl,hr',rfl⟩
    rw[hw k (by omega),dP,hz,Int.add_zero]
  ·have eY:¬(k:Int) < (x.rules.length:Int):=eY
   obtain rfl:k=x.rules.length:=by omega
   intro b3 hf
   have jl:=hT.mono (mLt bX (Mem.le_add hf [.slice ak x.rules.length ck]))
   refine⟨.inl rfl,vs,[.slice ak x.rules.length ck],by rw[hT.1];omega,rfl,jl.2.1,.inr ⟨b3,0,rfl,Zat m3 b3 _⟩,by simp[Value.oneCell'],by omega,by omega,λa' c' m' hm' hr'=>⟨rfl,s.states.length - (i+1),by omega,i+1,a',c',vs++[.slice ak x.rules.length ck],by omega,?_,rfl,mLt cA (mLt bX (mLt (Mem.le_add hf _) hm')),⟨by rw[List.length_append,hT.1];rfl,hr',λj y hj hy=>?_⟩,rfl⟩⟩
   ·rw[hw i (by omega),List.take_length]
    have:T0s s (i+1)=T0s s i+ZsO x:=ZcF ZsO hx
    rw[this];rfl
   ·by_cases ky:j < i
    ·obtain⟨aj,cj,h1,h2⟩:=jl.2.2 j y ky hy
     exact⟨aj,cj,by rw[List.getElem?_append_left (by rw[hT.1];omega)];exact h1,h2.mono hm'⟩
    ·obtain rfl:j=i:=by omega
     obtain rfl:x=y:=by rw[hx]at hy;exact Option.some.inj hy
     exact⟨ak,ck,by rw[List.getElem?_append_right (by rw[hT.1];omega),hT.1];simp,dA.mono (mLt (Mem.le_add hf _) hm')⟩
 ·have dC:¬(i:Int) < (s.states.length:Int):=dC
  obtain rfl:i=s.states.length:=by omega
  exact⟨m2,hO,Mem.le_refl _,A,C,vs,rfl,hT⟩
theorem Zxt{m:Mem}{a:Option Addr}{vs:List Value}(h:rowRd m a vs){k:Nat}{v:Value}(hk:vs[k]?=some v):∃b o,a=some ⟨b,o,none⟩/\m.c b (o+k*1)=some v:=by
 rcases h with h|⟨b,o,ha,h⟩
 ·rw[h]at hk;simp at hk
 ·exact⟨b,o,ha,by rw[Nat.mul_one];exact h k v hk⟩
theorem Zxi(s:Sc)(ta:Option Addr)(tc:Nat)(vs:List Value)(p:Pl)(m:Mem)(hr:RepC m s)(hT:TotI s s.states.length ta vs m)(hp:ZxX s p):
  CX Tryz.prog 27 #[s.v,.slice ta s.states.length tc,.agg p.cs.toArray] m [] (Ret (.int .i64 (atS s p))):=by
 obtain⟨pv,ps,pr,pa,pp⟩:=p
 dsimp only[ZxX]at hp
 dsimp only[Pl.cs]
 show CX Tryz.prog 27 #[s.v,.slice ta s.states.length tc,.agg #[.int .i64 pv,.int .i64 ps,.int .i64 pr,.int .i64 pa,.int .i64 pp]] m [] _
 apply ZoK
 unfold Zj6
 intro b m1 aU _ b1 m2 bG _
 have hm:=mLt aU bG
 have eU:=hr.vlen
 have fV:=hr.len
 unfold few at eU fV
 rcases hp with⟨i,rfl,v,hv⟩|⟨hv,hp⟩
 ·refine ZnB (decide_eq_true (Int.natCast_nonneg i)) (ZaD (Zpd s i v m2 (hr.mono hm) hv) λm3 bX=>Zaa (mLt hm bX) ?_)
  show Value.int _ _=Value.int _ _
  unfold atS;rw[if_pos (Int.natCast_nonneg i),Int.toNat_natCast,hv]
 have hv:pv < 0:=hv
 refine ZfC (decide_eq_false (by omega)) ?_
 rcases hp with hs|⟨i,rfl,x,hx,hp⟩
 ·have hs:ps < 0:=hs
  refine ZnB (decide_eq_true hs) (ZaD (Zul s (hr.mono hm)) λm3 bX=>Zaa (mLt hm bX) ?_)
  show Value.int _ _=Value.int _ _
  unfold atS;rw[if_neg (by show ¬pv ≥ 0;omega),if_pos hs]
 refine ZfC (decide_eq_false (by omega)) ?_
 have tB:=(List.getElem?_eq_some_iff.1 hx).1
 have at0:∀q:Pl,q.v=pv->q.s=i->atS s q=if q.r < 0 then Zt2 s i x else match x.rules[q.r.toNat]? with
   | none=>0
   | some r=>if q.a < 0 then Ztr s r (ZfP s i q.r.toNat)else match r.acts[q.a.toNat]? with
    | none=>0
    | some a=>if q.p < 0 then Zj4 s r a else match a.parts[q.p.toNat]? with
     | none=>0
     | some z=>Zts s r a.parts q.p.toNat z:=λq h1 h2=>by
  unfold atS;rw[h1,h2,if_neg (by omega),if_neg (by omega),Int.toNat_natCast,hx]
  rfl
 rcases hp with hs|⟨k,rfl,r,gJ,hp⟩
 ·have hs:pr < 0:=hs
  refine ZnB (decide_eq_true hs) (ZaD (Zum s i x m2 (hr.mono hm) hx) λm3 bX=>Zaa (mLt hm bX) ?_)
  show Value.int _ _=Value.int _ _
  rw[at0 _ rfl rfl,if_pos hs]
 refine ZfC (decide_eq_false (by omega)) ?_
 have qh:=List.mem_of_getElem? hx
 have dX:=(hr.all x qh).mono hm
 have kp:=dX.len
 unfold few at kp
 have jX:=(List.getElem?_eq_some_iff.1 gJ).1
 have oL:=List.mem_of_getElem? gJ
 have gA:=dX.all r oL
 have lU:=gA.len
 unfold few at lU
 obtain⟨b2,o2,qm,iA⟩:=Zav Sta.len (hr.row.mono hm) hx (by omega)
 obtain⟨b3,o3,jQ,iW⟩:=Zav Ru.len dX.row gJ (by omega)
 have at1:∀q:Pl,q.v=pv->q.s=i->q.r=k->atS s q=if q.a < 0 then Ztr s r (ZfP s i k)else match r.acts[q.a.toNat]? with
    | none=>0
    | some a=>if q.p < 0 then Zj4 s r a else match a.parts[q.p.toNat]? with
     | none=>0
     | some z=>Zts s r a.parts q.p.toNat z:=λq h1 h2 h3=>by
  rw[at0 q h1 h2,h3,if_neg (by omega),Int.toNat_natCast,gJ]
 refine⟨b2,o2,qm,⟨by omega,by omega⟩,_,iA 1 _ rfl,Zab rfl ⟨b3,o3,jQ,⟨by omega,by show(k:Int) < (x.rules.length:Int);omega⟩,_,_,_,_,_,_,_,_,_,_,_,_,_,_,_,_,iW,λb4=>Zab rfl ?_⟩⟩
 rcases hp with hs|⟨j,rfl,a,hU,hp⟩
 ·have hs:pa < 0:=hs
  refine ZnB (decide_eq_true hs) ?_
  obtain⟨ak,ck,mK,nK⟩:=hT.2.2 i x tB hx
  obtain⟨b5,o5,gO,oO⟩:=Zxt (hT.2.1.mono hm) mK
  have gy:(ZuV s i x.rules.length)[k]?=some (.int .i64 (ZfP s i k)):=by
   unfold ZuV;rw[List.getElem?_map,List.getElem?_range jX];rfl
  obtain⟨b6,o6,qn,tC⟩:=Zxt (nK.mono hm) gy
  refine⟨λ_ _ _=>Ret (.int .i64 (Ztr s r (ZfP s i k))),b5,o5,gO,⟨by omega,by omega⟩,_,oO,Zab rfl ⟨b6,o6,qn,⟨by omega,by show(k:Int) < (x.rules.length:Int);omega⟩,_,tC,_,rfl,ZvK s r (ZfP s i k) m2 (hr.mono hm) gA,λv _ _ e=>by rw[show v=_ from e];rfl,λn m3 bX hn M hM _=>Zaa (mLt hm hM) ?_⟩⟩
  obtain rfl:n=Ztr s r (ZfP s i k):=by cases hn;rfl
  show Value.int _ _=Value.int _ _
  rw[at1 _ rfl rfl rfl,if_pos hs]
 refine ZfC (decide_eq_false (by omega)) ?_
 have ut:=(List.getElem?_eq_some_iff.1 hU).1
 have tD:=List.mem_of_getElem? hU
 have iw:=gA.all a tD
 obtain⟨b5,o5,gO,ia⟩:=Zav Ac.len gA.row hU (by omega)
 rcases hp with hs|⟨n,rfl,z,hz⟩
 ·have hs:pp < 0:=hs
  refine ZnB (decide_eq_true hs) ⟨λ_ _ _=>Ret (.int .i64 (Zj4 s r a)),Zab rfl ⟨b5,o5,gO,⟨by omega,by show(j:Int) < (r.acts.length:Int);omega⟩,_,_,_,_,_,_,_,_,ia,_,rfl,ZsM s r a m2 (hr.mono hm) gA iw,λv _ _ e=>by rw[show v=_ from e];rfl,λn m3 bX hn M hM _=>Zaa (mLt hm hM) ?_⟩⟩
  obtain rfl:n=Zj4 s r a:=by cases hn;rfl
  show Value.int _ _=Value.int _ _
  have qo:¬(j:Int) < 0:=by omega
  have oJ:r.acts[(j:Int).toNat]?=some a:=by rw[Int.toNat_natCast];exact hU
  rw[at1 _ rfl rfl rfl]
  simp only[qo,oJ,hs,if_true,if_false]
 ·refine ZfC (decide_eq_false (by omega)) ⟨λ_ _ _=>Ret (.int .i64 (Zts s r a.parts n z)),Zab rfl ⟨b5,o5,gO,⟨by omega,by show(j:Int) < (r.acts.length:Int);omega⟩,_,ia 2 _ rfl,_,rfl,ZvM s r a.parts a.pa a.pc n z m2 (hr.mono hm) gA iw.n iw.row iw.all hz,λv _ _ e=>by rw[show v=_ from e];rfl,λn' m3 bX hn M hM _=>Zaa (mLt hm hM) ?_⟩⟩
  obtain rfl:n'=Zts s r a.parts n z:=by cases hn;rfl
  show Value.int _ _=Value.int _ _
  have qo:¬(j:Int) < 0:=by omega
  have oJ:r.acts[(j:Int).toNat]?=some a:=by rw[Int.toNat_natCast];exact hU
  have l8:¬(n:Int) < 0:=by omega
  have gx:a.parts[(n:Int).toNat]?=some z:=by rw[Int.toNat_natCast];exact hz
  rw[at1 _ rfl rfl rfl]
  simp only[qo,oJ,l8,gx,if_false]
  rw[Int.toNat_natCast]
end Go.Proofs.YtiadlgdcbpnmkaaGreatDoor