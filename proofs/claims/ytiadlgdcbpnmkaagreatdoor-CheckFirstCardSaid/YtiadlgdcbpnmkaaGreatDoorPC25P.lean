/- Part of the proof: conditions and contracts of functions of this program. No condition of its own. -/
import Derived.Test.YtiadlgdcbpnmkaaGreatDoorPC13Q
import Derived.Test.YtiadlgdcbpnmkaaGreatDoorMr
import Derived.Test.YtiadlgdcbpnmkaaGreatDoorPVEA
import Derived.Laws.Externs
import Derived.Test.YtiadlgdcbpnmkaaGreatDoorPVED
set_option linter.unusedVariables false
set_option linter.unusedSimpArgs false
set_option linter.unusedSectionVars false
namespace Go.Proofs.YtiadlgdcbpnmkaaGreatDoor
open Go Go.Eng Go.Rx Go.Proofs Go.RowKit
set_option maxRecDepth 100000
theorem Zt6(t:T)(m:Mem)(hr:Rep m t):CX Tryz.prog 109 #[t.v] m [] (Ret (.bool t.right)):=by
 apply ZoZ
 unfold Zkb
 intro b m1 aU _
 have dU:=hr.mono aU
 refine⟨t.k != 2&&!t.setZ||(t.k != 5&&(t.mn != 0||t.mx != 0)||(decide (t.k < 3)&&decide (0 < t.subs.length))),?_,Zac (λh=>Zaa aU ?_) (λh=>?_)⟩
 ·refine Zac (λh1=>?_) (λh1=>?_)
  ·refine⟨t.setZ,Zt5 _ _ _ _ _ _ _ _,?_⟩
   simp only[Zsg]
   (repeat' split) <;> simp_all <;> omega
  ·simp only[Zsg]
   (repeat' split) <;> simp_all <;> omega
 ·simp[Ret,T.right,h]
 ·refine Zac (λh1=>Zaa aU ?_) (λh1=>Zac (λh2=>⟨t.setZ,Zt5 _ _ _ _ _ _ _ _,Zaa aU ?_⟩) (λh2=>Zac (λh3=>?_) (λh3=>Zac (λh4=>?_) (λh4=>Zac (λh5=>?_) (λh5=>?_)))))
  ·have:t.k=1:=by simpa using h1
   show Value.bool _=Value.bool t.right;rw[T.right,h];simp[this]
  ·have:t.k=2:=by simpa using h2
   show Value.bool _=Value.bool t.right;rw[T.right,h];simp[this]
  ·have:t.k=3:=by simpa using h3
   refine⟨decide (1 < t.subs.length)&&(!t.has 1&&!t.has 3),Zac (λh4=>?_) (λh4=>?_),Zaa aU ?_⟩
   ·refine Zae (Zsv t 1 m1 dU) λm2 bG=>Zac (λh5=>?_) (λh5=>?_)
    ·refine Zae (Zsv t 3 m2 (dU.mono bG)) λm3 bX=>⟨rfl,Zag ?_⟩
     simp_all <;> (intros;omega)
    ·refine⟨rfl,Zag ?_⟩
     simp_all <;> (intros;omega)
   ·refine⟨rfl,Zag ?_⟩
    simp_all <;> (intros;omega)
   ·show Value.bool _=Value.bool t.right;rw[T.right,h];simp[this]
  ·have:t.k=4:=by simpa using h4
   refine⟨decide (1 < t.subs.length)&&!t.has 4,Zac (λh4=>?_) (λh4=>?_),Zaa aU ?_⟩
   ·refine Zae (Zsv t 4 m1 dU) λm2 bG=>⟨rfl,Zag ?_⟩
    simp_all <;> (intros;omega)
   ·refine⟨rfl,Zag ?_⟩
    simp_all <;> (intros;omega)
   ·show Value.bool _=Value.bool t.right;rw[T.right,h];simp[this]
  ·have:t.k=5:=by simpa using h5
   refine⟨t.subs.length == 1&&(Zp8 t.mn t.mx&&!t.has 1),Zac (λh4=>?_) (λh4=>?_),Zaa aU ?_⟩
   ·refine Zae (Zsu t.mn t.mx m1) λm2 bG=>Zac (λh5=>?_) (λh5=>?_)
    ·refine Zae (Zsv t 1 m2 (dU.mono bG)) λm3 bX=>⟨rfl,Zag ?_⟩
     have h4':((t.subs.length:Int) == 1)=true:=h4
     have:t.subs.length=1:=by have:=of_decide_eq_true h4';omega
     simp_all <;> (intros;omega)
    ·refine⟨rfl,Zag ?_⟩
     simp_all <;> (intros;omega)
   ·refine⟨rfl,Zag ?_⟩
    have h4':((t.subs.length:Int) == 1)=false:=h4
    have:¬t.subs.length=1:=by have:=of_decide_eq_false h4';omega
    simp_all <;> (intros;omega)
   ·show Value.bool _=Value.bool t.right;rw[T.right,h];simp[this]
  ·refine⟨t.k == 6&&t.subs.length == 1,Zac (λh4=>⟨rfl,Zag ?_⟩) (λh4=>⟨rfl,Zag ?_⟩),Zaa aU ?_⟩
   ·have:(t.k == 6)=true:=h4
    rw[this,Bool.true_and]
    show(decide ((t.subs.length:Int)=1))=decide (t.subs.length=1)
    rw[decide_eq_decide];omega
   ·have:(t.k == 6)=false:=h4
    simp[this]
   ·show Value.bool _=Value.bool t.right;rw[T.right,h]
    have e1:¬t.k=1:=by simpa using h1
    have e2:¬t.k=2:=by simpa using h2
    have e3:¬t.k=3:=by simpa using h3
    have e4:¬t.k=4:=by simpa using h4
    have e5:¬t.k=5:=by simpa using h5
    simp[e1,e2,e3,e4,e5]
theorem Zt7(t:T)(m:Mem)(hr:Rep m t):CX Tryz.prog 88 #[t.v] m [] (Ret (.bool t.clean)):=by
 apply Zo0
 unfold Zkc
 intro b m1 aU _ b2
 refine Zae (Zff t m1 (hr.mono aU)) λm2 bG=>Zac (λh=>Zaa (mLt aU bG) ?_) (λh=>?_)
 ·have:t.light=false:=by simpa using h
  simp[Ret,T.clean,this]
 have hl:t.light=true:=by simpa using h
 refine Zao (ZiU t m2) (λv m' css h=>by obtain⟨_,rfl,_⟩:=h;rfl) ?_
 rintro g fi ca m3 bX ⟨b3,hv,eX⟩
 obtain⟨rfl,rfl,rfl⟩:=Zcv hv
 have cA:=mLt aU (mLt bG bX)
 refine⟨_,Zf1 t m3 b3 eX (hr.mono cA),λy hy=>?_,λ_ css _ m' q=>m3.le m'/\∀x∈t.nodes.take q,x.right=true,⟨Mem.le_refl _,by simp⟩,?_,?_⟩
 ·obtain⟨z,_,rfl⟩:=List.mem_map.1 hy;exact Zp7 z
 ·rintro n0 n1 n2 n3 n4 n5 n6 a n7 c cs m4 q cM hq ⟨_,gq⟩ b4
  have hq':(List.map (λz:T=>[z.v]) t.nodes)[(q:Nat)]?=some [Value.agg #[.int .u8 n0,.int .u64 n1,.int .u64 n2,.int .u64 n3,.int .u64 n4,.int .i64 n5,.int .i64 n6,.slice a n7 c]]:=hq
  rw[List.getElem?_map]at hq'
  obtain⟨z,hz,gT⟩:=Option.map_eq_some_iff.1 hq'
  have jO:z.v=Value.agg #[.int .u8 n0,.int .u64 n1,.int .u64 n2,.int .u64 n3,.int .u64 n4,.int .i64 n5,.int .i64 n6,.slice a n7 c]:=by simpa using gT
  have qa:Rep m4 z:=(Zsj (hr.mono cA) (List.mem_of_getElem? hz)).mono cM
  have gK:=Zt6 z m4 qa
  rw[jO]at gK
  refine Zae gK λm5 eJ=>Zac (λh=>⟨rfl,Zaa (mLt cA (mLt cM eJ)) ?_⟩) (λh=>⟨rfl,mLt cM eJ,λx hx=>?_⟩)
  ·have kb:z.right=false:=by simpa using h
   have:t.nodes.all T.right=false:=by
    rw[List.all_eq_false];exact⟨z,List.mem_of_getElem? hz,by simp[kb]⟩
   simp[Ret,T.clean,this]
  ·rw[List.take_add_one,hz]at hx
   rcases List.mem_append.1 hx with hx|hx
   ·exact gq x hx
   ·simp at hx;rw[hx];simpa using h
 ·rintro cs m4 cM ⟨_,gq⟩
  refine Zaa (mLt cA cM) ?_
  rw[List.length_map,List.take_length]at gq
  have:t.nodes.all T.right=true:=List.all_eq_true.2 gq
  simp[Ret,T.clean,this,hl]
theorem Zrb(t:T)(m:Mem)(hr:Rep m t):CX Tryz.prog 32 #[t.v] m [] (Ret (.int .i64 t.size)):=by
 apply Zqn
 unfold Zme
 intro b m1 aU _
 refine Zae (Zff t m1 (hr.mono aU)) λm2 bG=>Zac (λh=>Zaa (mLt aU bG) ?_) (λh=>?_)
 ·have:t.light=false:=by simpa using h
  simp[Ret,T.size,this]
 have hl:t.light=true:=by simpa using h
 have rr:t.nodes.length<=10000:=of_decide_eq_true hl
 intro b2
 refine Zao (ZiU t m2) (λv m' css h=>by obtain⟨_,rfl,_⟩:=h;rfl) ?_
 rintro g fi ca m3 bX ⟨b3,hv,eX⟩
 obtain⟨rfl,rfl,rfl⟩:=Zcv hv
 have cA:=mLt aU (mLt bG bX)
 refine⟨_,Zf1 t m3 b3 eX (hr.mono cA),λy hy=>?_,λ_ css _ m' q=>css=[[.int .i64 q]]/\q<=t.nodes.length,⟨rfl,by omega⟩,?_,?_⟩
 ·obtain⟨z,_,rfl⟩:=List.mem_map.1 hy;exact Zp7 z
 ·rintro n0 n1 n2 n3 n4 n5 n6 a n7 c cs m4 q cM hq ⟨dN,_⟩
  obtain rfl:cs=[.int .i64 q]:=by simpa using dN
  have bF:q < t.nodes.length:=by
   have:=(List.getElem?_eq_some_iff.1 (show(List.map (λz:T=>[z.v]) t.nodes)[(q:Nat)]?=some _ from hq)).1
   simpa using this
  have hw:IntKind.i64.wrap (intOf (Value.int .i64 (q:Int))+1)=(q:Int)+1:=Zan (n:=(q:Int)+1) (by omega) (by omega)
  refine ZaK rfl (Zab rfl ?_)
  simp only[hw]
  exact⟨by trivial,by simp,by omega⟩
 ·rintro cs m4 cM ⟨dN,gq⟩
  obtain rfl:cs=[.int .i64 t.nodes.length]:=by simpa using dN
  refine ZaK rfl (Zaa (mLt cA cM) ?_)
  simp[Ret,T.size,hl]
theorem Zo3(t:T)(m:Mem)(hr:Rep m t):CX Tryz.prog 90 #[t.v] m [] (Ret (.int .i64 t.groups)):=by
 apply Zne
 unfold Zis
 intro b m1 aU _
 refine Zae (Zff t m1 (hr.mono aU)) λm2 bG=>Zac (λh=>Zaa (mLt aU bG) ?_) (λh=>?_)
 ·have:t.light=false:=by simpa using h
  simp[Ret,T.groups,this]
 have hl:t.light=true:=by simpa using h
 have rr:t.nodes.length<=10000:=of_decide_eq_true hl
 intro b2
 refine Zao (ZiU t m2) (λv m' css h=>by obtain⟨_,rfl,_⟩:=h;rfl) ?_
 rintro g fi ca m3 bX ⟨b3,hv,eX⟩
 obtain⟨rfl,rfl,rfl⟩:=Zcv hv
 have cA:=mLt aU (mLt bG bX)
 have fR:∀q,(t.nodes.take q).countP (λx=>x.k == 6)<=10000:=λq=>by
  have h1:=List.countP_le_length (p:=λx:T=>x.k == 6) (l:=t.nodes.take q)
  have h2:(t.nodes.take q).length<=t.nodes.length:=List.length_take_le' _ _
  omega
 refine⟨_,Zf1 t m3 b3 eX (hr.mono cA),λy hy=>?_,λ_ css _ m' q=>css=[[.int .i64 ((t.nodes.take q).countP λx=>x.k == 6:Nat)]]/\q<=t.nodes.length,⟨rfl,by omega⟩,?_,?_⟩
 ·obtain⟨z,_,rfl⟩:=List.mem_map.1 hy;exact Zp7 z
 ·rintro n0 n1 n2 n3 n4 n5 n6 a n7 c cs m4 q cM hq ⟨dN,_⟩ b4
  obtain rfl:cs=_:=by simpa using dN
  have hq':(List.map (λz:T=>[z.v]) t.nodes)[(q:Nat)]?=some [Value.agg #[.int .u8 n0,.int .u64 n1,.int .u64 n2,.int .u64 n3,.int .u64 n4,.int .i64 n5,.int .i64 n6,.slice a n7 c]]:=hq
  rw[List.getElem?_map]at hq'
  obtain⟨z,hz,gT⟩:=Option.map_eq_some_iff.1 hq'
  have hk:z.k=n0:=by
   have:z.v=Value.agg #[.int .u8 n0,.int .u64 n1,.int .u64 n2,.int .u64 n3,.int .u64 n4,.int .i64 n5,.int .i64 n6,.slice a n7 c]:=by simpa using gT
   simp[T.v]at this;exact this.1
  have bF:=(List.getElem?_eq_some_iff.1 hz).1
  have eS:(t.nodes.take (q+1)).countP (λx=>x.k == 6)=(t.nodes.take q).countP (λx=>x.k == 6)+(if z.k == 6 then 1 else 0):=by
   rw[List.take_add_one,hz,List.countP_append];simp[List.countP_cons]
  refine Zac (λh=>?_) (λh=>?_)
  ·have hw:IntKind.i64.wrap (intOf (Value.int .i64 ((t.nodes.take q).countP λx=>x.k == 6:Nat))+1)=(((t.nodes.take q).countP λx=>x.k == 6:Nat):Int)+1:=Zan (n:=(((t.nodes.take q).countP λx=>x.k == 6:Nat):Int)+1) (by have:=fR q;omega) (by have:=fR q;omega)
   refine ZaK rfl (Zab rfl ?_)
   simp only[hw]
   refine⟨by trivial,?_,by omega⟩
   rw[eS,hk]
   have:(n0 == 6)=true:=h
   simp[this]
  ·refine⟨rfl,?_,by omega⟩
   rw[eS,hk]
   have:(n0 == 6)=false:=h
   simp[this]
 ·rintro cs m4 cM ⟨dN,gq⟩
  obtain rfl:cs=_:=by simpa using dN
  refine ZaK rfl (Zaa (mLt cA cM) ?_)
  simp[Ret,T.groups,hl]
theorem Ziv(t:T)(m:Mem)(hr:Rep m t)(hl:t.nodes.length<=10000):CX Tryz.prog 110 #[t.v] m [] (Ret (.int .i64 t.pos)):=by
 apply Ziq
 unfold ZeR
 intro b m1 aU _
 have fV:=Zvq t
 have gF:=ZwB t
 refine Zac (λhk=>?_) (λhk=>?_)
 all_goals
  have hk':(if t.k=2 then(1:Int)else 0)=1/\t.k=2\/(if t.k=2 then(1:Int)else 0)=0/\t.k≠2:=by split <;> simp_all
  refine⟨λxs _ _ m'' q=>∃i:Nat,i<=t.subs.length/\xs=[.int .i64 ((if t.k=2 then 1 else 0)+Znq (t.subs.take i)),.int .i64 i]/\m1.le m''/\q=t.subs.length - i,⟨t.subs.length,0,by omega,by simp_all [Znq],Mem.le_refl _,by omega⟩,?_⟩
  rintro n n1 m2 q bG ⟨i,hi,eT,_,hq⟩
  have cP:=Zq6 (t.subs.take i)
  have fJ:=Ztl (t.subs.take i)
  have eX:(t.subs.take i).length<=i:=List.length_take_le _ _
  clear hk'
  generalize hc:(if t.k=2 then(1:Int)else 0)=c at *
  have oC:0<=c/\c<=1:=by rw[<-hc];split <;> omega
  simp only[List.cons.injEq,Value.int.injEq,true_and,and_true]at eT
  obtain⟨rfl,rfl⟩:=eT
  refine Zac (λbF=>?_) (λdC=>?_)
  ·have bQ:i < t.subs.length:=by simpa using bF
   obtain⟨x,hx⟩:∃x,t.subs[i]?=some x:=⟨_,List.getElem?_eq_getElem bQ⟩
   have cE:x∈t.subs:=List.mem_of_getElem? hx
   have cD:=Zsi cE
   have ud:=Zsl cE
   obtain⟨_,h0|⟨b1,o1,ha,fD⟩⟩:=Zgw hr
   ·rw[h0]at bQ;simp at bQ
   obtain⟨dX,eD⟩:=(fD.mono ((mLt aU bG))).get hx
   have rQ:=ZtZ x
   refine⟨b1,o1,ha,⟨by omega,by omega⟩,_,_,_,_,_,_,_,_,dX,λb2=>Zab rfl ?_⟩
   refine ZaD (Ziv x m2 eD (by omega)) λm3 bX=>⟨rfl,t.subs.length - (i+1),by omega,i+1,by omega,?_,mLt bG bX,rfl⟩
   rw[Zan (by omega) (by omega),Zan (by omega) (by omega),Zsk hx,Int.add_assoc]
   rfl
  ·have hi':i=t.subs.length:=by
    have:¬((i:Int) < (t.subs.length:Int)):=by simpa using dC
    omega
   subst hi'
   rw[List.take_length]at cP fJ ⊢
   have hF:=Ztk t.mn t.mx
   have s6:0<=(c+Znq t.subs)*Zv4 t.mn t.mx/\(c+Znq t.subs)*Zv4 t.mn t.mx<=100020001*10001:=by
    constructor
    ·exact Int.mul_nonneg (by omega) hF.1
    ·exact Int.mul_le_mul (by omega) hF.2 hF.1 (by omega)
   refine Zac (λh5=>Zac (λhx=>Zaa (mLt aU bG) ?_) (λhx=>Zaa (mLt aU bG) ?_)) (λh5=>Zaa (mLt aU bG) ?_)
   ·have e1:t.k=5:=by simpa using h5
    have e2:t.mx=-1:=by simpa using hx
    have hF':Zv4 t.mn t.mx=Zki (Zpr (Zpr t.mn 0) 1) 10001:=by simp[Zv4,e2]
    show Value.int .i64 (Zki (IntKind.i64.wrap ((c+Znq t.subs)*Zki (Zpr (Zpr t.mn 0) 1) 10001)) 10001)=Value.int .i64 t.pos
    rw[<-hF',Zan (by omega) (by omega),gF,Zwr,if_pos e1];rfl
   ·have e1:t.k=5:=by simpa using h5
    have e2:¬t.mx=-1:=by simpa using hx
    have hF':Zv4 t.mn t.mx=Zki (Zpr (Zpr t.mn 0) t.mx) 10001:=by simp[Zv4,e2]
    show Value.int .i64 (Zki (IntKind.i64.wrap ((c+Znq t.subs)*Zki (Zpr (Zpr t.mn 0) t.mx) 10001)) 10001)=Value.int .i64 t.pos
    rw[<-hF',Zan (by omega) (by omega),gF,Zwr,if_pos e1];rfl
   ·have e1:¬t.k=5:=by simpa using h5
    show Value.int .i64 (Zki (c+Znq t.subs) 10001)=Value.int .i64 t.pos
    rw[gF,Zwr,if_neg e1]
termination_by SizeOf.sizeOf t
decreasing_by all_goals exact cD
theorem Zng(t:T)(m:Mem)(hr:Rep m t):CX Tryz.prog 89 #[t.v] m [] (Ret (.int .i64 t.positions)):=by
 apply Zir
 unfold ZeS
 intro b m1 aU _
 refine Zae (Zff t m1 (hr.mono aU)) λm2 bG=>Zac (λh=>Zaa (mLt aU bG) ?_) (λh=>?_)
 ·have:t.light=false:=by simpa using h
  simp[Ret,T.positions,this]
 have hl:t.light=true:=by simpa using h
 refine ZaD (Ziv t m2 (hr.mono (mLt aU bG)) (of_decide_eq_true hl)) λm3 bX=>Zaa (mLt aU (mLt bG bX)) ?_
 simp[Ret,T.positions,hl]
def ZxL(bg en:Bool)(t:T):Value:=.agg #[.bool bg,.bool en,.int .u8 t.k,.int .u64 t.s0,.int .u64 t.s1,.int .u64 t.s2,.int .u64 t.s3,.int .i64 t.mn,.int .i64 t.mx,.slice t.a t.subs.length t.c]
theorem Zt8(bg en:Bool)(t:T)(m:Mem)(hr:Rep m t):CX Tryz.prog 63 #[ZxL bg en t] m [] (Ret (.int .i64 t.check)):=by
 apply Zo2
 unfold Zkd
 intro b m1 aU _
 refine Zae (Zt7 t m1 (hr.mono aU)) λm2 bG=>Zac (λh=>Zaa (mLt aU bG) ?_) (λh=>?_)
 ·have:t.clean=false:=by simpa using h
  simp[Ret,T.check,this]
 have lN:=mLt aU bG
 have h1:¬t.clean=false:=by simpa using h
 refine ZaD (Zrb t m2 (hr.mono lN)) λm3 bX=>Zac (λh=>Zaa (mLt lN bX) ?_) (λh=>?_)
 ·have h2:t.size > 120:=by simpa using h
  show Value.int .i64 81=Value.int .i64 t.check
  rw[T.check,if_neg h1,if_pos h2]
 have h2:¬t.size > 120:=by simpa using h
 have lO:=mLt lN bX
 refine ZaD (Zng t m3 (hr.mono lO)) λm4 cM=>Zac (λh=>Zaa (mLt lO cM) ?_) (λh=>?_)
 ·have h3:t.positions > 400:=by simpa using h
  show Value.int .i64 82=Value.int .i64 t.check
  rw[T.check,if_neg h1,if_neg h2,if_pos h3]
 have h3:¬t.positions > 400:=by simpa using h
 have lP:=mLt lO cM
 refine ZaD (Zo3 t m4 (hr.mono lP)) λm5 eJ=>Zac (λh=>Zaa (mLt lP eJ) ?_) (λh=>Zaa (mLt lP eJ) ?_)
 ·have h4:t.groups > 9:=by simpa using h
  show Value.int .i64 83=Value.int .i64 t.check
  rw[T.check,if_neg h1,if_neg h2,if_neg h3,if_pos h4]
 ·have h4:¬t.groups > 9:=by simpa using h
  show Value.int .i64 0=Value.int .i64 t.check
  rw[T.check,if_neg h1,if_neg h2,if_neg h3,if_neg h4]
theorem Znh(l l':List T)(a a':Option Addr)(c c':Nat)(m:Mem)(hl:l.length<=1000000000000000)(hr:l=[]\/∃b o,a=some ⟨b,o,none⟩/\RepAt m b o l)(hr':l'=[]\/∃b o,a'=some ⟨b,o,none⟩/\RepAt m b o l')
  (hp:∀x∈l,∀y∈l',∀m',m.le m'->Rep m' x->Rep m' y->CX Tryz.prog 108 #[x.v,y.v] m' [] (Ret (.bool (x.same y)))):
  CX Tryz.prog 120 #[.slice a l.length c,.slice a' l'.length c',.func (.func 108) #[] #[]] m [] (Ret (.bool (Zhj l l'))):=by
 apply ZaH a l.length c a' l'.length c' _ [] []
 unfold Zaq
 refine Zac (λh=>Zaa (Mem.le_refl _) ?_) (λh=>?_)
 ·have:¬l.length=l'.length:=by
   intro e;rw[e]at h;simp at h
  show Value.bool false=_
  rw[Zor this]
 have iI:l.length=l'.length:=by
  have h2:((l.length:Int) == (l'.length:Int))=true:=by simpa using h
  have:=of_decide_eq_true h2;omega
 refine⟨λxs _ _ m'' q=>∃i:Nat,i<=l.length/\xs=[.int .i64 i]/\Zhj (l.take i) (l'.take i)=true/\m.le m''/\q=l.length - i,⟨l.length,0,by omega,rfl,by simp[Zhj],Mem.le_refl _,by omega⟩,?_⟩
 rintro n m' q hm ⟨i,hi,hn,eG,cA,hq⟩
 obtain rfl:n=i:=by simpa using hn
 refine Zac (λbF=>?_) (λdC=>?_)
 ·have bQ:i < l.length:=by simpa using bF
  obtain⟨x,hx⟩:∃x,l[i]?=some x:=⟨_,List.getElem?_eq_getElem bQ⟩
  obtain⟨y,hy⟩:∃y,l'[i]?=some y:=⟨_,List.getElem?_eq_getElem (by omega)⟩
  have my:x∈l:=List.mem_of_getElem? hx
  have qb:y∈l':=List.mem_of_getElem? hy
  rcases hr with h0|⟨b1,o1,ha,fD⟩
  ·rw[h0]at bQ;simp at bQ
  rcases hr' with h0|⟨b2,o2,ha',lQ⟩
  ·rw[h0]at iI;simp at iI;rw[iI]at bQ;simp at bQ
  obtain⟨dX,eD⟩:=(fD.mono hm).get hx
  obtain⟨js,jP⟩:=(lQ.mono hm).get hy
  refine⟨b1,o1,ha,⟨by omega,by omega⟩,_,_,_,_,_,_,_,_,dX,λb3=>Zab rfl ⟨b2,o2,ha',⟨by omega,by omega⟩,_,_,_,_,_,_,_,_,js,λb4=>Zab rfl ?_⟩⟩
  refine Zae (hp x my y qb m' hm eD jP) λm1 aU=>Zac (λeI=>?_) (λeI=>?_)
  ·have hf:x.same y=false:=by simpa using eI
   refine Zaa (mLt hm aU) ?_
   show Value.bool false=_
   rw[Zq4 hx hy hf]
  ·have hf:x.same y=true:=by simpa using eI
   refine⟨l.length - (i+1),by omega,i+1,by omega,by rw[Zan (by omega) (by omega)];rfl,Zl6 hx hy eG hf trivial,mLt hm aU,rfl⟩
 ·have hi':i=l.length:=by
   have:¬((i:Int) < (l.length:Int)):=by simpa using dC
   omega
  subst hi'
  refine Zaa hm ?_
  rw[List.take_length,iI,List.take_length]at eG
  show Value.bool true=_
  rw[eG]
theorem Ztu(t u:T)(m:Mem)(hr:Rep m t)(hu:Rep m u):CX Tryz.prog 108 #[t.v,u.v] m [] (Ret (.bool (t.same u))):=by
 apply Zqp
 unfold Zmf
 intro b m1 aU _ b' m2 bG _
 have hm:=mLt aU bG
 refine⟨t.same u,?_,Zaa hm rfl⟩
 rw[Zvo]
 refine Zac (λh1=>⟨_,Zt5 _ _ _ _ _ _ _ _,Zac (λh2=>Zac (λh3=>Zac (λh4=>?_) (λh4=>⟨rfl,Zag ?_⟩)) (λh3=>⟨rfl,Zag ?_⟩)) (λh2=>⟨rfl,Zag ?_⟩)⟩) (λh1=>⟨rfl,Zag ?_⟩)
 ·have hr':=Zgw (hr.mono hm)
  have hu':=Zgw (hu.mono hm)
  refine Zae (Znh t.subs u.subs t.a u.a t.c u.c m2 hr'.1 hr'.2 hu'.2 λx hx y hy m' _ dX js=>?_) λm3 bX=>⟨rfl,Zag ?_⟩
  ·have cD:=Zsi hx
   exact Ztu x y m' dX js
  ·rw[h1,h2,h3,h4];rfl
 ·rw[h1,h2,h3,h4];rfl
 ·rw[h1,h2,h3];rfl
 ·rw[h1,h2];rfl
 ·rw[h1];rfl
termination_by SizeOf.sizeOf t
decreasing_by exact cD
theorem ZvB(t u:T)(m:Mem)(hr:Rep m t)(hu:Rep m u):CX Tryz.prog 87 #[t.v,u.v] m [] (Ret (.bool (t.light&&(u.light&&t.same u)))):=by
 apply Zqq
 unfold Zmg
 intro b m1 aU _ b' m2 bG _
 have hm:=mLt aU bG
 refine⟨t.light&&(u.light&&t.same u),?_,Zaa hm rfl⟩
 refine Zae (Zff t m2 (hr.mono hm)) λm3 bX=>Zac (λh1=>?_) (λh1=>⟨rfl,Zag ?_⟩)
 ·refine Zae (Zff u m3 (hu.mono (mLt hm bX))) λm4 cM=>Zac (λh2=>?_) (λh2=>?_)
  ·have eJ:=mLt (mLt hm bX) cM
   refine Zae (Ztu t u m4 (hr.mono eJ) (hu.mono eJ)) λm6 iv=>⟨rfl,Zag ?_⟩
   rw[h1,h2];rfl
  ·refine⟨rfl,Zag ?_⟩
   rw[h1,h2];rfl
 ·rw[h1];rfl
end Go.Proofs.YtiadlgdcbpnmkaaGreatDoor
namespace Go.Proofs.YtiadlgdcbpnmkaaGreatDoor
open Go Go.Eng Go.Rx Go.Proofs Go.RowKit
theorem ZnB{b:Bool}{p q:Prop}(h:b=true)(k:p):br b p q:=by subst h;exact k
theorem ZfC{b:Bool}{p q:Prop}(h:b=false)(k:q):br b p q:=by subst h;exact k
theorem ZvC{m:Mem}{a:Option Addr}{ts:List T}(h:rowRd m a (Rx.ZfE ts)){i:Nat}{t:T}(hi:ts[i]?=some t):∃b o,a=some ⟨b,o,none⟩/\m.reads b (o+i*8) t.cs:=by
 rcases h with h|⟨b,o,ha,h⟩
 ·have hl:(Rx.ZfE ts).length=0:=by rw[h];rfl
  rw[ZiT]at hl
  have:=(List.getElem?_eq_some_iff.1 hi).1
  omega
 ·refine⟨b,o,ha,λj v hj=>?_⟩
  rw[Nat.add_assoc]
  refine h (i*8+j) v ?_
  have e:ts=ts.take i++(t::ts.drop (i+1)):=by
   have bF:=(List.getElem?_eq_some_iff.1 hi).1
   have h2:=List.drop_eq_getElem_cons bF
   rw[(List.getElem?_eq_some_iff.1 hi).2]at h2
   rw[<-h2,List.take_append_drop]
  have bF:=(List.getElem?_eq_some_iff.1 hi).1
  have p8:=(List.getElem?_eq_some_iff.1 hj).1
  rw[e,ZkU,List.getElem?_append_right (by rw[ZiT,List.length_take,Nat.min_eq_left (by omega)];omega),ZiT,List.length_take,Nat.min_eq_left (by omega),show i*8+j - i*8=j by omega]
  have e2:Rx.ZfE (t::ts.drop (i+1))=t.cs++Rx.ZfE (ts.drop (i+1)):=by simp[Rx.ZfE]
  rw[e2,List.getElem?_append_left p8];exact hj
def Apart(mb:Mem)(a:Option Addr):Prop:=a=none\/∃b,a=some ⟨b,0,none⟩/\mb.free b
theorem Apart.tok{mb M:Mem}{a a':Option Addr}{n c:Nat}(h:Apart mb a)(hm:mb.le M)(ht:TokFact M a a' n c):Apart mb a':=by
 rcases ht.2 with h1|⟨b,o,h1,h2⟩
 ·exact .inl h1
 rcases h2 with h2|⟨h3,h2⟩
 ·rw[<-h2];exact h
 ·subst h3
  refine .inr ⟨b,h1,λo=>?_⟩
  cases hb:mb b o with
  | none=>rfl
  | some v=>have:=hm _ _ _ hb;rw[h2.1 o]at this;cases this
theorem Apart.base{mb m:Mem}{a:Option Addr}{ts:List T}(h:Apart mb a)(dA:rowRd m a (Rx.ZfE ts))(hn:ts≠[]):∃b,a=some ⟨b,0,none⟩/\mb.free b/\∃o u,m b o=some u:=by
 obtain⟨t,r,rfl⟩:∃t r,ts=t::r:=by cases ts with
  | nil=>exact absurd rfl hn
  | cons t r=>exact⟨t,r,rfl⟩
 obtain⟨b',o,ha,fA⟩:=ZvC dA (i:=0) (t:=t) rfl
 rcases h with h|⟨b,hb,hf⟩
 ·rw[h]at ha;cases ha
 ·rw[hb]at ha;cases ha
  exact⟨b',hb,hf,_,_,fA 0 (.int .u8 t.k) rfl⟩
end Go.Proofs.YtiadlgdcbpnmkaaGreatDoor
namespace Go.Proofs.YtiadlgdcbpnmkaaGreatDoor
open Go Go.Eng Go.Rx Go.Proofs Go.RowKit
set_option maxRecDepth 100000
theorem Zf2(t:E)(m:Mem):CX Tryz.prog 80 #[t.v] m [] (λv m' _=>∃b,v=.func (.func 99) #[] #[.pointer (some ⟨b,0,none⟩)]/\m'.reads b 0 t.cs):=by
 apply Zlj
 unfold ZgN
 intro b m' hm hb
 exact⟨m',hm,Mem.le_refl _,b,rfl,hb⟩
theorem Zeg(t:E)(m:Mem)(c0b:Nat)(fA:m.reads c0b 0 t.cs)(jM:RepE m t):IX Tryz.prog 99 [] [.pointer (some ⟨c0b,0,none⟩)] m (t.nodes.map λx=>[x.v]):=by
 apply Zif 0 [] [] c0b 0
 unfold ZeN
 intro l b m' hm hb
 have jN:=fA.mono hm
 refine⟨_,_,_,_,_,jN,⟨rfl,by omega,?_⟩,?_,.inr rfl⟩
 ·rw[ZhK];rfl
 refine⟨t.sl,jN 4 _ rfl,Zab rfl ?_⟩
 refine⟨λxs _ _ m'' q=>∃i:Nat,i<=t.subs.length/\xs=[.int .i64 ((1+(ZaO (t.subs.take i)).length:Nat):Int),.int .i64 i]/\m'.le m''/\q=t.subs.length - i,⟨t.subs.length,0,by omega,?_,Mem.le_refl _,by omega⟩,?_⟩
 ·simp[ZaO]
 rintro y n m2 q bG ⟨i,hi,eT,ii,hq⟩
 simp only[List.cons.injEq,Value.int.injEq,true_and,and_true]at eT
 obtain⟨rfl,rfl⟩:=eT
 have bL:slN t.sl=t.subs.length:=rfl
 rw[bL]
 refine Zac (λbF=>?_) (λdC=>?_)
 ·have bQ:i < t.subs.length:=by simpa using bF
  obtain⟨x,hx⟩:∃x,t.subs[i]?=some x:=⟨_,List.getElem?_eq_getElem bQ⟩
  have cE:x∈t.subs:=List.mem_of_getElem? hx
  have cD:=Zou cE
  obtain⟨p9,h0|⟨b1,o1,ha,fD⟩⟩:=Zgy jM
  ·rw[h0]at bQ;simp at bQ
  obtain⟨dX,eD⟩:=(fD.mono' ((mLt hm ii))).get hx
  refine Zab rfl ⟨b1,o1,ha,⟨by omega,by omega⟩,_,_,_,_,_,dX,λb2=>Zab rfl ?_⟩
  refine⟨_,trivial,Zf2 x m2,λv m' css h=>?_,?_⟩
  ·obtain⟨b3,rfl,_⟩:=h;rfl
  rintro g fi ca m3 bX ⟨b3,hv,eX⟩
  obtain⟨rfl,rfl,rfl⟩:=Zcv hv
  refine⟨_,Zeg x m3 b3 eX (RepE.mono' eD bX),λy hy=>?_,?_⟩
  ·obtain⟨z,_,rfl⟩:=List.mem_map.1 hy;exact Zl7 z
  refine⟨λxs _ _ m'' q=>q<=x.nodes.length/\xs=[.int .i64 ((1+(ZaO (t.subs.take i)).length+q:Nat):Int)]/\m3.le m'',⟨Nat.zero_le _,rfl,Mem.le_refl _⟩,?_,?_⟩
  ·rintro y n0 v0 s0 n3 a n7 c m4 q cM hq ⟨gq,hy,_⟩ b4
   simp only[List.cons.injEq,Value.int.injEq,true_and,and_true]at hy
   subst hy
   have hq':(List.map (λz:E=>[z.v]) x.nodes)[(q:Nat)]?=some [Value.agg #[.int .u8 n0,v0,.string s0,.int .i64 n3,.slice a n7 c]]:=hq
   rw[List.getElem?_map]at hq'
   obtain⟨z,hz,gT⟩:=Option.map_eq_some_iff.1 hq'
   have oK:q < x.nodes.length:=(List.getElem?_eq_some_iff.1 hz).1
   simp only[E.v,List.cons.injEq,Value.agg.injEq,Array.mk.injEq,Value.int.injEq,Value.string.injEq,Value.slice.injEq,true_and,and_true]at gT
   obtain⟨rfl,rfl,rfl,rfl,rfl,rfl,rfl⟩:=gT
   refine Zab rfl ⟨⟨rfl,by omega,?_⟩,⟨rfl,by omega,?_,cM⟩,rfl,.inr rfl⟩
   ·rw[Int.toNat_natCast]
    show(t.nodes.map λx=>[x.v])[1+(ZaO (t.subs.take i)).length+q]?=_
    rw[List.getElem?_map,Zsm hx hz];rfl
   ·congr 2
  ·rintro y m4 cM ⟨gq,hy,_⟩
   simp only[List.cons.injEq,Value.int.injEq,true_and,and_true]at hy
   subst hy
   refine⟨rfl,t.subs.length - (i+1),by omega,i+1,by omega,?_,mLt ii (mLt bX cM),rfl⟩
   rw[Zan (by omega) (by omega),ZhL hx,List.length_append]
   simp[E.v,Nat.add_assoc]
 ·have hi':i=t.subs.length:=by
   have:¬((i:Int) < (t.subs.length:Int)):=by simpa using dC
   omega
  subst hi'
  left
  rw[List.take_length,ZhK]
  simp
  omega
termination_by SizeOf.sizeOf t
decreasing_by exact cD
theorem ZdI(t:E)(m:Mem)(hr:RepE m t):CX Tryz.prog 45 #[t.v] m [] (Ret (.bool t.light)):=by
 apply Zlk
 unfold ZgO
 intro b m1 aU _ b2
 refine Zao (Zf2 t m1) (λv m' css h=>by obtain⟨_,rfl,_⟩:=h;rfl) ?_
 rintro g fi ca m2 bG ⟨b3,hv,eX⟩
 obtain⟨rfl,rfl,rfl⟩:=Zcv hv
 have cA:=mLt aU bG
 refine⟨_,Zeg t m2 b3 eX (RepE.mono' hr cA),λy hy=>?_,λ_ css _ m' q=>css=[[.int .i64 q]]/\q<=10000/\q<=t.nodes.length,⟨rfl,by omega,by omega⟩,?_,?_⟩
 ·obtain⟨z,_,rfl⟩:=List.mem_map.1 hy;exact Zl7 z
 ·rintro n0 v0 s0 n3 a n7 c cs m3 q bX hq ⟨dN,gq,_⟩
  obtain rfl:cs=[.int .i64 q]:=by simpa using dN
  have bF:q < t.nodes.length:=by
   have:=(List.getElem?_eq_some_iff.1 (show(List.map (λz:E=>[z.v]) t.nodes)[(q:Nat)]?=some _ from hq)).1
   simpa using this
  refine ZaK rfl (Zab rfl ?_)
  have hw:IntKind.i64.wrap (intOf (Value.int .i64 (q:Int))+1)=(q:Int)+1:=Zan (n:=(q:Int)+1) (by omega) (by omega)
  simp only[hw]
  refine Zac (λh=>⟨by trivial,Zaa (mLt cA bX) ?_⟩) (λh=>⟨by trivial,?_,?_,by omega⟩)
  ·have:((q:Int)+1 > 10000):=by simpa using h
   simp[Ret,E.light];omega
  ·simp
  ·have:¬((q:Int)+1 > 10000):=by simpa using h
   omega
 ·rintro cs m3 bX ⟨dN,gq,_⟩
  obtain rfl:cs=[.int .i64 t.nodes.length]:=by simpa using dN
  refine ZaK rfl (Zab rfl (Zaa (mLt cA bX) ?_))
  show Value.bool (decide ((t.nodes.length:Int)<=10000))=Value.bool t.light
  congr 1
  rw[E.light,decide_eq_decide];omega
theorem Zt9(t:E)(m:Mem)(hr:RepE m t):CX Tryz.prog 46 #[t.v] m [] (Ret (.int .i64 t.size)):=by
 apply Zm3
 unfold Zig
 intro b m1 aU _ b2
 refine Zae (ZdI t m1 (RepE.mono' hr aU)) λm2 bG=>Zac (λhl=>?_) (λh=>Zaa (mLt aU bG) (by simp[Ret,E.size,h]))
 have rr:t.nodes.length<=10000:=of_decide_eq_true hl
 refine Zao (Zf2 t m2) (λv m' css h=>by obtain⟨_,rfl,_⟩:=h;rfl) ?_
 rintro g fi ca m3 bX ⟨b3,hv,eX⟩
 obtain⟨rfl,rfl,rfl⟩:=Zcv hv
 have cA:=mLt aU (mLt bG bX)
 refine⟨_,Zeg t m3 b3 eX (RepE.mono' hr cA),λy hy=>?_,λ_ css _ m' q=>css=[[.int .i64 q]]/\q<=t.nodes.length,⟨rfl,by omega⟩,?_,?_⟩
 ·obtain⟨z,_,rfl⟩:=List.mem_map.1 hy;exact Zl7 z
 ·rintro n0 v0 s0 n3 a n7 c cs m4 q cM hq ⟨dN,_⟩
  obtain rfl:cs=[.int .i64 q]:=by simpa using dN
  have bF:q < t.nodes.length:=by
   have:=(List.getElem?_eq_some_iff.1 (show(List.map (λz:E=>[z.v]) t.nodes)[(q:Nat)]?=some _ from hq)).1
   simpa using this
  have hw:IntKind.i64.wrap (intOf (Value.int .i64 (q:Int))+1)=(q:Int)+1:=Zan (n:=(q:Int)+1) (by omega) (by omega)
  refine ZaK rfl (Zab rfl ?_)
  simp only[hw]
  exact⟨by trivial,by simp,by omega⟩
 ·rintro cs m4 cM ⟨dN,gq⟩
  obtain rfl:cs=[.int .i64 t.nodes.length]:=by simpa using dN
  refine ZaK rfl (Zaa (mLt cA cM) ?_)
  simp[Ret,E.size,hl]
theorem ZwM(T:TypeId)(x y:Nat):BinIs Tryz.prog .eql T (.float .f64 x) (.float .f64 y) (.bool (Op.floatEq .f64 x y)):=λox oy w=>by
 simp[eqGuard,binOp,Op.floatCmp,Op.floatEq]
theorem ZwN(T:TypeId)(x y:Nat):BinIs Tryz.prog .neq T (.float .f64 x) (.float .f64 y) (.bool (!Op.floatEq .f64 x y)):=λox oy w=>by
 simp[eqGuard,binOp,Op.floatCmp,Op.floatEq,bne]
theorem Zo4(x:Nat):ZqH Tryz.prog 84 [.float .f64 x] (.int .u64 x):=λw=>by
 rw[run_callFunc_extern Tryz.func84 (by kernel_rfl) (by kernel_rfl) (by kernel_rfl) (e:=Go.Extern.MathFloatBits.float64bits) (by kernel_rfl)]
 rfl
theorem ZvD(n:Nat):ZqH Tryz.prog 136 [.int .u64 n] (.float .f64 n):=λw=>by
 rw[run_callFunc_extern Tryz.func136 (by kernel_rfl) (by kernel_rfl) (by kernel_rfl) (e:=Go.Extern.MathFloatBits.float64frombits) (by kernel_rfl)]
 rfl
theorem ZwO(m:Mem):CX Tryz.prog 130 #[] m [] (Ret (.float .f64 Zxa)):=by
 apply Zll
 unfold ZgP
 exact⟨_,ZvD Zxa,Zaa (Mem.le_refl _) rfl⟩
theorem Zrc(x:Nat)(m:Mem):CX Tryz.prog 123 #[.float .f64 x] m [] (Ret (.float .f64 (Zg0 x))):=by
 apply Zih
 unfold ZeO
 refine⟨_,ZwN _ x x,Zac (λh=>?_) (λh=>Zaa (Mem.le_refl _) ?_)⟩
 ·refine Zao (ZwO m) (s:=.any) (λ_ _ _ _=>rfl) ?_
  intro v m1 aU hv
  have h':Op.floatEq .f64 x x=false:=by simpa using h
  refine Zaa aU ?_
  show v=_
  rw[show v=_ from hv];unfold Zg0;rw[h'];rfl
 ·have h':Op.floatEq .f64 x x=true:=by simpa using h
  show Value.float .f64 x=_
  unfold Zg0;rw[h'];rfl
theorem Zo5(x:Nat)(m:Mem):CX Tryz.prog 83 #[.float .f64 x] m [] (Ret (.bool (Zow x))):=by
 apply Zii
 unfold ZeP
 refine⟨Zow x,⟨_,ZwM _ x x,Zac (λh=>?_) (λh=>⟨_,Zo4 x,Zab rfl ?_⟩)⟩,Zaa (Mem.le_refl _) rfl⟩
 ·unfold Zow;rw[h];rfl
 ·unfold Zow;rw[h,Bool.false_or]
  exact Zag (show decide ((x:Int)=9221120237041090561)=decide (x=Zxa) from decide_eq_decide.2 (by unfold Zxa;omega))
theorem Zrd(x y:Nat)(m:Mem):CX Tryz.prog 111 #[.float .f64 x,.float .f64 y] m [] (Ret (.bool (Zto x y))):=by
 apply ZjC
 unfold ZfA
 refine Zao (Zrc x m) (s:=.any) (λ_ _ _ _=>rfl) ?_
 intro v m1 aU hv
 refine⟨.int .u64 (Zg0 x),by rw[show v=_ from hv];exact Zo4 _,?_⟩
 refine Zao (Zrc y m1) (s:=.any) (λ_ _ _ _=>rfl) ?_
 intro u m2 bG hu
 refine⟨.int .u64 (Zg0 y),by rw[show u=_ from hu];exact Zo4 _,Zab rfl (Zaa (mLt aU bG) ?_)⟩
 show Value.bool _=_
 congr 1
 exact show decide ((Zg0 x:Int)=Zg0 y)=decide (Zg0 x=Zg0 y) from decide_eq_decide.2 (by omega)
def ZgT(l:List ByteArray):List Value:=l.map λs=>.string s
theorem Zre{m:Mem}{a:Option Addr}{l:List ByteArray}(h:rowRd m a (ZgT l)){k:Nat}{s:ByteArray}(hk:l[k]?=some s):∃b o,a=some ⟨b,o,none⟩/\m b (o+k*1)=some (.string s):=by
 rcases h with h|⟨b,o,ha,h⟩
 ·have:l=[]:=by simpa[ZgT]using h
  rw[this]at hk;simp at hk
 ·exact⟨b,o,ha,by rw[Nat.mul_one];exact h k _ (by rw[ZgT,List.getElem?_map,hk];rfl)⟩
theorem Zsw(l:List ByteArray)(a:Option Addr)(c:Nat)(s:ByteArray)(m:Mem)(hl:l.length<=1000000000000000)(hr:rowRd m a (ZgT l)):
  CX Tryz.prog 100 #[.slice a l.length c,.string s] m [] (Ret (.int .i64 (if l.any (λy=>eqS s y)then(l.findIdx (λy=>eqS s y):Nat)else(-1:Int)))):=by
 apply Zb7
 unfold Zbi
 refine⟨λxs _ _ m'' q=>∃i:Nat,i<=l.length/\xs=[.int .i64 i]/\(∀x∈l.take i,eqS s x=false)/\q=l.length - i,⟨l.length,0,by omega,rfl,by simp,by omega⟩,?_⟩
 rintro n m' q hm ⟨i,hi,hn,fC,hq⟩
 obtain rfl:n=i:=by simpa using hn
 refine Zac (λbF=>?_) (λdC=>?_)
 ·have bQ:i < l.length:=by simpa using bF
  obtain⟨x,hx⟩:∃x,l[i]?=some x:=⟨_,List.getElem?_eq_getElem bQ⟩
  have cE:x∈l:=List.mem_of_getElem? hx
  obtain⟨b1,o1,ha,dO⟩:=Zre (hr.mono hm) hx
  refine⟨b1,o1,ha,⟨by omega,by omega⟩,_,dO,Zab rfl (Zac (λeI=>?_) (λeI=>?_))⟩
  ·refine Zaa hm ?_
   have dV:l.any (λy=>eqS s y)=true:=List.any_eq_true.2 ⟨x,cE,eI⟩
   have eR:l.findIdx (λy=>eqS s y)=i:=by
    rw[List.findIdx_eq bQ]
    refine⟨by rw[(List.getElem?_eq_some_iff.1 hx).2];exact eI,λj hj=>?_⟩
    exact fC _ (List.mem_of_getElem? (i:=j) (by rw[List.getElem?_take_of_lt hj];exact List.getElem?_eq_getElem (by omega)))
   simp[Ret,dV,eR]
  ·refine⟨l.length - (i+1),by omega,i+1,by omega,by rw[Zan (by omega) (by omega)];rfl,?_,rfl⟩
   intro y hy
   rw[List.take_add_one,hx]at hy
   rcases List.mem_append.1 hy with hy|hy
   ·exact fC y hy
   ·simp at hy;rw[hy];exact eI
 ·have hi':i=l.length:=by
   have:¬((i:Int) < (l.length:Int)):=by simpa using dC
   omega
  subst hi'
  refine Zaa hm ?_
  have dV:l.any (λy=>eqS s y)=false:=by
   rw[List.any_eq_false]
   rw[List.take_length]at fC
   exact λx hx=>by simp[fC x hx]
  simp[Ret,dV]
theorem Ziw(l:List ByteArray)(a:Option Addr)(c:Nat)(s:ByteArray)(m:Mem)(hl:l.length<=1000000000000000)(hr:rowRd m a (ZgT l)):
  CX Tryz.prog 81 #[.slice a l.length c,.string s] m [] (Ret (.bool (l.any λy=>eqS s y))):=by
 apply ZbL
 unfold Za4
 refine ZaD (Zsw l a c s m hl hr) λm' hm=>Zaa hm ?_
 cases h:l.any (λy=>eqS s y) <;> simp[Ret]
theorem Zlr(l:List ByteArray)(a:Option Addr)(c:Nat)(g:Nat)(ca:List Value)(p:ByteArray->Bool)(m:Mem)(hl:l.length<=1000000000000000)(hr:rowRd m a (ZgT l))
  (hp:∀x∈l,∀m',m.le m'->CX Tryz.prog g (.string x::ca).toArray m' [] (Ret (.bool (p x)))):
  CX Tryz.prog 114 #[.slice a l.length c,.func (.func g) #[] ca.toArray] m [] (Ret (.int .i64 (if l.any p then(l.findIdx p:Nat)else(-1:Int)))):=by
 apply ZbF a l.length c g [] ca
 unfold Za1
 refine⟨λxs _ _ m'' q=>∃i:Nat,i<=l.length/\xs=[.int .i64 i]/\(∀x∈l.take i,p x=false)/\q=l.length - i,⟨l.length,0,by omega,rfl,by simp,by omega⟩,?_⟩
 rintro n m' q hm ⟨i,hi,hn,fC,hq⟩
 obtain rfl:n=i:=by simpa using hn
 refine Zac (λbF=>?_) (λdC=>?_)
 ·have bQ:i < l.length:=by simpa using bF
  obtain⟨x,hx⟩:∃x,l[i]?=some x:=⟨_,List.getElem?_eq_getElem bQ⟩
  have cE:x∈l:=List.mem_of_getElem? hx
  obtain⟨b1,o1,ha,dO⟩:=Zre (hr.mono hm) hx
  refine⟨b1,o1,ha,⟨by omega,by omega⟩,_,dO,Zae (hp x cE m' hm) λm1 aU=>Zac (λeI=>?_) (λeI=>?_)⟩
  ·refine Zaa (mLt hm aU) ?_
   have dV:l.any p=true:=List.any_eq_true.2 ⟨x,cE,eI⟩
   have eR:l.findIdx p=i:=by
    rw[List.findIdx_eq bQ]
    refine⟨by rw[(List.getElem?_eq_some_iff.1 hx).2];exact eI,λj hj=>?_⟩
    exact fC _ (List.mem_of_getElem? (i:=j) (by rw[List.getElem?_take_of_lt hj];exact List.getElem?_eq_getElem (by omega)))
   simp[Ret,dV,eR]
  ·refine⟨l.length - (i+1),by omega,i+1,by omega,by rw[Zan (by omega) (by omega)];rfl,?_,rfl⟩
   intro y hy
   rw[List.take_add_one,hx]at hy
   rcases List.mem_append.1 hy with hy|hy
   ·exact fC y hy
   ·simp at hy;rw[hy];exact eI
 ·have hi':i=l.length:=by
   have:¬((i:Int) < (l.length:Int)):=by simpa using dC
   omega
  subst hi'
  refine Zaa hm ?_
  have dV:l.any p=false:=by
   rw[List.any_eq_false]
   rw[List.take_length]at fC
   exact λx hx=>by simp[fC x hx]
  simp[Ret,dV]
theorem Zhg(l:List ByteArray)(a:Option Addr)(c:Nat)(g:Nat)(ca:List Value)(p:ByteArray->Bool)(m:Mem)(hl:l.length<=1000000000000000)(hr:rowRd m a (ZgT l))
  (hp:∀x∈l,∀m',m.le m'->CX Tryz.prog g (.string x::ca).toArray m' [] (Ret (.bool (p x)))):
  CX Tryz.prog 95 #[.slice a l.length c,.func (.func g) #[] ca.toArray] m [] (Ret (.bool (l.any p))):=by
 apply Zbq a l.length c g [] ca
 unfold ZaT
 refine ZaD (Zlr l a c g ca p m hl hr hp) λm' hm=>Zaa hm ?_
 cases h:l.any p <;> simp[Ret]
def Zsx(l:List UInt8):List Value:=(List.range 256).map λi=>.bool (l.any λc=>c.toNat == i)
theorem ZiV(l:List UInt8):(Zsx l).length=256:=by rw[Zsx,List.length_map,List.length_range]
theorem ZgU(l:List UInt8){i:Nat}(h:i < 256):(Zsx l)[i]?=some (.bool (l.any λc=>c.toNat == i)):=by
 rw[Zsx,List.getElem?_map,List.getElem?_range h];rfl
theorem Zo6(l:List UInt8):Zhh (Zsx l)=true:=by
 have:∀L:List Nat,Zhh (L.map λi=>Value.bool (l.any λc=>c.toNat == i))=true:=λL=>by
  induction L with
  | nil=>rfl
  | cons x L ih=>rw[List.map_cons];simp only[Zhh,ih];rfl
 exact this _
theorem Zsy(l:List UInt8)(c:UInt8):ZaZ (Zsx l) (0+c.toNat*1) [.bool true]=Zsx (l++[c]):=by
 have hc:c.toNat < 256:=c.toNat_lt
 apply List.ext_getElem?
 intro i
 have hl:=ZiV l
 unfold ZaZ
 rw[Nat.zero_add,Nat.mul_one,List.append_assoc]
 rcases Nat.lt_trichotomy i c.toNat with h|h|h
 ·rw[List.getElem?_append_left (by rw[List.length_take];omega),List.getElem?_take_of_lt h,ZgU l (by omega),ZgU _ (by omega),List.any_append]
  have:(c.toNat == i)=false:=by simp;omega
  simp[this]
 ·subst h
  have e:(List.take c.toNat (Zsx l)).length=c.toNat:=by rw[List.length_take];omega
  rw[List.getElem?_append_right (by omega),e,Nat.sub_self,ZgU _ hc,List.any_append]
  simp
 ·have e:(List.take c.toNat (Zsx l)).length=c.toNat:=by rw[List.length_take];omega
  rw[List.getElem?_append_right (by omega),e,List.getElem?_append_right (by simp;omega),List.getElem?_drop]
  rw[show c.toNat + [Value.bool true].length+(i - c.toNat - [Value.bool true].length)=i by simp;omega]
  rcases Nat.lt_or_ge i 256 with h2|h2
  ·rw[ZgU l h2,ZgU _ h2,List.any_append]
   have:(c.toNat == i)=false:=by simp;omega
   simp[this]
  ·rw[List.getElem?_eq_none (by omega),List.getElem?_eq_none (by rw[ZiV];exact h2)]
theorem Zix{s:ByteArray}{n:Nat}{c:UInt8}(h:s.data.toList[n]?=some c):ZfD s n=(c.toNat:Int):=by
 unfold ZfD
 rw[List.getD_eq_getElem?_getD,h];rfl
theorem Zb8{α:Type}{l:List α}{n:Nat}(h:n < l.length):∃c,l[n]?=some c:=⟨_,List.getElem?_eq_getElem h⟩
theorem Zua(s:ByteArray)(hs:s.size<=1000000000000000)(h:∀c∈s.data.toList,c.toNat < 128)(m:Mem):CX Tryz.prog 103 #[.string s] m [] (Ret (.tuple #[.agg (Zsx s.data.toList).toArray,.bool true])):=by
 apply Zde
 unfold Zb3
 intro b
 have hl:=Zd3 s
 refine⟨λxs css _ m' q=>∃k:Nat,k<=s.size/\xs=[.int .i64 k]/\css=[Zsx (s.data.toList.take k)]/\q=s.size - k,⟨_,0,by omega,rfl,by rw[List.take_zero];rfl,rfl⟩,?_⟩
 rintro n cs m1 q aU ⟨k,hk,hx,dN,hq⟩
 obtain rfl:n=k:=by simpa using hx
 obtain rfl:cs=Zsx (s.data.toList.take k):=by simpa using dN
 subst hq
 refine Zac (λbF=>?_) (λdC=>?_)
 ·have bQ:k < s.size:=by have:=of_decide_eq_true bF;omega
  obtain⟨c,hc⟩:=Zb8 (l:=s.data.toList) (n:=k) (by omega)
  have s7:=h c (List.mem_of_getElem? hc)
  have hw:IntKind.i64.wrap ((k:Int)+1)=((k+1:Nat):Int):=by rw[Zan (by omega) (by omega)];rfl
  simp only[hw,Int.toNat_natCast,Zix hc]
  refine⟨⟨by omega,by omega⟩,Zac (λh=>absurd (of_decide_eq_true h) (by omega)) (λ_=>⟨⟨by omega,by omega⟩,Zab (by rw[Nat.ble_eq,ZiV];omega) ⟨by trivial,s.size - (k+1),by omega,k+1,by omega,rfl,?_,rfl⟩⟩)⟩
  rw[Zsy,List.take_add_one,hc];rfl
 ·have hk':k=s.size:=by have:=of_decide_eq_false dC;omega
  subst hk'
  rw[<-hl,List.take_length]
  exact Zab (by rw[ZiV,Zo6];rfl) (Zaa aU rfl)
def Zxe(p:UInt8->Bool)(s:ByteArray):Value->Mem->List (List Value)->Prop:=λv _ _=>∃z:ByteArray,v=.string z/\z.size<=s.size/\s.data.toList.all p=z.data.toList.all p/\(z.size=0\/z.data.toList.all p=false)
theorem Zke(l:List UInt8)(c:UInt8)(b:Nat)(m:Mem)(hb:m.reads b 0 (Zsx l)):CX Tryz.prog 116 #[.pointer (some ⟨b,0,none⟩),.int .u8 c.toNat] m [] (Ret (.bool (l.any λx=>x.toNat == c.toNat))):=by
 apply Zcf
 unfold Zbo
 have hc:c.toNat < 256:=c.toNat_lt
 refine⟨⟨by omega,by omega⟩,_,?_,Zaa (Mem.le_refl m) rfl⟩
 rw[Int.toNat_natCast,Nat.mul_one,Nat.add_comm]
 have:=hb c.toNat _ (ZgU l hc)
 rw[Nat.zero_add]at this;exact this
theorem ZvE(z:ByteArray){c:UInt8}{r:List UInt8}(h:z.data.toList=c::r):(z.extract 1 z.size).data.toList=r:=by
 rw[ByteArray.data_extract,Array.toList_extract,h]
 have:z.size=r.length+1:=by rw[<-Zd3,h];rfl
 simp[this]
theorem Zub(z:ByteArray){c:UInt8}{r:List UInt8}(h:z.data.toList=r++[c]):(z.extract 0 (z.size - 1)).data.toList=r:=by
 rw[ByteArray.data_extract,Array.toList_extract,h]
 have:z.size=r.length+1:=by rw[<-Zd3,h];simp
 simp[this]
theorem Zuc(l:List UInt8)(s:ByteArray)(hs:s.size<=1000000000000000)(b:Nat)(m:Mem)(hb:m.reads b 0 (Zsx l)):CX Tryz.prog 104 #[.string s,.pointer (some ⟨b,0,none⟩)] m [] (Zxe (λc=>l.any λx=>x.toNat == c.toNat) s):=by
 apply Zc1
 unfold ZbW
 refine⟨λxs _ _ m' q=>∃z:ByteArray,xs=[.string z]/\z.size<=s.size/\s.data.toList.all (λc=>l.any λx=>x.toNat == c.toNat)=z.data.toList.all (λc=>l.any λx=>x.toNat == c.toNat)/\q=z.size,⟨_,s,rfl,Nat.le_refl _,rfl,rfl⟩,?_⟩
 rintro z m1 q aU ⟨z',hx,cD,cB,hq⟩
 obtain rfl:z=z':=by simpa using hx
 subst hq
 have hl:=Zd3 z
 refine Zac (λbF=>?_) (λdC=>?_)
 ·have h0:0 < z.size:=by have:=of_decide_eq_true bF;omega
  cases hz:z.data.toList with
  | nil=>rw[hz]at hl;simp at hl;omega
  | cons c r=>
   have he:=ZvE z hz
   have hr:(z.extract 1 z.size).size=z.size - 1:=by rw[<-Zd3,he,<-hl,hz];simp
   have hc:ZfD z (Int.toNat 0)=(c.toNat:Int):=Zix (by rw[hz];rfl)
   rw[hc]
   refine⟨⟨by omega,by omega⟩,Zae (Zke l c b m1 (hb.mono aU)) λm2 bG=>Zac (λh=>?_) (λh=>?_)⟩
   ·refine Zaa (mLt aU bG) ⟨z,rfl,cD,cB,.inr ?_⟩
    have h':(l.any λx=>x.toNat == c.toNat)=false:=by simpa using h
    rw[hz,List.all_cons,h'];rfl
   ·have h':(l.any λx=>x.toNat == c.toNat)=true:=by simpa using h
    refine⟨⟨by omega,by omega⟩,z.size - 1,by omega,_,rfl,?_,?_,?_⟩
    ·show(z.extract 1 z.size).size<=_
     omega
    ·rw[cB,hz,List.all_cons,h',Bool.true_and]
     show _=(z.extract 1 z.size).data.toList.all _
     rw[he]
    ·show _=(z.extract 1 z.size).size
     omega
 ·have h0:z.size=0:=by have:=of_decide_eq_false dC;omega
  exact Zaa aU ⟨z,rfl,cD,cB,.inl h0⟩
theorem Zud(l:List UInt8)(s:ByteArray)(hs:s.size<=1000000000000000)(b:Nat)(m:Mem)(hb:m.reads b 0 (Zsx l)):CX Tryz.prog 105 #[.string s,.pointer (some ⟨b,0,none⟩)] m [] (Zxe (λc=>l.any λx=>x.toNat == c.toNat) s):=by
 apply ZcC
 unfold ZbJ
 refine⟨λxs _ _ m' q=>∃z:ByteArray,xs=[.string z]/\z.size<=s.size/\s.data.toList.all (λc=>l.any λx=>x.toNat == c.toNat)=z.data.toList.all (λc=>l.any λx=>x.toNat == c.toNat)/\q=z.size,⟨_,s,rfl,Nat.le_refl _,rfl,rfl⟩,?_⟩
 rintro z m1 q aU ⟨z',hx,cD,cB,hq⟩
 obtain rfl:z=z':=by simpa using hx
 subst hq
 have hl:=Zd3 z
 refine Zac (λbF=>?_) (λdC=>?_)
 ·have h0:0 < z.size:=by have:=of_decide_eq_true bF;omega
  have hw:IntKind.i64.wrap ((z.size:Int) - 1)=((z.size - 1:Nat):Int):=by rw[Zan (by omega) (by omega)];omega
  obtain⟨r,c,hz⟩:∃r c,z.data.toList=r++[c]:=by
   rcases List.eq_nil_or_concat z.data.toList with h|⟨r,c,h⟩
   ·rw[h]at hl;simp at hl;omega
   ·exact⟨r,c,by simpa using h⟩
  have he:=Zub z hz
  have hr:(z.extract 0 (z.size - 1)).size=z.size - 1:=by rw[<-Zd3,he,<-hl,hz];simp
  have hc:ZfD z (z.size - 1)=(c.toNat:Int):=Zix (by rw[hz,List.getElem?_append_right (by rw[<-hl,hz];simp),<-hl,hz];simp)
  simp only[hw,Int.toNat_natCast,hc]
  refine⟨⟨by omega,by omega⟩,Zae (Zke l c b m1 (hb.mono aU)) λm2 bG=>Zac (λh=>?_) (λh=>?_)⟩
  ·refine Zaa (mLt aU bG) ⟨z,rfl,cD,cB,.inr ?_⟩
   have h':(l.any λx=>x.toNat == c.toNat)=false:=by simpa using h
   rw[hz,List.all_append,List.all_cons,h'];simp
  ·have h':(l.any λx=>x.toNat == c.toNat)=true:=by simpa using h
   refine⟨⟨by omega,by omega⟩,z.size - 1,by omega,_,rfl,by omega,?_,by omega⟩
   rw[cB,hz,List.all_append,List.all_cons,h',he];simp
 ·have h0:z.size=0:=by have:=of_decide_eq_false dC;omega
  exact Zaa aU ⟨z,rfl,cD,cB,.inl h0⟩
def ZcD:ByteArray:=⟨#[97,98,99,100,101,102,103,104,105,106,107,108,109,110,111,112,113,114,115,116,117,118,119,120,121,122,48,49,50,51,52,53,54,55,56,57,95]⟩
theorem Zsz(c:UInt8):(ZcD.data.toList.any λx=>x.toNat == c.toNat)=ZuO c:=by
 have:∀n:Nat,n < 256->(ZcD.data.toList.any λx=>x.toNat == n)=((decide (97<=n)&&decide (n<=122))||(decide (48<=n)&&decide (n<=57))||n == 95):=by decide +kernel
 exact this c.toNat c.toNat_lt
def ZxM(s:ByteArray):Value->Mem->List (List Value)->Prop:=λv _ _=>∃z:ByteArray,v=.string z/\(z.size == 0)=s.data.toList.all ZuO
theorem ZvF(s:ByteArray)(hs:s.size<=1000000000000000)(m:Mem):CX Tryz.prog 82 #[.string s,.string ZcD] m [] (ZxM s):=by
 apply Zij
 unfold ZeQ
 have e0:(ZcD.toList == ByteArray.toList ⟨#[]⟩)=false:=by rw[Zcc];rfl
 refine⟨s.size == 0,Zac (λh=>by rw[Zcc]at h;rw[h]) (λh=>by rw[Zcc]at h;rw[h,e0]),?_⟩
 refine Zac (λh=>?_) (λh=>?_)
 ·refine Zaa (Mem.le_refl m) ⟨s,rfl,?_⟩
  rw[h]
  have:s.data.toList=[]:=List.eq_nil_of_length_eq_zero (by rw[Zd3];simpa using h)
  rw[this];rfl
 refine⟨false,ZfC (by decide) rfl,ZfC rfl ?_⟩
 refine Zao (Zua ZcD (by decide) (by decide) m) (λv _ _ e=>by rw[show v=_ from e];rfl) ?_
 intro cs b m1 aU hv
 have hv:Value.tuple (Array.mk [Value.agg (Array.mk cs),Value.bool b])=Value.tuple #[.agg (Zsx ZcD.data.toList).toArray,.bool true]:=hv
 simp only[Value.tuple.injEq,Value.agg.injEq,Array.mk.injEq,List.cons.injEq,Value.bool.injEq,and_true]at hv
 obtain⟨rfl,rfl⟩:=hv
 intro b1
 refine Zab (by rw[ZiV,Zo6];rfl) (ZnB rfl λm2 bG fA=>?_)
 refine Zao (Zud ZcD.data.toList s hs b1 m2 fA) (λv _ _ ⟨_,e,_⟩=>by rw[e];rfl) ?_
 rintro z m3 bX ⟨z1,hz,kM,jZ,ue⟩
 obtain rfl:z=z1:=by simpa using hz
 refine Zao (Zuc ZcD.data.toList z (by omega) b1 m3 (fA.mono bX)) (λv _ _ ⟨_,e,_⟩=>by rw[e];rfl) ?_
 rintro y m4 cM ⟨y1,hy,uf,ru,rv⟩
 obtain rfl:y=y1:=by simpa using hy
 refine Zaa (mLt aU (mLt bG (mLt bX cM))) ⟨y,rfl,?_⟩
 have hp:(λc:UInt8=>ZcD.data.toList.any λx=>x.toNat == c.toNat)=ZuO:=funext Zsz
 rw[hp]at jZ ru rv
 rw[jZ,ru]
 rcases rv with h0|h0
 ·have:y.data.toList=[]:=List.eq_nil_of_length_eq_zero (by rw[Zd3];exact h0)
  rw[this,h0];rfl
 ·rw[h0]
  have:¬y.size=0:=λe=>by
   have:y.data.toList=[]:=List.eq_nil_of_length_eq_zero (by rw[Zd3];exact e)
   rw[this]at h0;simp at h0
  simpa using this
theorem Ziy(s:ByteArray)(hs:s.size<=1000000000000000)(m:Mem):CX Tryz.prog 50 #[.string s] m [] (Ret (.bool (Zd4 s))):=by
 apply ZjE
 unfold ZfB
 refine Zac (λh=>Zaa (Mem.le_refl m) ?_) (λh=>?_)
 ·rw[Zcc]at h;simp[Ret,Zd4,h]
 rw[Zcc]at h
 have s8:¬s.size=0:=by simpa using h
 have gF:0 < s.size:=by omega
 obtain⟨c,hc⟩:=Zb8 (l:=s.data.toList) (n:=0) (by rw[Zd3];exact gF)
 have hD:s.data.toList.getD 0 0=c:=by rw[List.getD_eq_getElem?_getD,hc];rfl
 rw[show Int.toNat 0=0 from rfl,Zix hc]
 refine Zac (λh1=>Zaa (Mem.le_refl m) ?_) (λh1=>⟨⟨by omega,by omega⟩,Zac (λh2=>Zaa (Mem.le_refl m) ?_) (λh2=>⟨⟨by omega,by omega⟩,Zac (λh3=>Zaa (Mem.le_refl m) ?_) (λh3 b hf=>?_)⟩)⟩)
 ·have:s.size > 16:=by have:=of_decide_eq_true h1;omega
  show Value.bool false=_
  unfold Zd4;rw[h,decide_eq_true this];rfl
 ·have:c.toNat < 97:=by have:=of_decide_eq_true h2;omega
  show Value.bool false=_
  unfold Zd4;rw[hD,decide_eq_true this];simp
 ·have:c.toNat > 122:=by have:=of_decide_eq_true h3;omega
  show Value.bool false=_
  unfold Zd4;rw[hD,decide_eq_true this];simp
 have g1:¬s.size > 16:=by have:=of_decide_eq_false h1;omega
 have g2:¬c.toNat < 97:=by have:=of_decide_eq_false h2;omega
 have g3:¬c.toNat > 122:=by have:=of_decide_eq_false h3;omega
 have hN:Zd4 s=(!(ZmK.any λw=>eqS w s)&&s.data.toList.all ZuO):=by
  unfold Zd4;rw[h,decide_eq_false g1,hD,decide_eq_false g2,decide_eq_false g3];rfl
 have hE:(ZmK.any λy=>eqS s y)=ZmK.any λw=>eqS w s:=by
  congr 1;funext w;unfold eqS;exact Bool.beq_comm
 have cA:=Mem.le_add hf (ZgT ZmK)
 refine Zae (Ziw ZmK (some ⟨b,0,none⟩) 3 s (m.add b (ZgT ZmK)) (by decide) (.inr ⟨b,0,rfl,λj v hj=>by rw[Nat.zero_add,Mem.add_same];exact hj⟩)) λm1 aU=>Zac (λh4=>Zaa (mLt cA aU) ?_) (λh4=>?_)
 ·rw[hE]at h4
  show Value.bool false=_
  rw[hN,h4];rfl
 rw[hE]at h4
 refine Zao (ZvF s hs m1) (λv _ _ ⟨_,e,_⟩=>by rw[e];rfl) ?_
 rintro z m2 bG ⟨z',hz,jZ⟩
 obtain rfl:z=z':=by simpa using hz
 refine Zaa (mLt cA (mLt aU bG)) ?_
 show Value.bool _=_
 rw[Zcc,hN,h4,jZ];rfl
theorem ZvG(k:Int)(m:Mem):CX Tryz.prog 112 #[.int .u8 k] m [] (Ret (.int .i64 (Ztq k))):=by
 apply Zm5
 unfold Zik
 refine Zac (λh=>Zaa (Mem.le_refl m) ?_) (λh=>⟨decide (k ≥ 2)&&decide (k<=7),Zac (λh2=>by rw[h2];rfl) (λh2=>by rw[h2];rfl),Zac (λh2=>Zaa (Mem.le_refl m) ?_) (λh2=>Zaa (Mem.le_refl m) ?_)⟩)
 all_goals
  show Value.int _ _=Value.int _ _
  congr 1
  unfold Ztq
 ·have:k=1:=by simpa using h
  rw[if_pos this]
 ·have h1:¬k=1:=by simpa using h
  simp only[Bool.and_eq_true,decide_eq_true_eq]at h2
  rw[if_neg h1,if_pos (by omega)]
 ·have h1:¬k=1:=by simpa using h
  simp only[Bool.and_eq_false_iff,decide_eq_false_iff_not]at h2
  rw[if_neg h1,if_neg (by omega)]
theorem ZsA(t:E)(m:Mem)(hr:RepE m t):CX Tryz.prog 92 #[t.v] m [] (Ret (.bool t.right)):=by
 have cN:=Zvs hr
 have lR:=Zgy hr
 apply Zlo
 unfold ZgQ
 intro b m1 aU _
 have tail:∀(M0:Mem)(name number capture neg:Bool),t.right=(decide (t.k<=10)&&(name&&(number&&(capture&&((t.subs.length:Int) == Ztq t.k&&!neg)))))->m.le M0->
   ∃f:Fx,br (decide (t.k<=10)) (br name (br number (br capture (∃R_3:RT,R_3=f 18 [.int .u8 t.k] M0/\CX Tryz.prog 112 #[.int .u8 t.k] M0 [] R_3/\Zal (.int .i64) R_3/\∀(n:Int)(m':Mem),M0.le m'->R_3 (.int .i64 n) m' []->br ((t.subs.length:Int) == n) (∀M:Mem,M0.le M->m'.le M->∃m'':Mem,m.le m''/\m''.le M/\Ret (.bool t.right) (.bool !neg) m'' []) (∀M:Mem,M0.le M->m'.le M->∃m'':Mem,m.le m''/\m''.le M/\Ret (.bool t.right) (.bool false) m'' []))
    (∀M:Mem,M0.le M->M0.le M->∃m'':Mem,m.le m''/\m''.le M/\Ret (.bool t.right) (.bool false) m'' [])) (∀M:Mem,M0.le M->M0.le M->∃m'':Mem,m.le m''/\m''.le M/\Ret (.bool t.right) (.bool false) m'' [])) (∀M:Mem,M0.le M->M0.le M->∃m'':Mem,m.le m''/\m''.le M/\Ret (.bool t.right) (.bool false) m'' []))
    (∀M:Mem,M0.le M->M0.le M->∃m'':Mem,m.le m''/\m''.le M/\Ret (.bool t.right) (.bool false) m'' []):=λM0 name number capture neg he s9=>by
  have fin:∀{x:Bool} {M:Mem},t.right=x->M0.le M->∃m'':Mem,m.le m''/\m''.le M/\Ret (.bool t.right) (.bool x) m'' []:=λ{x M} h hM=>Zaa (mLt s9 hM) (by show Value.bool x=Value.bool t.right;rw[h])
  refine⟨λ_ _ _=>Ret (.int .i64 (Ztq t.k)),Zac (λh1=>Zac (λh2=>Zac (λh3=>Zac (λh4=>⟨_,rfl,ZvG t.k M0,λv _ _ e=>by rw[show v=_ from e];rfl,λn m' hm' hn=>?_⟩) (λh4 M hM _=>fin ?_ hM)) (λh3 M hM _=>fin ?_ hM)) (λh2 M hM _=>fin ?_ hM)) (λh1 M hM _=>fin ?_ hM)⟩
  ·obtain rfl:n=Ztq t.k:=by cases hn;rfl
   refine Zac (λh5 M hM _=>fin ?_ hM) (λh5 M hM _=>fin ?_ hM)
   ·rw[he,h1,h2,h3,h4,h5];rfl
   ·rw[he,h5];simp
  ·simp[he,h4]
  ·simp[he,h3]
  ·simp[he,h2]
  ·rw[he,h1];simp
 refine⟨λ_ _ _=>Ret (.bool (Zto t.x 0)),_,rfl,Zrd t.x 0 m1,λv _ _ e=>by rw[show v=_ from e];rfl,λb1 m2 bG cP M jn lr=>?_⟩
 obtain rfl:b1=Zto t.x 0:=by cases cP;rfl
 have hM:=mLt aU jn
 refine Zac (λh8=>?_) (λh8=>Zac (λh9=>?_) (λh9=>Zac (λiH=>?_) (λiH=>Zac (λh0=>?_) (λh0=>?_))))
 ·have hk:t.k=8:=by simpa using h8
  refine Zae (Zo5 t.x M) λm3 bX=>⟨false,ZfC (by rw[hk];rfl) ⟨by trivial,rfl⟩,tail m3 _ _ _ _ ?_ (mLt hM bX)⟩
  unfold E.right;rw[Zcc];simp[hk]
 ·have hk:t.k=9:=by simpa using h9
  refine Zae (Ziy t.s cN.s M) λm3 bX=>⟨false,ZfC (by rw[hk];rfl) ⟨by trivial,rfl⟩,tail m3 _ _ _ _ ?_ (mLt hM bX)⟩
  unfold E.right;simp[hk]
 ·have hk:t.k=10:=by simpa using iH
  refine⟨decide (t.g ≥ 0)&&decide (t.g<=9),Zac (λh=>⟨by trivial,by rw[h];rfl⟩) (λh=>⟨by trivial,by rw[h];rfl⟩),false,ZfC (by rw[hk];rfl) ⟨by trivial,rfl⟩,tail M _ _ _ _ ?_ hM⟩
  unfold E.right;rw[Zcc];simp[hk]
 ·refine Zaa hM ?_
  show Value.bool false=Value.bool t.right
  unfold E.right;rw[h0];rfl
 ·have e8:¬t.k=8:=by simpa using h8
  have e9:¬t.k=9:=by simpa using h9
  have e10:¬t.k=10:=by simpa using iH
  refine⟨t.k == 1&&(t.subs.length == 1&&Zvt t.subs),?_,tail M _ _ _ _ ?_ hM⟩
  ·refine Zac (λh1=>Zac (λh2=>?_) (λh2=>⟨by trivial,?_⟩)) (λh1=>⟨by trivial,by rw[h1];rfl⟩)
   ·have bL:t.subs.length=1:=by
     have:=of_decide_eq_true (show decide ((t.subs.length:Int)=1)=true from h2)
     omega
    cases hs:t.subs with
    | nil=>rw[hs]at bL;simp at bL
    | cons u r=>
     rcases lR.2 with h|⟨bb,o,ha,fD⟩
     ·rw[h]at bL;simp at bL
     ·rw[hs]at fD
      have h3:=((fD.mono' hM).get (i:=0) (t:=u) rfl).1 0 _ rfl
      rw[Nat.zero_mul]at h3
      refine⟨bb,o,ha,⟨by omega,by simp⟩,_,h3,Zab rfl ⟨by trivial,?_⟩⟩
      rw[h1]
      have:(u::r).length=1:=by rw[<-hs];exact bL
      rw[this];rfl
   ·have:(t.subs.length == 1)=false:=by
     have h:=of_decide_eq_false (show decide ((t.subs.length:Int)=1)=false from h2)
     exact decide_eq_false (by omega)
    rw[this];simp
  ·unfold E.right;rw[Zcc,h0];simp[e8,e9,e10]
theorem Zo7(t:E)(m:Mem)(hr:RepE m t):CX Tryz.prog 67 #[t.v] m [] (Ret (.bool t.clean)):=by
 apply Zlp
 unfold ZgR
 intro b m1 aU _ b2
 refine Zae (ZdI t m1 (RepE.mono' hr aU)) λm2 bG=>Zac (λh=>Zaa (mLt aU bG) ?_) (λh=>?_)
 ·have:t.light=false:=by simpa using h
  simp[Ret,E.clean,this]
 have hl:t.light=true:=by simpa using h
 refine Zao (Zf2 t m2) (λv m' css h=>by obtain⟨_,rfl,_⟩:=h;rfl) ?_
 rintro g fi ca m3 bX ⟨b3,hv,eX⟩
 obtain⟨rfl,rfl,rfl⟩:=Zcv hv
 have cA:=mLt aU (mLt bG bX)
 refine⟨_,Zeg t m3 b3 eX (RepE.mono' hr cA),λy hy=>?_,λ_ css _ m' q=>m3.le m'/\∀x∈t.nodes.take q,x.right=true,⟨Mem.le_refl _,by simp⟩,?_,?_⟩
 ·obtain⟨z,_,rfl⟩:=List.mem_map.1 hy;exact Zl7 z
 ·rintro n0 v0 s0 n3 a n7 c cs m4 q cM hq ⟨_,gq⟩ b4
  have hq':(List.map (λz:E=>[z.v]) t.nodes)[(q:Nat)]?=some [Value.agg #[.int .u8 n0,v0,.string s0,.int .i64 n3,.slice a n7 c]]:=hq
  rw[List.getElem?_map]at hq'
  obtain⟨z,hz,gT⟩:=Option.map_eq_some_iff.1 hq'
  have jO:z.v=Value.agg #[.int .u8 n0,v0,.string s0,.int .i64 n3,.slice a n7 c]:=by simpa using gT
  have qa:RepE m4 z:=RepE.mono' (Zp9 (RepE.mono' hr cA) (List.mem_of_getElem? hz)) cM
  have gK:=ZsA z m4 qa
  rw[jO]at gK
  have py:v0=.float .f64 z.x:=by
   simp only[E.v,Value.agg.injEq,Array.mk.injEq,List.cons.injEq]at jO
   exact jO.2.1.symm
  refine Zab (by rw[py];rfl) ?_
  refine Zae gK λm5 eJ=>Zac (λh=>⟨by trivial,Zaa (mLt cA (mLt cM eJ)) ?_⟩) (λh=>⟨by trivial,mLt cM eJ,λx hx=>?_⟩)
  ·have kb:z.right=false:=by simpa using h
   have:t.nodes.all E.right=false:=by
    rw[List.all_eq_false];exact⟨z,List.mem_of_getElem? hz,by simp[kb]⟩
   simp[Ret,E.clean,this]
  ·rw[List.take_add_one,hz]at hx
   rcases List.mem_append.1 hx with hx|hx
   ·exact gq x hx
   ·simp at hx;rw[hx];simpa using h
 ·rintro cs m4 cM ⟨_,gq⟩
  refine Zaa (mLt cA cM) ?_
  rw[List.length_map,List.take_length]at gq
  have:t.nodes.all E.right=true:=List.all_eq_true.2 gq
  simp[Ret,E.clean,this,hl]
theorem Zls(l l':List E)(a a':Option Addr)(c c':Nat)(m:Mem)(hl:l.length<=1000000000000000)(hr:l=[]\/∃b o,a=some ⟨b,o,none⟩/\RepEAt m b o l)(hr':l'=[]\/∃b o,a'=some ⟨b,o,none⟩/\RepEAt m b o l')
  (hp:∀x∈l,∀y∈l',∀m',m.le m'->RepE m' x->RepE m' y->CX Tryz.prog 113 #[x.v,y.v] m' [] (Ret (.bool (x.same y)))):
  CX Tryz.prog 124 #[.slice a l.length c,.slice a' l'.length c',.func (.func 113) #[] #[]] m [] (Ret (.bool (Zdh l l'))):=by
 apply Zay a l.length c a' l'.length c' _ [] []
 unfold Zak
 refine Zac (λh=>Zaa (Mem.le_refl _) ?_) (λh=>?_)
 ·have:¬l.length=l'.length:=by
   intro e;rw[e]at h;simp at h
  show Value.bool false=_
  rw[Zl9 this]
 have iI:l.length=l'.length:=by
  have h2:((l.length:Int) == (l'.length:Int))=true:=by simpa using h
  have:=of_decide_eq_true h2;omega
 refine⟨λxs _ _ m'' q=>∃i:Nat,i<=l.length/\xs=[.int .i64 i]/\Zdh (l.take i) (l'.take i)=true/\m.le m''/\q=l.length - i,⟨l.length,0,by omega,rfl,by simp[Zdh],Mem.le_refl _,by omega⟩,?_⟩
 rintro n m' q hm ⟨i,hi,hn,eG,cA,hq⟩
 obtain rfl:n=i:=by simpa using hn
 refine Zac (λbF=>?_) (λdC=>?_)
 ·have bQ:i < l.length:=by simpa using bF
  obtain⟨x,hx⟩:∃x,l[i]?=some x:=⟨_,List.getElem?_eq_getElem bQ⟩
  obtain⟨y,hy⟩:∃y,l'[i]?=some y:=⟨_,List.getElem?_eq_getElem (by omega)⟩
  have my:x∈l:=List.mem_of_getElem? hx
  have qb:y∈l':=List.mem_of_getElem? hy
  rcases hr with h0|⟨b1,o1,ha,fD⟩
  ·rw[h0]at bQ;simp at bQ
  rcases hr' with h0|⟨b2,o2,ha',lQ⟩
  ·rw[h0]at iI;simp at iI;rw[iI]at bQ;simp at bQ
  obtain⟨dX,eD⟩:=(fD.mono' hm).get hx
  obtain⟨js,jP⟩:=(lQ.mono' hm).get hy
  refine⟨b1,o1,ha,⟨by omega,by omega⟩,_,_,_,_,_,dX,λb3=>Zab rfl ⟨b2,o2,ha',⟨by omega,by omega⟩,_,_,_,_,_,js,λb4=>Zab rfl ?_⟩⟩
  refine Zae (hp x my y qb m' hm eD jP) λm1 aU=>Zac (λeI=>?_) (λeI=>?_)
  ·have hf:x.same y=false:=by simpa using eI
   refine Zaa (mLt hm aU) ?_
   show Value.bool false=_
   rw[Zox hx hy hf]
  ·have hf:x.same y=true:=by simpa using eI
   refine⟨l.length - (i+1),by omega,i+1,by omega,by rw[Zan (by omega) (by omega)];rfl,Zj3 hx hy eG hf,mLt hm aU,rfl⟩
 ·have hi':i=l.length:=by
   have:¬((i:Int) < (l.length:Int)):=by simpa using dC
   omega
  subst hi'
  refine Zaa hm ?_
  rw[List.take_length,iI,List.take_length]at eG
  show Value.bool true=_
  rw[eG]
theorem Zrf(t u:E)(m:Mem)(hr:RepE m t)(hu:RepE m u):CX Tryz.prog 113 #[t.v,u.v] m [] (Ret (.bool (t.same u))):=by
 apply Zm8
 unfold Zil
 intro b m1 aU _ b' m2 bG _
 have hm:=mLt aU bG
 refine⟨t.same u,?_,Zaa hm rfl⟩
 rw[Zt1]
 refine Zac (λh1=>?_) (λh1=>⟨by trivial,Zag (by rw[h1];rfl)⟩)
 refine Zae (Zrd t.x u.x m2) λm3 bX=>Zac (λh2=>Zac (λh3=>Zac (λh4=>?_) (λh4=>⟨by trivial,Zag (by rw[h1,h2,h3,h4];rfl)⟩)) (λh3=>⟨by trivial,Zag (by rw[h1,h2,h3];rfl)⟩)) (λh2=>⟨by trivial,Zag (by rw[h1,h2];rfl)⟩)
 have hM:=mLt hm bX
 have hr':=Zgy (RepE.mono' hr hM)
 have hu':=Zgy (RepE.mono' hu hM)
 refine Zae (Zls t.subs u.subs t.a u.a t.c u.c m3 hr'.1 hr'.2 hu'.2 λx hx y hy m' _ dX js=>?_) λm4 cM=>⟨by trivial,Zag (by rw[h1,h2,h3,h4];rfl)⟩
 have cD:=Zou hx
 exact Zrf x y m' dX js
termination_by SizeOf.sizeOf t
decreasing_by exact cD
theorem Zrg(t u:E)(m:Mem)(hr:RepE m t)(hu:RepE m u):CX Tryz.prog 93 #[t.v,u.v] m [] (Ret (.bool (t.light&&(u.light&&t.same u)))):=by
 apply Zm9
 unfold Zim
 intro b m1 aU _ b' m2 bG _
 have hm:=mLt aU bG
 refine⟨t.light&&(u.light&&t.same u),?_,Zaa hm rfl⟩
 refine Zae (ZdI t m2 (RepE.mono' hr hm)) λm3 bX=>Zac (λh1=>?_) (λh1=>⟨by trivial,Zag (by rw[h1];rfl)⟩)
 refine Zae (ZdI u m3 (RepE.mono' hu (mLt hm bX))) λm4 cM=>Zac (λh2=>?_) (λh2=>⟨by trivial,Zag (by rw[h1,h2];rfl)⟩)
 have eJ:=mLt (mLt hm bX) cM
 exact Zae (Zrf t u m4 (RepE.mono' hr eJ) (RepE.mono' hu eJ)) λm6 iv=>⟨by trivial,Zag (by rw[h1,h2];rfl)⟩
def Zo8(l:List E):Int:=l.foldl (λn x=>if x.k=10 then(if x.g > n then x.g else n)else n) (-1)
theorem Zrh(t:E)(m:Mem)(hr:RepE m t):CX Tryz.prog 73 #[t.v] m [] (Ret (.int .i64 t.most)):=by
 apply Znb
 unfold Zio
 intro b m1 aU _ b2
 refine Zae (ZdI t m1 (RepE.mono' hr aU)) λm2 bG=>Zac (λhl=>?_) (λh=>Zaa (mLt aU bG) (by simp[Ret,E.most,h]))
 refine Zao (Zf2 t m2) (λv m' css h=>by obtain⟨_,rfl,_⟩:=h;rfl) ?_
 rintro g fi ca m3 bX ⟨b3,hv,eX⟩
 obtain⟨rfl,rfl,rfl⟩:=Zcv hv
 have cA:=mLt aU (mLt bG bX)
 refine⟨_,Zeg t m3 b3 eX (RepE.mono' hr cA),λy hy=>?_,λ_ css _ m' q=>css=[[.int .i64 (Zo8 (t.nodes.take q))]],rfl,?_,?_⟩
 ·obtain⟨z,_,rfl⟩:=List.mem_map.1 hy;exact Zl7 z
 ·rintro n0 v0 s0 n3 a n7 c cs m4 q cM hq dN b4
  obtain rfl:cs=[.int .i64 (Zo8 (t.nodes.take q))]:=by simpa using dN
  have hq':(List.map (λz:E=>[z.v]) t.nodes)[(q:Nat)]?=some [Value.agg #[.int .u8 n0,v0,.string s0,.int .i64 n3,.slice a n7 c]]:=hq
  rw[List.getElem?_map]at hq'
  obtain⟨z,hz,gT⟩:=Option.map_eq_some_iff.1 hq'
  simp only[E.v,List.cons.injEq,Value.agg.injEq,Array.mk.injEq,Value.int.injEq,Value.string.injEq,Value.slice.injEq,true_and,and_true]at gT
  obtain⟨rfl,rfl,rfl,rfl,rfl,rfl,rfl⟩:=gT
  have hs:Zo8 (t.nodes.take (q+1))=if z.k=10 then(if z.g > Zo8 (t.nodes.take q)then z.g else Zo8 (t.nodes.take q))else Zo8 (t.nodes.take q):=by
   rw[List.take_add_one,hz]
   unfold Zo8
   rw[List.foldl_append];rfl
  refine Zab rfl (Zac (λh=>ZaK rfl (Zab rfl ⟨by trivial,?_⟩)) (λh=>⟨by trivial,?_⟩))
  ·have hk:z.k=10:=by simpa using h
   show[[_]]=[[Value.int .i64 (Zo8 (t.nodes.take (q+1)))]]
   rw[hs,if_pos hk];rfl
  ·have hk:¬z.k=10:=by simpa using h
   show[[_]]=[[Value.int .i64 (Zo8 (t.nodes.take (q+1)))]]
   rw[hs,if_neg hk]
 ·rintro cs m4 cM dN
  obtain rfl:cs=[.int .i64 (Zo8 (t.nodes.take t.nodes.length))]:=by simpa using dN
  refine ZaK rfl (Zaa (mLt cA cM) ?_)
  rw[List.take_length]
  show Value.int _ _=Value.int _ t.most
  unfold E.most;rw[hl];rfl
theorem Zat(m:Mem)(b:Nat)(cs:List Value):(m.add b cs).reads b 0 cs:=λj u hu=>by rw[Mem.add_same,Nat.zero_add];exact hu
abbrev Yn(v:Value):Nat->Prop:=λb=>(Tok.mk v 1).blk=some b
theorem ZvH{m m':Mem}{Y Y1:Nat->Prop}(h:(m.off Y).le m')(hn:∀b,Y1 b->Y b\/(m.free b/\m.k b=none)):(m.off Y).le (m'.off Y1):=by
 have no:∀b,Y1 b->(∀o,m.off Y b o=none)/\(m.off Y).k b=none:=λb hb=>by
  by_cases hY:Y b
  ·exact⟨Mem.off_free hY,Mem.off_kn hY⟩
  ·rcases hn b hb with h1|⟨h1,h2⟩
   ·exact absurd h1 hY
   ·exact⟨λo=>by rw[Mem.off_at hY];exact h1 o,by rw[Mem.off_k hY];exact h2⟩
 refine⟨λb o v hv=>?_,λb e he=>?_⟩
 ·by_cases hb:Y1 b
  ·rw[(no b hb).1 o]at hv;cases hv
  ·rw[Mem.off_at hb];exact h.c b o v hv
 ·by_cases hb:Y1 b
  ·rw[(no b hb).2]at he;cases he
  ·rw[Mem.off_k hb];exact h.k b e he
theorem Ztv{m m':Mem}(h:m.le m'){b:Nat}(hf:m'.free b/\m'.k b=none):m.free b/\m.k b=none:=by
 refine⟨λo=>?_,?_⟩
 ·cases e:m b o with
  | none=>rfl
  | some v=>have:=h.c b o v e;rw[hf.1 o]at this;cases this
 ·cases e:m.k b with
  | none=>rfl
  | some v=>have:=h.k b v e;rw[hf.2]at this;cases this
structure NmSt (m:Mem)(v0:Value)(m':Mem)(a:Option Addr)(c:Nat)(l:List ByteArray):Prop where
 row:rowRd m' a (ZgT l)
 base:(m.off (Yn v0)).le (m'.off (Yn (.slice a l.length c)))
 new:∀b,Yn (.slice a l.length c) b->Yn v0 b\/(m.free b/\m.k b=none)
def NmR(v0:Value)(m:Mem)(l:List ByteArray):RTY:=λv m' css tvs=>∃a c,v=.slice a l.length c/\tvs=[.slice a l.length c]/\rowRd m' a (ZgT l)/\∀b,Yn (.slice a l.length c) b->Yn v0 b\/(m.free b/\m.k b=none)
theorem Zue{v0 m l}:∀(v:Value)(m':Mem) (css:List (List Value)) (tvs:List Value),NmR v0 m l v m' css tvs->Shape.fits .slice v=true:=λv _ _ _ ⟨_,_,e,_⟩=>by rw[e];rfl
theorem NmSt.step{m m' m'':Mem}{v0:Value}{a a':Option Addr}{c c':Nat}{l l':List ByteArray}(h:NmSt m v0 m' a c l)(cA:(m'.off (Yn (.slice a l.length c))).le m'')(hr:rowRd m'' a' (ZgT l'))(hn:∀b,Yn (.slice a' l'.length c') b->Yn (.slice a l.length c) b\/(m'.free b/\m'.k b=none)):NmSt m v0 m'' a' c' l':=by
 refine⟨hr,mLt h.base (ZvH cA hn),λb hb=>?_⟩
 rcases hn b hb with h1|h1
 ·exact h.new b h1
 ·by_cases hY:Yn v0 b
  ·exact .inl hY
  ·have h2:=Ztv h.base (b:=b) ⟨λo=>by
    by_cases cP:Yn (.slice a l.length c) b
    ·exact Mem.off_free cP o
    ·rw[Mem.off_at cP];exact h1.1 o,by
    by_cases cP:Yn (.slice a l.length c) b
    ·exact Mem.off_kn cP
    ·rw[Mem.off_k cP];exact h1.2⟩
   refine .inr ⟨λo=>?_,?_⟩
   ·have:=h2.1 o;rwa [Mem.off_at hY]at this
   ·have:=h2.2;rwa [Mem.off_k hY]at this
theorem ZsB(l:List ByteArray):(ZgT l).length=l.length:=by unfold ZgT;exact List.length_map _
theorem Zo9(t:E):∀(out:List ByteArray)(a:Option Addr)(c:Nat)(m:Mem),rowRd m a (ZgT out)->RepE (m.off (Yn (.slice a out.length c))) t->(t.names out).length<=1000000->
  CXY Tryz.prog 115 #[.slice a out.length c,t.v] m (Yn (.slice a out.length c)) [] [⟨.slice a out.length c,1⟩] (NmR (.slice a out.length c) m (t.names out)):=by
 intro out a c m ho hr h1
 have fH:=Zq7 t out
 have oL:RepE m t:=RepE.mono (Mem.off_le m _) t hr
 apply Zhc
 unfold ZeM
 intro b m1 aU _ ug _
 refine Zac (λhk=>?_) (λhk=>?_)
 ·have qd:t.k=9:=by simpa using hk
  have hN:=Zoy t out
  rw[if_pos qd]at hN
  have hE:(out.any λy=>eqS t.s y)=out.any λy=>y.toList == t.s.toList:=by
   congr 1;funext w;unfold eqS;exact Bool.beq_comm
  refine Zae (Ziw out a c t.s m1 (by omega) (ho.mono aU)) λm2 bG=>Zac (λh=>?_) (λh b2 hf=>?_)
  ·rw[hE]at h
   rw[hN,h,if_pos rfl]
   exact⟨a,c,rfl,rfl,ho.mono (mLt aU bG),λb hb=>.inl hb⟩
  ·rw[hE]at h
   rw[h,if_neg (by decide)]at hN
   have cA:m2.le (m2.add b2 [.string t.s]):=Mem.le_add hf _
   have hO:=mLt aU (mLt bG cA)
   rw[hN,List.length_append,List.length_singleton]at h1
   refine⟨.inl rfl,ZgT out,[.string t.s],by rw[ZsB];omega,rfl,ho.mono hO,.inr ⟨b2,0,rfl,Zat m2 b2 _⟩,λu hu=>?_,by omega,by omega,λa' c' m3 bX dA hT=>?_⟩
   ·obtain rfl:u=.string t.s:=by simpa using hu
    rfl
   ·rw[hN]
    have e:(out++[t.s]).length=out.length+1:=by rw[List.length_append];rfl
    refine⟨a',c',by rw[e],by rw[e],by unfold ZgT at dA ⊢;rw[List.map_append];exact dA,λb' hb'=>?_⟩
    rcases hT.2 with h|⟨bb,oo,ha',h⟩
    ·rw[h]at hb';simp[Yn,Tok.blk]at hb'
    ·subst ha'
     obtain rfl:bb=b':=by simpa[Yn,Tok.blk]using hb'
     rcases h with h|⟨_,h2,h3⟩
     ·left;rw[h];simp[Yn,Tok.blk]
     ·exact .inr (Ztv hO ⟨h2,h3⟩)
 ·have qd:¬t.k=9:=by simpa using hk
  have hN:=Zoy t out
  rw[if_neg qd]at hN
  rw[hN]at h1 ⊢
  have lR:=Zgy hr
  refine⟨λxs _ tks m' q=>∃(i:Nat)(a':Option Addr)(c':Nat),i<=t.subs.length/\xs=[.slice a' (Zcb (t.subs.take i) out).length c',.int .i64 i]/\tks=[.slice a' (Zcb (t.subs.take i) out).length c']/\NmSt m (.slice a out.length c) m' a' c' (Zcb (t.subs.take i) out)/\q=t.subs.length - i,
   ⟨_,0,a,c,by omega,by rw[List.take_zero];rfl,by rw[List.take_zero];rfl,by
    rw[List.take_zero]
    exact⟨ho.mono aU,ZvH (mLt (Mem.off_le m _) aU) λb hb=>.inl hb,λb hb=>.inl hb⟩,rfl⟩,?_⟩
  rintro a1 n1 c1 n a2 n2 c2 m2 q bG ⟨i,a',c',hi,hx,ht,hS,hq⟩
  simp only[List.cons.injEq,Value.slice.injEq,Value.int.injEq,and_true,true_and]at hx ht
  obtain⟨⟨ea,en,ec⟩,rfl⟩:=hx
  obtain⟨ea',en',ec'⟩:=ht
  subst a1 n1 c1 a2 n2 c2 q
  refine Zac (λbF=>?_) (λdC=>?_)
  ·have bQ:i < t.subs.length:=by have:=of_decide_eq_true bF;omega
   obtain⟨x,hx⟩:=Zb8 bQ
   have cE:=List.mem_of_getElem? hx
   have cD:=Zou cE
   rcases lR.2 with h|⟨b1,o1,ha,fD⟩
   ·rw[h]at bQ;simp at bQ
   obtain⟨dX,eD⟩:=(fD.mono' hS.base).get hx
   have dX:=dX.mono (Mem.off_le m2 _)
   have hw:IntKind.i64.wrap ((i:Int)+1)=((i+1:Nat):Int):=by rw[Zan (by omega) (by omega)];rfl
   have eS:=Zqa hx out
   have nD:=Zsn (l:=t.subs) (i:=i+1) out
   refine⟨b1,o1,ha,⟨by omega,by omega⟩,_,_,_,_,_,dX,λb2=>Zab rfl ?_⟩
   refine⟨_,_,Zo9 x (Zcb (t.subs.take i) out) a' c' m2 hS.row eD (by rw[<-eS];omega),λt' ht' bb iQ=>?_,λbb iQ=>.inl ⟨_,by simp,iQ⟩,Zue,?_⟩
   ·obtain rfl:t'=_:=by simpa using ht'
    exact iQ
   ·rintro a3 n3 c3 m3 bX _ a4 c4 d4 ⟨a5,c5,hv,rx,gk,kV⟩
    simp only[Value.slice.injEq]at hv
    obtain⟨e1,e2,e3⟩:=hv
    subst a3 n3 c3
    simp only[List.cons.injEq,Value.slice.injEq,and_true]at rx
    obtain⟨e1,e2,e3⟩:=rx
    subst a4 c4 d4
    rw[<-eS]at gk kV ⊢
    refine⟨rfl,rfl,t.subs.length - (i+1),by omega,i+1,a5,c5,by omega,by rw[hw],rfl,hS.step bX gk kV,rfl⟩
  ·have hi':i=t.subs.length:=by have:=of_decide_eq_false dC;omega
   subst hi'
   rw[List.take_length]at hS ⊢
   exact⟨a',c',rfl,rfl,hS.row,hS.new⟩
termination_by SizeOf.sizeOf t
decreasing_by exact cD
theorem ZvI{P:Program}{g:FuncId}{args:Array Value}{m:Mem}{esz:Nat}{R:RTY}(h:CXY P g args m (Yn (.slice none 0 0)) [] [⟨.slice none 0 0,esz⟩] R):CX P g args m [] (λv m' css=>∃tvs,R v m' css tvs):=by
 have hY:∀b,¬Yn (.slice none 0 0) b:=λb hb=>by simp[Yn,Tok.blk]at hb
 have lS:m.le (m.off (Yn (.slice none 0 0))):=⟨λb o v hv=>by rw[Mem.off_at (hY b)];exact hv,λb e he=>by rw[Mem.off_k (hY b)];exact he⟩
 refine⟨h.1,λw h1 h2 h3=>(h.2 w h1 (by simp) (by simp) (λt ht=>?_) (λi j t t' b hi hj hb=>?_) (λb hb=>absurd hb (hY b))).mono ?_⟩
 ·obtain rfl:t=_:=by simpa using ht
  exact⟨.inl rfl,λb hb=>by simp[Tok.blk]at hb⟩
 ·intro _
  have hi:=List.mem_of_getElem? hi
  obtain rfl:t=_:=by simpa using hi
  simp[Tok.blk]at hb
 ·rintro e w' ⟨v,m',css,tvs,a1,a2,a3,a4,a5,a6,a7,a8,a9,a10,a11⟩
  exact⟨v,m',css,a1,mLt lS a2,a3,a4.mono λb hb=>hb.resolve_left (hY b),⟨a5.os,a5.tape,a5.output,a5.size,λk hk _=>a5.block k hk (λhm=>hm.elim (by simp) (hY k)),a5.wr⟩,a6,a7,tvs,a11⟩
def Zxf(l:List ByteArray):Value->Mem->List (List Value)->Prop:=λv m' _=>∃a c,v=.slice a l.length c/\rowRd m' a (ZgT l)
theorem ZsC{l}:∀(v:Value)(m':Mem) (css:List (List Value)),Zxf l v m' css->Shape.fits .slice v=true:=λv _ _ ⟨_,_,e,_⟩=>by rw[e];rfl
theorem Zuf(t:E)(m:Mem)(hr:RepE m t):CX Tryz.prog 96 #[t.v] m [] (Zxf t.vars):=by
 apply Zna
 unfold Zin
 intro b m1 aU _
 refine Zae (ZdI t m1 (RepE.mono' hr aU)) λm2 bG=>Zac (λh=>Zaa (mLt aU bG) ?_) (λh=>?_)
 ·have hl:t.light=false:=by simpa using h
  have:t.vars=[]:=by unfold E.vars;rw[hl];rfl
  rw[this]
  exact⟨none,0,rfl,.inl rfl⟩
 ·have hl:t.light=true:=by simpa using h
  have hv:t.vars=t.names []:=by unfold E.vars;rw[hl];rfl
  have h1:(t.names []).length<=1000000:=by
   have h2:=Zgz t []
   have h3:=of_decide_eq_true (show decide (t.nodes.length<=10000)=true from hl)
   simp only[List.length_nil]at h2
   omega
  rw[hv]
  have lS:m2.le (m2.off (Yn (.slice none 0 0))):=⟨λb o v hv=>by rw[Mem.off_at (λhb=>by simp[Yn,Tok.blk]at hb)];exact hv,λb e he=>by rw[Mem.off_k (λhb=>by simp[Yn,Tok.blk]at hb)];exact he⟩
  have key:=ZvI (Zo9 t [] none 0 m2 (.inl rfl) (RepE.mono' hr (mLt aU (mLt bG lS))) h1)
  refine Zao key (λv m' css ⟨_,_,_,e,_⟩=>by rw[e];rfl) ?_
  rintro a n c m3 bX ⟨tvs,a',c',hv',_,dA,_⟩
  simp only[Value.slice.injEq]at hv'
  obtain⟨rfl,rfl,rfl⟩:=hv'
  exact Zop (mLt aU (mLt bG bX)) ⟨_,_,rfl,dA⟩
end Go.Proofs.YtiadlgdcbpnmkaaGreatDoor