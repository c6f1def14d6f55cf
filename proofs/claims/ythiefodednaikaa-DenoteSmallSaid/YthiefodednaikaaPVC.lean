/- Part of the proof: conditions and contracts of functions of this program. No condition of its own. -/
import Derived.Test.YthiefodednaikaaPC13Q
import Derived.Test.YthiefodednaikaaMr
import Derived.Test.YthiefodednaikaaPEnv
set_option linter.unusedVariables false
set_option linter.unusedSimpArgs false
set_option linter.unusedSectionVars false
namespace Go.Proofs.Ythiefodednaikaa
open Go Go.Eng Go.Rx Go.Proofs Go.RowKit
set_option maxRecDepth 100000
theorem Zu3(t:T)(m:Mem)(hr:Rep m t):CX Try.prog 94 #[t.v] m [] (Ret (.bool t.right)):=by
 apply ZpB
 unfold ZkQ
 intro b m1 aW _
 have dU:=hr.mono aW
 refine⟨t.k != 2&&!t.setZ||(t.k != 5&&(t.mn != 0||t.mx != 0)||(decide (t.k < 3)&&decide (0 < t.subs.length))),?_,Zab (λh=>Zac aW ?_) (λh=>?_)⟩
 ·refine Zab (λh1=>?_) (λh1=>?_)
  ·refine⟨t.setZ,Zu2 _ _ _ _ _ _ _ _,?_⟩
   simp only[ZsF]
   (repeat' split) <;> simp_all <;> omega
  ·simp only[ZsF]
   (repeat' split) <;> simp_all <;> omega
 ·simp[Ret,T.right,h]
 ·refine Zab (λh1=>Zac aW ?_) (λh1=>Zab (λh2=>⟨t.setZ,Zu2 _ _ _ _ _ _ _ _,Zac aW ?_⟩) (λh2=>Zab (λh3=>?_) (λh3=>Zab (λh4=>?_) (λh4=>Zab (λh5=>?_) (λh5=>?_)))))
  ·have:t.k=1:=by simpa using h1
   show Value.bool _=Value.bool t.right;rw[T.right,h];simp[this]
  ·have:t.k=2:=by simpa using h2
   show Value.bool _=Value.bool t.right;rw[T.right,h];simp[this]
  ·have:t.k=3:=by simpa using h3
   refine⟨decide (1 < t.subs.length)&&(!t.has 1&&!t.has 3),Zab (λh4=>?_) (λh4=>?_),Zac aW ?_⟩
   ·refine Zan (Zte t 1 m1 dU) λm2 aY=>Zab (λh5=>?_) (λh5=>?_)
    ·refine Zan (Zte t 3 m2 (dU.mono aY)) λm3 bN=>⟨rfl,ZaU ?_⟩
     simp_all <;> (intros;omega)
    ·refine⟨rfl,ZaU ?_⟩
     simp_all <;> (intros;omega)
   ·refine⟨rfl,ZaU ?_⟩
    simp_all <;> (intros;omega)
   ·show Value.bool _=Value.bool t.right;rw[T.right,h];simp[this]
  ·have:t.k=4:=by simpa using h4
   refine⟨decide (1 < t.subs.length)&&!t.has 4,Zab (λh4=>?_) (λh4=>?_),Zac aW ?_⟩
   ·refine Zan (Zte t 4 m1 dU) λm2 aY=>⟨rfl,ZaU ?_⟩
    simp_all <;> (intros;omega)
   ·refine⟨rfl,ZaU ?_⟩
    simp_all <;> (intros;omega)
   ·show Value.bool _=Value.bool t.right;rw[T.right,h];simp[this]
  ·have:t.k=5:=by simpa using h5
   refine⟨t.subs.length == 1&&(Zd7 t.mn t.mx&&!t.has 1),Zab (λh4=>?_) (λh4=>?_),Zac aW ?_⟩
   ·refine Zan (Ztd t.mn t.mx m1) λm2 aY=>Zab (λh5=>?_) (λh5=>?_)
    ·refine Zan (Zte t 1 m2 (dU.mono aY)) λm3 bN=>⟨rfl,ZaU ?_⟩
     have h4':((t.subs.length:Int) == 1)=true:=h4
     have:t.subs.length=1:=by have:=of_decide_eq_true h4';omega
     simp_all <;> (intros;omega)
    ·refine⟨rfl,ZaU ?_⟩
     simp_all <;> (intros;omega)
   ·refine⟨rfl,ZaU ?_⟩
    have h4':((t.subs.length:Int) == 1)=false:=h4
    have:¬t.subs.length=1:=by have:=of_decide_eq_false h4';omega
    simp_all <;> (intros;omega)
   ·show Value.bool _=Value.bool t.right;rw[T.right,h];simp[this]
  ·refine⟨t.k == 6&&t.subs.length == 1,Zab (λh4=>⟨rfl,ZaU ?_⟩) (λh4=>⟨rfl,ZaU ?_⟩),Zac aW ?_⟩
   ·have:(t.k == 6)=true:=h4
    rw[this,Bool.true_and]
    show(decide ((t.subs.length:Int)=1))=decide (t.subs.length=1)
    rw[decide_eq_decide];omega
   ·have:(t.k == 6)=false:=h4
    simp[this]
   ·show Value.bool _=Value.bool t.right;rw[T.right,h]
    have e1:¬t.k=1:=by simpa using h1
    have e2:¬t.k=2:=by simpa using h2
    have e3:¬t.k=3:=by simpa using h3
    have e4:¬t.k=4:=by simpa using h4
    have e5:¬t.k=5:=by simpa using h5
    simp[e1,e2,e3,e4,e5]
theorem Zu4(t:T)(m:Mem)(hr:Rep m t):CX Try.prog 74 #[t.v] m [] (Ret (.bool t.clean)):=by
 apply ZpC
 unfold ZkR
 intro b m1 aW _ b2
 refine Zan (Zhz t m1 (hr.mono aW)) λm2 aY=>Zab (λh=>Zac (mLt aW aY) ?_) (λh=>?_)
 ·have:t.light=false:=by simpa using h
  simp[Ret,T.clean,this]
 have hl:t.light=true:=by simpa using h
 refine Zal (Zjx t m2) (λv m' css h=>by obtain⟨_,rfl,_⟩:=h;rfl) ?_
 rintro g fi ca m3 bN ⟨b3,hv,eN⟩
 obtain⟨rfl,rfl,rfl⟩:=Zjr hv
 have cL:=mLt aW (mLt aY bN)
 refine⟨_,ZgT t m3 b3 eN (hr.mono cL),λy hy=>?_,λ_ css _ m' q=>m3.le m'/\∀x∈t.nodes.take q,x.right=true,⟨Mem.le_refl _,by simp⟩,?_,?_⟩
 ·obtain⟨z,_,rfl⟩:=List.mem_map.1 hy;exact Zqq z
 ·rintro n0 n1 n2 n3 n4 n5 n6 a n7 c cs m4 q cE hq ⟨_,iL⟩ b4
  have hq':(List.map (λz:T=>[z.v]) t.nodes)[(q:Nat)]?=some [Value.agg #[.int .u8 n0,.int .u64 n1,.int .u64 n2,.int .u64 n3,.int .u64 n4,.int .i64 n5,.int .i64 n6,.slice a n7 c]]:=hq
  rw[List.getElem?_map]at hq'
  obtain⟨z,hz,nI⟩:=Option.map_eq_some_iff.1 hq'
  have qN:z.v=Value.agg #[.int .u8 n0,.int .u64 n1,.int .u64 n2,.int .u64 n3,.int .u64 n4,.int .i64 n5,.int .i64 n6,.slice a n7 c]:=by simpa using nI
  have qO:Rep m4 z:=(ZsH (hr.mono cL) (List.mem_of_getElem? hz)).mono cE
  have eQ:=Zu3 z m4 qO
  rw[qN]at eQ
  refine Zan eQ λm5 cN=>Zab (λh=>⟨rfl,Zac (mLt cL (mLt cE cN)) ?_⟩) (λh=>⟨rfl,mLt cE cN,λx hx=>?_⟩)
  ·have pU:z.right=false:=by simpa using h
   have:t.nodes.all T.right=false:=by
    rw[List.all_eq_false];exact⟨z,List.mem_of_getElem? hz,by simp[pU]⟩
   simp[Ret,T.clean,this]
  ·rw[List.take_add_one,hz]at hx
   rcases List.mem_append.1 hx with hx|hx
   ·exact iL x hx
   ·simp at hx;rw[hx];simpa using h
 ·rintro cs m4 cE ⟨_,iL⟩
  refine Zac (mLt cL cE) ?_
  rw[List.length_map,List.take_length]at iL
  have:t.nodes.all T.right=true:=List.all_eq_true.2 iL
  simp[Ret,T.clean,this,hl]
theorem ZwI(t:T)(m:Mem)(hr:Rep m t):CX Try.prog 78 #[t.v] m [] (Ret (.int .i64 t.size)):=by
 apply ZqJ
 unfold ZmR
 intro b m1 aW _
 refine Zan (Zhz t m1 (hr.mono aW)) λm2 aY=>Zab (λh=>Zac (mLt aW aY) ?_) (λh=>?_)
 ·have:t.light=false:=by simpa using h
  simp[Ret,T.size,this]
 have hl:t.light=true:=by simpa using h
 have uA:t.nodes.length<=10000:=of_decide_eq_true hl
 intro b2
 refine Zal (Zjx t m2) (λv m' css h=>by obtain⟨_,rfl,_⟩:=h;rfl) ?_
 rintro g fi ca m3 bN ⟨b3,hv,eN⟩
 obtain⟨rfl,rfl,rfl⟩:=Zjr hv
 have cL:=mLt aW (mLt aY bN)
 refine⟨_,ZgT t m3 b3 eN (hr.mono cL),λy hy=>?_,λ_ css _ m' q=>css=[[.int .i64 q]]/\q<=t.nodes.length,⟨rfl,by omega⟩,?_,?_⟩
 ·obtain⟨z,_,rfl⟩:=List.mem_map.1 hy;exact Zqq z
 ·rintro n0 n1 n2 n3 n4 n5 n6 a n7 c cs m4 q cE hq ⟨cV,_⟩
  obtain rfl:cs=[.int .i64 q]:=by simpa using cV
  have bB:q < t.nodes.length:=by
   have:=(List.getElem?_eq_some_iff.1 (show(List.map (λz:T=>[z.v]) t.nodes)[(q:Nat)]?=some _ from hq)).1
   simpa using this
  have hw:IntKind.i64.wrap (intOf (Value.int .i64 (q:Int))+1)=(q:Int)+1:=Zao (n:=(q:Int)+1) (by omega) (by omega)
  refine Zah rfl (Zaa rfl ?_)
  simp only[hw]
  exact⟨by trivial,by simp,by omega⟩
 ·rintro cs m4 cE ⟨cV,iL⟩
  obtain rfl:cs=[.int .i64 t.nodes.length]:=by simpa using cV
  refine Zah rfl (Zac (mLt cL cE) ?_)
  simp[Ret,T.size,hl]
theorem Ztf(t:T)(m:Mem)(hr:Rep m t):CX Try.prog 80 #[t.v] m [] (Ret (.int .i64 t.groups)):=by
 apply ZnD
 unfold ZiI
 intro b m1 aW _
 refine Zan (Zhz t m1 (hr.mono aW)) λm2 aY=>Zab (λh=>Zac (mLt aW aY) ?_) (λh=>?_)
 ·have:t.light=false:=by simpa using h
  simp[Ret,T.groups,this]
 have hl:t.light=true:=by simpa using h
 have uA:t.nodes.length<=10000:=of_decide_eq_true hl
 intro b2
 refine Zal (Zjx t m2) (λv m' css h=>by obtain⟨_,rfl,_⟩:=h;rfl) ?_
 rintro g fi ca m3 bN ⟨b3,hv,eN⟩
 obtain⟨rfl,rfl,rfl⟩:=Zjr hv
 have cL:=mLt aW (mLt aY bN)
 have fL:∀q,(t.nodes.take q).countP (λx=>x.k == 6)<=10000:=λq=>by
  have h1:=List.countP_le_length (p:=λx:T=>x.k == 6) (l:=t.nodes.take q)
  have h2:(t.nodes.take q).length<=t.nodes.length:=List.length_take_le' _ _
  omega
 refine⟨_,ZgT t m3 b3 eN (hr.mono cL),λy hy=>?_,λ_ css _ m' q=>css=[[.int .i64 ((t.nodes.take q).countP λx=>x.k == 6:Nat)]]/\q<=t.nodes.length,⟨rfl,by omega⟩,?_,?_⟩
 ·obtain⟨z,_,rfl⟩:=List.mem_map.1 hy;exact Zqq z
 ·rintro n0 n1 n2 n3 n4 n5 n6 a n7 c cs m4 q cE hq ⟨cV,_⟩ b4
  obtain rfl:cs=_:=by simpa using cV
  have hq':(List.map (λz:T=>[z.v]) t.nodes)[(q:Nat)]?=some [Value.agg #[.int .u8 n0,.int .u64 n1,.int .u64 n2,.int .u64 n3,.int .u64 n4,.int .i64 n5,.int .i64 n6,.slice a n7 c]]:=hq
  rw[List.getElem?_map]at hq'
  obtain⟨z,hz,nI⟩:=Option.map_eq_some_iff.1 hq'
  have hk:z.k=n0:=by
   have:z.v=Value.agg #[.int .u8 n0,.int .u64 n1,.int .u64 n2,.int .u64 n3,.int .u64 n4,.int .i64 n5,.int .i64 n6,.slice a n7 c]:=by simpa using nI
   simp[T.v]at this;exact this.1
  have bB:=(List.getElem?_eq_some_iff.1 hz).1
  have dZ:(t.nodes.take (q+1)).countP (λx=>x.k == 6)=(t.nodes.take q).countP (λx=>x.k == 6)+(if z.k == 6 then 1 else 0):=by
   rw[List.take_add_one,hz,List.countP_append];simp[List.countP_cons]
  refine Zab (λh=>?_) (λh=>?_)
  ·have hw:IntKind.i64.wrap (intOf (Value.int .i64 ((t.nodes.take q).countP λx=>x.k == 6:Nat))+1)=(((t.nodes.take q).countP λx=>x.k == 6:Nat):Int)+1:=Zao (n:=(((t.nodes.take q).countP λx=>x.k == 6:Nat):Int)+1) (by have:=fL q;omega) (by have:=fL q;omega)
   refine Zah rfl (Zaa rfl ?_)
   simp only[hw]
   refine⟨by trivial,?_,by omega⟩
   rw[dZ,hk]
   have:(n0 == 6)=true:=h
   simp[this]
  ·refine⟨rfl,?_,by omega⟩
   rw[dZ,hk]
   have:(n0 == 6)=false:=h
   simp[this]
 ·rintro cs m4 cE ⟨cV,iL⟩
  obtain rfl:cs=_:=by simpa using cV
  refine Zah rfl (Zac (mLt cL cE) ?_)
  simp[Ret,T.groups,hl]
theorem ZiK(t:T)(m:Mem)(hr:Rep m t)(hl:t.nodes.length<=10000):CX Try.prog 95 #[t.v] m [] (Ret (.int .i64 t.pos)):=by
 apply ZiG
 unfold Zfl
 intro b m1 aW _
 have fD:=Zo6 t
 have fC:=ZsI t
 refine Zab (λhk=>?_) (λhk=>?_)
 all_goals
  have hk':(if t.k=2 then(1:Int)else 0)=1/\t.k=2\/(if t.k=2 then(1:Int)else 0)=0/\t.k≠2:=by split <;> simp_all
  refine⟨λxs _ _ m'' q=>∃i:Nat,i<=t.subs.length/\xs=[.int .i64 ((if t.k=2 then 1 else 0)+ZfL (t.subs.take i)),.int .i64 i]/\m1.le m''/\q=t.subs.length - i,⟨t.subs.length,0,by omega,by simp_all [ZfL],Mem.le_refl _,by omega⟩,?_⟩
  rintro n n1 m2 q aY ⟨i,hi,gF,_,hq⟩
  have eS:=ZkG (t.subs.take i)
  have dS:=Zrs (t.subs.take i)
  have eN:(t.subs.take i).length<=i:=List.length_take_le _ _
  clear hk'
  generalize hc:(if t.k=2 then(1:Int)else 0)=c at *
  have uB:0<=c/\c<=1:=by rw[<-hc];split <;> omega
  simp only[List.cons.injEq,Value.int.injEq,true_and,and_true]at gF
  obtain⟨rfl,rfl⟩:=gF
  refine Zab (λbB=>?_) (λcK=>?_)
  ·have aX:i < t.subs.length:=by simpa using bB
   obtain⟨x,hx⟩:∃x,t.subs[i]?=some x:=⟨_,List.getElem?_eq_getElem aX⟩
   have cD:x∈t.subs:=List.mem_of_getElem? hx
   have bW:=ZfU cD
   have sE:=Zit cD
   obtain⟨_,h0|⟨b1,o1,ha,dV⟩⟩:=Zev hr
   ·rw[h0]at aX;simp at aX
   obtain⟨ik,fU⟩:=(dV.mono ((mLt aW aY))).get hx
   have r6:=Znu x
   refine⟨b1,o1,ha,⟨by omega,by omega⟩,_,_,_,_,_,_,_,_,ik,λb2=>Zaa rfl ?_⟩
   refine ZaC (ZiK x m2 fU (by omega)) λm3 bN=>⟨rfl,t.subs.length - (i+1),by omega,i+1,by omega,?_,mLt aY bN,rfl⟩
   rw[Zao (by omega) (by omega),Zao (by omega) (by omega),Zo5 hx,Int.add_assoc]
   rfl
  ·have hi':i=t.subs.length:=by
    have:¬((i:Int) < (t.subs.length:Int)):=by simpa using cK
    omega
   subst hi'
   rw[List.take_length]at eS dS ⊢
   have hF:=Zrr t.mn t.mx
   have qP:0<=(c+ZfL t.subs)*ZvF t.mn t.mx/\(c+ZfL t.subs)*ZvF t.mn t.mx<=100020001*10001:=by
    constructor
    ·exact Int.mul_nonneg (by omega) hF.1
    ·exact Int.mul_le_mul (by omega) hF.2 hF.1 (by omega)
   refine Zab (λh5=>Zab (λhx=>Zac (mLt aW aY) ?_) (λhx=>Zac (mLt aW aY) ?_)) (λh5=>Zac (mLt aW aY) ?_)
   ·have e1:t.k=5:=by simpa using h5
    have e2:t.mx=-1:=by simpa using hx
    have hF':ZvF t.mn t.mx=Znt (ZnV (ZnV t.mn 0) 1) 10001:=by simp[ZvF,e2]
    show Value.int .i64 (Znt (IntKind.i64.wrap ((c+ZfL t.subs)*Znt (ZnV (ZnV t.mn 0) 1) 10001)) 10001)=Value.int .i64 t.pos
    rw[<-hF',Zao (by omega) (by omega),fC,ZtP,if_pos e1];rfl
   ·have e1:t.k=5:=by simpa using h5
    have e2:¬t.mx=-1:=by simpa using hx
    have hF':ZvF t.mn t.mx=Znt (ZnV (ZnV t.mn 0) t.mx) 10001:=by simp[ZvF,e2]
    show Value.int .i64 (Znt (IntKind.i64.wrap ((c+ZfL t.subs)*Znt (ZnV (ZnV t.mn 0) t.mx) 10001)) 10001)=Value.int .i64 t.pos
    rw[<-hF',Zao (by omega) (by omega),fC,ZtP,if_pos e1];rfl
   ·have e1:¬t.k=5:=by simpa using h5
    show Value.int .i64 (Znt (c+ZfL t.subs) 10001)=Value.int .i64 t.pos
    rw[fC,ZtP,if_neg e1]
termination_by SizeOf.sizeOf t
decreasing_by all_goals exact bW
theorem ZnF(t:T)(m:Mem)(hr:Rep m t):CX Try.prog 79 #[t.v] m [] (Ret (.int .i64 t.positions)):=by
 apply ZiH
 unfold Zfm
 intro b m1 aW _
 refine Zan (Zhz t m1 (hr.mono aW)) λm2 aY=>Zab (λh=>Zac (mLt aW aY) ?_) (λh=>?_)
 ·have:t.light=false:=by simpa using h
  simp[Ret,T.positions,this]
 have hl:t.light=true:=by simpa using h
 refine ZaC (ZiK t m2 (hr.mono (mLt aW aY)) (of_decide_eq_true hl)) λm3 bN=>Zac (mLt aW (mLt aY bN)) ?_
 simp[Ret,T.positions,hl]
def Zzq(bg en:Bool)(t:T):Value:=.agg #[.bool bg,.bool en,.int .u8 t.k,.int .u64 t.s0,.int .u64 t.s1,.int .u64 t.s2,.int .u64 t.s3,.int .i64 t.mn,.int .i64 t.mx,.slice t.a t.subs.length t.c]
theorem Zn9(bg en:Bool)(t:T)(m:Mem)(hr:Rep m t):CX Try.prog 34 #[Zzq bg en t] m [] (Ret (.int .i64 t.check)):=by
 apply ZpE
 unfold ZkS
 intro b m1 aW _
 refine Zan (Zu4 t m1 (hr.mono aW)) λm2 aY=>Zab (λh=>Zac (mLt aW aY) ?_) (λh=>?_)
 ·have:t.clean=false:=by simpa using h
  simp[Ret,T.check,this]
 have fG:=mLt aW aY
 have h1:¬t.clean=false:=by simpa using h
 refine ZaC (ZwI t m2 (hr.mono fG)) λm3 bN=>Zab (λh=>Zac (mLt fG bN) ?_) (λh=>?_)
 ·have h2:t.size > 120:=by simpa using h
  show Value.int .i64 81=Value.int .i64 t.check
  rw[T.check,if_neg h1,if_pos h2]
 have h2:¬t.size > 120:=by simpa using h
 have eV:=mLt fG bN
 refine ZaC (ZnF t m3 (hr.mono eV)) λm4 cE=>Zab (λh=>Zac (mLt eV cE) ?_) (λh=>?_)
 ·have h3:t.positions > 400:=by simpa using h
  show Value.int .i64 82=Value.int .i64 t.check
  rw[T.check,if_neg h1,if_neg h2,if_pos h3]
 have h3:¬t.positions > 400:=by simpa using h
 have hC:=mLt eV cE
 refine ZaC (Ztf t m4 (hr.mono hC)) λm5 cN=>Zab (λh=>Zac (mLt hC cN) ?_) (λh=>Zac (mLt hC cN) ?_)
 ·have h4:t.groups > 9:=by simpa using h
  show Value.int .i64 83=Value.int .i64 t.check
  rw[T.check,if_neg h1,if_neg h2,if_neg h3,if_pos h4]
 ·have h4:¬t.groups > 9:=by simpa using h
  show Value.int .i64 0=Value.int .i64 t.check
  rw[T.check,if_neg h1,if_neg h2,if_neg h3,if_neg h4]
theorem ZnG(l l':List T)(a a':Option Addr)(c c':Nat)(m:Mem)(hl:l.length<=1000000000000000)(hr:l=[]\/∃b o,a=some ⟨b,o,none⟩/\RepAt m b o l)(hr':l'=[]\/∃b o,a'=some ⟨b,o,none⟩/\RepAt m b o l')
  (hp:∀x∈l,∀y∈l',∀m',m.le m'->Rep m' x->Rep m' y->CX Try.prog 91 #[x.v,y.v] m' [] (Ret (.bool (x.same y)))):
  CX Try.prog 114 #[.slice a l.length c,.slice a' l'.length c',.func (.func 91) #[] #[]] m [] (Ret (.bool (Zfi l l'))):=by
 apply ZaQ a l.length c a' l'.length c' _ [] []
 unfold ZaE
 refine Zab (λh=>Zac (Mem.le_refl _) ?_) (λh=>?_)
 ·have:¬l.length=l'.length:=by
   intro e;rw[e]at h;simp at h
  show Value.bool false=_
  rw[Zlo this]
 have gT:l.length=l'.length:=by
  have h2:((l.length:Int) == (l'.length:Int))=true:=by simpa using h
  have:=of_decide_eq_true h2;omega
 refine⟨λxs _ _ m'' q=>∃i:Nat,i<=l.length/\xs=[.int .i64 i]/\Zfi (l.take i) (l'.take i)=true/\m.le m''/\q=l.length - i,⟨l.length,0,by omega,rfl,by simp[Zfi],Mem.le_refl _,by omega⟩,?_⟩
 rintro n m' q hm ⟨i,hi,hn,fQ,cL,hq⟩
 obtain rfl:n=i:=by simpa using hn
 refine Zab (λbB=>?_) (λcK=>?_)
 ·have aX:i < l.length:=by simpa using bB
  obtain⟨x,hx⟩:∃x,l[i]?=some x:=⟨_,List.getElem?_eq_getElem aX⟩
  obtain⟨y,hy⟩:∃y,l'[i]?=some y:=⟨_,List.getElem?_eq_getElem (by omega)⟩
  have ii:x∈l:=List.mem_of_getElem? hx
  have uC:y∈l':=List.mem_of_getElem? hy
  rcases hr with h0|⟨b1,o1,ha,dV⟩
  ·rw[h0]at aX;simp at aX
  rcases hr' with h0|⟨b2,o2,ha',lK⟩
  ·rw[h0]at gT;simp at gT;rw[gT]at aX;simp at aX
  obtain⟨ik,fU⟩:=(dV.mono hm).get hx
  obtain⟨jP,nK⟩:=(lK.mono hm).get hy
  refine⟨b1,o1,ha,⟨by omega,by omega⟩,_,_,_,_,_,_,_,_,ik,λb3=>Zaa rfl ⟨b2,o2,ha',⟨by omega,by omega⟩,_,_,_,_,_,_,_,_,jP,λb4=>Zaa rfl ?_⟩⟩
  refine Zan (hp x ii y uC m' hm fU nK) λm1 aW=>Zab (λkL=>?_) (λkL=>?_)
  ·have hf:x.same y=false:=by simpa using kL
   refine Zac (mLt hm aW) ?_
   show Value.bool false=_
   rw[Zn1 hx hy hf]
  ·have hf:x.same y=true:=by simpa using kL
   refine⟨l.length - (i+1),by omega,i+1,by omega,by rw[Zao (by omega) (by omega)];rfl,Zjs hx hy fQ hf trivial,mLt hm aW,rfl⟩
 ·have hi':i=l.length:=by
   have:¬((i:Int) < (l.length:Int)):=by simpa using cK
   omega
  subst hi'
  refine Zac hm ?_
  rw[List.take_length,gT,List.take_length]at fQ
  show Value.bool true=_
  rw[fQ]
theorem Zt4(t u:T)(m:Mem)(hr:Rep m t)(hu:Rep m u):CX Try.prog 91 #[t.v,u.v] m [] (Ret (.bool (t.same u))):=by
 apply ZqL
 unfold ZmS
 intro b m1 aW _ b' m2 aY _
 have hm:=mLt aW aY
 refine⟨t.same u,?_,Zac hm rfl⟩
 rw[ZtQ]
 refine Zab (λh1=>⟨_,Zu2 _ _ _ _ _ _ _ _,Zab (λh2=>Zab (λh3=>Zab (λh4=>?_) (λh4=>⟨rfl,ZaU ?_⟩)) (λh3=>⟨rfl,ZaU ?_⟩)) (λh2=>⟨rfl,ZaU ?_⟩)⟩) (λh1=>⟨rfl,ZaU ?_⟩)
 ·have hr':=Zev (hr.mono hm)
  have hu':=Zev (hu.mono hm)
  refine Zan (ZnG t.subs u.subs t.a u.a t.c u.c m2 hr'.1 hr'.2 hu'.2 λx hx y hy m' _ ik jP=>?_) λm3 bN=>⟨rfl,ZaU ?_⟩
  ·have bW:=ZfU hx
   exact Zt4 x y m' ik jP
  ·rw[h1,h2,h3,h4];rfl
 ·rw[h1,h2,h3,h4];rfl
 ·rw[h1,h2,h3];rfl
 ·rw[h1,h2];rfl
 ·rw[h1];rfl
termination_by SizeOf.sizeOf t
decreasing_by exact bW
theorem ZwJ(t u:T)(m:Mem)(hr:Rep m t)(hu:Rep m u):CX Try.prog 83 #[t.v,u.v] m [] (Ret (.bool (t.light&&(u.light&&t.same u)))):=by
 apply ZqM
 unfold ZmT
 intro b m1 aW _ b' m2 aY _
 have hm:=mLt aW aY
 refine⟨t.light&&(u.light&&t.same u),?_,Zac hm rfl⟩
 refine Zan (Zhz t m2 (hr.mono hm)) λm3 bN=>Zab (λh1=>?_) (λh1=>⟨rfl,ZaU ?_⟩)
 ·refine Zan (Zhz u m3 (hu.mono (mLt hm bN))) λm4 cE=>Zab (λh2=>?_) (λh2=>?_)
  ·have cN:=mLt (mLt hm bN) cE
   refine Zan (Zt4 t u m4 (hr.mono cN) (hu.mono cN)) λm6 dA=>⟨rfl,ZaU ?_⟩
   rw[h1,h2];rfl
  ·refine⟨rfl,ZaU ?_⟩
   rw[h1,h2];rfl
 ·rw[h1];rfl
end Go.Proofs.Ythiefodednaikaa
namespace Go.Proofs.Ythiefodednaikaa
open Go Go.Eng Go.Rx Go.Proofs Go.RowKit
theorem Zys{b:Bool}{p q:Prop}(h:b=true)(k:p):br b p q:=by subst h;exact k
theorem ZbV{b:Bool}{p q:Prop}(h:b=false)(k:q):br b p q:=by subst h;exact k
theorem Zgj{α:Type}{l:List α}{k:Nat}(h:k < l.length):∃x,l[k]?=some x:=⟨l[k],List.getElem?_eq_getElem h⟩
theorem ZwK{m:Mem}{a:Option Addr}{ts:List T}(h:rowRd m a (Rx.ZcD ts)){i:Nat}{t:T}(hi:ts[i]?=some t):∃b o,a=some ⟨b,o,none⟩/\m.reads b (o+i*8) t.cs:=by
 rcases h with h|⟨b,o,ha,h⟩
 ·have hl:(Rx.ZcD ts).length=0:=by rw[h];rfl
  rw[Zcd]at hl
  have:=(List.getElem?_eq_some_iff.1 hi).1
  omega
 ·refine⟨b,o,ha,λj v hj=>?_⟩
  rw[Nat.add_assoc]
  refine h (i*8+j) v ?_
  have e:ts=ts.take i++(t::ts.drop (i+1)):=by
   have bB:=(List.getElem?_eq_some_iff.1 hi).1
   have h2:=List.drop_eq_getElem_cons bB
   rw[(List.getElem?_eq_some_iff.1 hi).2]at h2
   rw[<-h2,List.take_append_drop]
  have bB:=(List.getElem?_eq_some_iff.1 hi).1
  have qQ:=(List.getElem?_eq_some_iff.1 hj).1
  rw[e,Zdi,List.getElem?_append_right (by rw[Zcd,List.length_take,Nat.min_eq_left (by omega)];omega),Zcd,List.length_take,Nat.min_eq_left (by omega),show i*8+j - i*8=j by omega]
  have e2:Rx.ZcD (t::ts.drop (i+1))=t.cs++Rx.ZcD (ts.drop (i+1)):=by simp[Rx.ZcD]
  rw[e2,List.getElem?_append_left qQ];exact hj
def Apart(mb:Mem)(a:Option Addr):Prop:=a=none\/∃b,a=some ⟨b,0,none⟩/\mb.free b
theorem Apart.tok{mb M:Mem}{a a':Option Addr}{n c:Nat}(h:Apart mb a)(hm:mb.le M)(ht:TokFact M a a' n c):Apart mb a':=by
 rcases ht.2 with h1|⟨b,o,h1,h2⟩
 ·exact .inl h1
 rcases h2 with h2|⟨h3,h2⟩
 ·rw[<-h2];exact h
 ·subst h3
  refine .inr ⟨b,h1,λo=>?_⟩
  cases hb:mb b o with
  | none=>rfl
  | some v=>have:=hm _ _ _ hb;rw[h2 o]at this;cases this
theorem Apart.base{mb m:Mem}{a:Option Addr}{ts:List T}(h:Apart mb a)(bU:rowRd m a (Rx.ZcD ts))(hn:ts≠[]):∃b,a=some ⟨b,0,none⟩/\mb.free b/\∃o u,m b o=some u:=by
 obtain⟨t,r,rfl⟩:∃t r,ts=t::r:=by cases ts with
  | nil=>exact absurd rfl hn
  | cons t r=>exact⟨t,r,rfl⟩
 obtain⟨b',o,ha,cJ⟩:=ZwK bU (i:=0) (t:=t) rfl
 rcases h with h|⟨b,hb,hf⟩
 ·rw[h]at ha;cases ha
 ·rw[hb]at ha;cases ha
  exact⟨b',hb,hf,_,_,cJ 0 (.int .u8 t.k) rfl⟩
end Go.Proofs.Ythiefodednaikaa
namespace Go.Proofs.Ythiefodednaikaa
open Go Go.Eng Go.Proofs Go.RowKit
open Go.Value (int slice agg bool string tuple func)
open Go.IntKind (u8 u64 i64)
set_option maxRecDepth 100000
noncomputable def ZeG:Env:={ EB with
 dr:=(λi=>bif Nat.beq i 1 then[⟨0,[3],[],none,[],[]⟩,⟨1,[],[],none,[0],[]⟩,⟨2,[4],[],none,[],[]⟩,⟨3,[4],[],none,[2],[]⟩,⟨4,[],[],none,[0,1,2,3],[]⟩,⟨5,[4],[],none,[],[]⟩,⟨6,[5],[],none,[],[]⟩,⟨7,[],[],none,[0,1,2,3,4,5,6],[1]⟩,⟨8,[6],[6],none,[0,1,2,3,4,5,6,7],[]⟩]else[])
 frzNew:=[3,4,5] }
def ZbD(aU:Option Addr)(aT aV:Nat)(aC:Bool)(aN aO aP aQ aR aS:Int)(aK:Option Addr)(aL aM:Nat)(bD bE bF bG bH bI bJ bK bL:Int)(m:Mem)(R:RT):Prop:=
 ∀(b:Nat)(m':Mem),Mem.le m m'->Mem.reads m' b 0 [slice aU aT aV,bool aC]->∀(b:Nat)(ab:Mem),Mem.le m' ab->Mem.reads ab b 0 [int u8 0,int u64 aN,int u64 aO,int u64 aP,int u64 aQ,
 int i64 aR,int i64 aS,slice aK aL aM]->∀(b:Nat)(m':Mem),Mem.le ab m'->Mem.reads m' b 0 [int u64 bD,int u64 bE,int u64 bF,int u64 bG,int u64 bH,int u64 bI,int u64 bJ,int u64
 bK,int u64 bL]->∀(b:Nat),∃(f:Fx),∃(R_1:RT),R_1=f 1 [agg (Array.mk [slice aU aT aV,bool aC])] m'/\CX Try.prog 84 (Array.mk [agg (Array.mk [slice aU aT aV,bool aC])]) m' [] R_1
 /\ Zaq (Shape.agg [Shape.fn,Shape.fn,Shape.fn,Shape.fn,Shape.fn,Shape.fn,Shape.fn]) R_1/\∀(g:Nat)(fi ca:List Value)(al:Nat)(am an:List Value)(ao:Nat)(ap aq:List Value)(ar:Nat) (au av:List
 Value) (aw:Nat) (ax ay:List Value) (az:Nat) (a0 a1:List Value) (a2:Nat) (a3 a4:List Value) (aa:Mem),Mem.le m' aa->R_1 (agg (Array.mk [func (Fn.func g) (Array.mk fi) (Array.mk ca),func (Fn.func al)
 (Array.mk am) (Array.mk an),func (Fn.func ao) (Array.mk ap) (Array.mk aq),func (Fn.func ar) (Array.mk au) (Array.mk av),func (Fn.func aw) (Array.mk ax) (Array.mk ay),func (Fn.func az) (Array.mk a0) (Array.mk a1),
 func (Fn.func a2) (Array.mk a3) (Array.mk a4)])) aa []->Zaf (0:Int) 7/\∃(R_2:RT),R_2=f 7 (List.append (List.append fi [agg (Array.mk [int u8 0,int u64 aN,int u64 aO,int u64 aP,int u64 aQ,int
 i64 aR,int i64 aS,slice aK aL aM]),agg (Array.mk [int u64 bD,int u64 bE,int u64 bF,int u64 bG,int u64 bH,int u64 bI,int u64 bJ,int u64 bK,int u64 bL])]) ca) aa/\CX Try.prog g
 (Array.mk (List.append (List.append fi [agg (Array.mk [int u8 0,int u64 aN,int u64 aO,int u64 aP,int u64 aQ,int i64 aR,int i64 aS,slice aK aL aM]),agg (Array.mk [int u64 bD,int u64 bE,
 int u64 bF,int u64 bG,int u64 bH,int u64 bI,int u64 bJ,int u64 bK,int u64 bL])]) ca)) aa [] R_2/\Zaq (Shape.agg [Shape.int u64,Shape.int u64,Shape.int u64,Shape.int u64,Shape.int u64,Shape.int
 u64,Shape.int u64,Shape.int u64,Shape.int u64]) R_2/\∀(n ad ae af ag ah ai aj ak:Int)(ac:Mem),Mem.le aa ac->R_2 (agg (Array.mk [int u64 n,int u64 ad,int u64 ae,int u64 af,int u64 ag,int u64 ah,int u64
 ai,int u64 aj,int u64 ak])) ac []->∀(M:Mem),Mem.le m' M->Mem.le aa M->Mem.le ac M->∃(m'':Mem),Mem.le m m''/\Mem.le m'' M/\R (agg (Array.mk [int u64 n,int u64 ad,int u64 ae,int u64 af,int u64 ag,int
 u64 ah,int u64 ai,int u64 aj,int u64 ak])) m'' []
theorem Zd9(aU:Option Addr)(aT aV:Nat)(aC:Bool)(aN aO aP aQ aR aS:Int)(aK:Option Addr)(aL aM:Nat)(bD bE bF bG bH bI bJ bK bL:Int)(m:Mem)(R:RT)(h:ZbD aU aT aV aC aN aO aP aQ aR aS aK aL aM bD bE bF bG bH bI bJ bK bL m R):CX Try.prog 53 #[.agg #[.slice aU aT aV,.bool aC],.agg #[.int .u8 0,.int .u64 aN,.int .u64 aO,.int .u64 aP,.int .u64 aQ,.int .i64 aR,.int .i64 aS,.slice aK aL aM],.agg #[.int .u64 bD,.int .u64 bE,.int .u64 bF,.int .u64 bG,.int .u64 bH,.int .u64 bI,.int .u64 bJ,.int .u64 bK,.int .u64 bL]] m [] R:=
 Zae (E:=ZeG) Zax mix Try.func53 [.v (.agg #[.slice aU aT aV,.bool aC]),.v (.agg #[.int .u8 0,.int .u64 aN,.int .u64 aO,.int .u64 aP,.int .u64 aQ,.int .i64 aR,.int .i64 aS,.slice aK aL aM]),.v (.agg #[.int .u64 bD,.int .u64 bE,.int .u64 bF,.int .u64 bG,.int .u64 bH,.int .u64 bI,.int .u64 bJ,.int .u64 bK,.int .u64 bL])] [] (by kernel_rfl) (Eq.mp (by kernel_rfl) h)
noncomputable def ZeH:Env:={ EB with
 dr:=(λi=>bif Nat.beq i 1 then[⟨0,[3],[],none,[],[]⟩,⟨1,[],[],none,[0],[]⟩,⟨2,[4],[],none,[],[]⟩,⟨3,[4],[],none,[2],[]⟩,⟨4,[],[],none,[0,1,2,3],[]⟩,⟨5,[4],[],none,[],[]⟩,⟨6,[5],[],none,[],[]⟩,⟨7,[],[],none,[0,1,2,3,4,5,6],[1]⟩,⟨8,[6],[6],none,[0,1,2,3,4,5,6,7],[]⟩]else[])
 frzNew:=[3,4,5] }
def ZbE(aU:Option Addr)(aT aV:Nat)(aC:Bool)(aN aO aP aQ aR aS:Int)(aK:Option Addr)(aL aM:Nat)(bD bE bF bG bH bI bJ bK bL:Int)(m:Mem)(R:RT):Prop:=
 ∀(b:Nat)(m':Mem),Mem.le m m'->Mem.reads m' b 0 [slice aU aT aV,bool aC]->∀(b:Nat)(ab:Mem),Mem.le m' ab->Mem.reads ab b 0 [int u8 1,int u64 aN,int u64 aO,int u64 aP,int u64 aQ,
 int i64 aR,int i64 aS,slice aK aL aM]->∀(b:Nat)(m':Mem),Mem.le ab m'->Mem.reads m' b 0 [int u64 bD,int u64 bE,int u64 bF,int u64 bG,int u64 bH,int u64 bI,int u64 bJ,int u64
 bK,int u64 bL]->∀(b:Nat),∃(f:Fx),∃(R_1:RT),R_1=f 1 [agg (Array.mk [slice aU aT aV,bool aC])] m'/\CX Try.prog 84 (Array.mk [agg (Array.mk [slice aU aT aV,bool aC])]) m' [] R_1
 /\ Zaq (Shape.agg [Shape.fn,Shape.fn,Shape.fn,Shape.fn,Shape.fn,Shape.fn,Shape.fn]) R_1/\∀(g:Nat)(fi ca:List Value)(af:Nat)(ac ad:List Value)(ao:Nat)(ap aq:List Value)(ar:Nat) (au av:List
 Value) (aw:Nat) (ax ay:List Value) (az:Nat) (a0 a1:List Value) (a2:Nat) (a3 a4:List Value) (aa:Mem),Mem.le m' aa->R_1 (agg (Array.mk [func (Fn.func g) (Array.mk fi) (Array.mk ca),func (Fn.func af)
 (Array.mk ac) (Array.mk ad),func (Fn.func ao) (Array.mk ap) (Array.mk aq),func (Fn.func ar) (Array.mk au) (Array.mk av),func (Fn.func aw) (Array.mk ax) (Array.mk ay),func (Fn.func az) (Array.mk a0) (Array.mk a1),
 func (Fn.func a2) (Array.mk a3) (Array.mk a4)])) aa []->Zaf (1:Int) 7/\∃(R_2:RT),R_2=f 7 (List.append (List.append ac [agg (Array.mk [int u8 1,int u64 aN,int u64 aO,int u64 aP,int u64 aQ,int
 i64 aR,int i64 aS,slice aK aL aM]),agg (Array.mk [int u64 bD,int u64 bE,int u64 bF,int u64 bG,int u64 bH,int u64 bI,int u64 bJ,int u64 bK,int u64 bL])]) ad) aa/\CX Try.prog af
 (Array.mk (List.append (List.append ac [agg (Array.mk [int u8 1,int u64 aN,int u64 aO,int u64 aP,int u64 aQ,int i64 aR,int i64 aS,slice aK aL aM]),agg (Array.mk [int u64 bD,int u64 bE,
 int u64 bF,int u64 bG,int u64 bH,int u64 bI,int u64 bJ,int u64 bK,int u64 bL])]) ad)) aa [] R_2/\Zaq (Shape.agg [Shape.int u64,Shape.int u64,Shape.int u64,Shape.int u64,Shape.int u64,Shape.int
 u64,Shape.int u64,Shape.int u64,Shape.int u64]) R_2/\∀(n ag ah ai aj ak al am an:Int)(ae:Mem),Mem.le aa ae->R_2 (agg (Array.mk [int u64 n,int u64 ag,int u64 ah,int u64 ai,int u64 aj,int u64 ak,int u64
 al,int u64 am,int u64 an])) ae []->∀(M:Mem),Mem.le m' M->Mem.le aa M->Mem.le ae M->∃(m'':Mem),Mem.le m m''/\Mem.le m'' M/\R (agg (Array.mk [int u64 n,int u64 ag,int u64 ah,int u64 ai,int u64 aj,int
 u64 ak,int u64 al,int u64 am,int u64 an])) m'' []
theorem Zea(aU:Option Addr)(aT aV:Nat)(aC:Bool)(aN aO aP aQ aR aS:Int)(aK:Option Addr)(aL aM:Nat)(bD bE bF bG bH bI bJ bK bL:Int)(m:Mem)(R:RT)(h:ZbE aU aT aV aC aN aO aP aQ aR aS aK aL aM bD bE bF bG bH bI bJ bK bL m R):CX Try.prog 53 #[.agg #[.slice aU aT aV,.bool aC],.agg #[.int .u8 1,.int .u64 aN,.int .u64 aO,.int .u64 aP,.int .u64 aQ,.int .i64 aR,.int .i64 aS,.slice aK aL aM],.agg #[.int .u64 bD,.int .u64 bE,.int .u64 bF,.int .u64 bG,.int .u64 bH,.int .u64 bI,.int .u64 bJ,.int .u64 bK,.int .u64 bL]] m [] R:=
 Zae (E:=ZeH) Zax mix Try.func53 [.v (.agg #[.slice aU aT aV,.bool aC]),.v (.agg #[.int .u8 1,.int .u64 aN,.int .u64 aO,.int .u64 aP,.int .u64 aQ,.int .i64 aR,.int .i64 aS,.slice aK aL aM]),.v (.agg #[.int .u64 bD,.int .u64 bE,.int .u64 bF,.int .u64 bG,.int .u64 bH,.int .u64 bI,.int .u64 bJ,.int .u64 bK,.int .u64 bL])] [] (by kernel_rfl) (Eq.mp (by kernel_rfl) h)
noncomputable def ZeI:Env:={ EB with
 dr:=(λi=>bif Nat.beq i 1 then[⟨0,[3],[],none,[],[]⟩,⟨1,[],[],none,[0],[]⟩,⟨2,[4],[],none,[],[]⟩,⟨3,[4],[],none,[2],[]⟩,⟨4,[],[],none,[0,1,2,3],[]⟩,⟨5,[4],[],none,[],[]⟩,⟨6,[5],[],none,[],[]⟩,⟨7,[],[],none,[0,1,2,3,4,5,6],[1]⟩,⟨8,[6],[6],none,[0,1,2,3,4,5,6,7],[]⟩]else[])
 frzNew:=[3,4,5] }
def ZbF(aU:Option Addr)(aT aV:Nat)(aC:Bool)(aN aO aP aQ aR aS:Int)(aK:Option Addr)(aL aM:Nat)(bD bE bF bG bH bI bJ bK bL:Int)(m:Mem)(R:RT):Prop:=
 ∀(b:Nat)(m':Mem),Mem.le m m'->Mem.reads m' b 0 [slice aU aT aV,bool aC]->∀(b:Nat)(ab:Mem),Mem.le m' ab->Mem.reads ab b 0 [int u8 2,int u64 aN,int u64 aO,int u64 aP,int u64 aQ,
 int i64 aR,int i64 aS,slice aK aL aM]->∀(b:Nat)(m':Mem),Mem.le ab m'->Mem.reads m' b 0 [int u64 bD,int u64 bE,int u64 bF,int u64 bG,int u64 bH,int u64 bI,int u64 bJ,int u64
 bK,int u64 bL]->∀(b:Nat),∃(f:Fx),∃(R_1:RT),R_1=f 1 [agg (Array.mk [slice aU aT aV,bool aC])] m'/\CX Try.prog 84 (Array.mk [agg (Array.mk [slice aU aT aV,bool aC])]) m' [] R_1
 /\ Zaq (Shape.agg [Shape.fn,Shape.fn,Shape.fn,Shape.fn,Shape.fn,Shape.fn,Shape.fn]) R_1/\∀(g:Nat)(fi ca:List Value)(ao:Nat)(ap aq:List Value)(af:Nat)(ac ad:List Value)(ar:Nat) (au av:List
 Value) (aw:Nat) (ax ay:List Value) (az:Nat) (a0 a1:List Value) (a2:Nat) (a3 a4:List Value) (aa:Mem),Mem.le m' aa->R_1 (agg (Array.mk [func (Fn.func g) (Array.mk fi) (Array.mk ca),func (Fn.func ao)
 (Array.mk ap) (Array.mk aq),func (Fn.func af) (Array.mk ac) (Array.mk ad),func (Fn.func ar) (Array.mk au) (Array.mk av),func (Fn.func aw) (Array.mk ax) (Array.mk ay),func (Fn.func az) (Array.mk a0) (Array.mk a1),
 func (Fn.func a2) (Array.mk a3) (Array.mk a4)])) aa []->Zaf (2:Int) 7/\∃(R_2:RT),R_2=f 7 (List.append (List.append ac [agg (Array.mk [int u8 2,int u64 aN,int u64 aO,int u64 aP,int u64 aQ,int
 i64 aR,int i64 aS,slice aK aL aM]),agg (Array.mk [int u64 bD,int u64 bE,int u64 bF,int u64 bG,int u64 bH,int u64 bI,int u64 bJ,int u64 bK,int u64 bL])]) ad) aa/\CX Try.prog af
 (Array.mk (List.append (List.append ac [agg (Array.mk [int u8 2,int u64 aN,int u64 aO,int u64 aP,int u64 aQ,int i64 aR,int i64 aS,slice aK aL aM]),agg (Array.mk [int u64 bD,int u64 bE,
 int u64 bF,int u64 bG,int u64 bH,int u64 bI,int u64 bJ,int u64 bK,int u64 bL])]) ad)) aa [] R_2/\Zaq (Shape.agg [Shape.int u64,Shape.int u64,Shape.int u64,Shape.int u64,Shape.int u64,Shape.int
 u64,Shape.int u64,Shape.int u64,Shape.int u64]) R_2/\∀(n ag ah ai aj ak al am an:Int)(ae:Mem),Mem.le aa ae->R_2 (agg (Array.mk [int u64 n,int u64 ag,int u64 ah,int u64 ai,int u64 aj,int u64 ak,int u64
 al,int u64 am,int u64 an])) ae []->∀(M:Mem),Mem.le m' M->Mem.le aa M->Mem.le ae M->∃(m'':Mem),Mem.le m m''/\Mem.le m'' M/\R (agg (Array.mk [int u64 n,int u64 ag,int u64 ah,int u64 ai,int u64 aj,int
 u64 ak,int u64 al,int u64 am,int u64 an])) m'' []
theorem Zeb(aU:Option Addr)(aT aV:Nat)(aC:Bool)(aN aO aP aQ aR aS:Int)(aK:Option Addr)(aL aM:Nat)(bD bE bF bG bH bI bJ bK bL:Int)(m:Mem)(R:RT)(h:ZbF aU aT aV aC aN aO aP aQ aR aS aK aL aM bD bE bF bG bH bI bJ bK bL m R):CX Try.prog 53 #[.agg #[.slice aU aT aV,.bool aC],.agg #[.int .u8 2,.int .u64 aN,.int .u64 aO,.int .u64 aP,.int .u64 aQ,.int .i64 aR,.int .i64 aS,.slice aK aL aM],.agg #[.int .u64 bD,.int .u64 bE,.int .u64 bF,.int .u64 bG,.int .u64 bH,.int .u64 bI,.int .u64 bJ,.int .u64 bK,.int .u64 bL]] m [] R:=
 Zae (E:=ZeI) Zax mix Try.func53 [.v (.agg #[.slice aU aT aV,.bool aC]),.v (.agg #[.int .u8 2,.int .u64 aN,.int .u64 aO,.int .u64 aP,.int .u64 aQ,.int .i64 aR,.int .i64 aS,.slice aK aL aM]),.v (.agg #[.int .u64 bD,.int .u64 bE,.int .u64 bF,.int .u64 bG,.int .u64 bH,.int .u64 bI,.int .u64 bJ,.int .u64 bK,.int .u64 bL])] [] (by kernel_rfl) (Eq.mp (by kernel_rfl) h)
noncomputable def ZeJ:Env:={ EB with
 dr:=(λi=>bif Nat.beq i 1 then[⟨0,[3],[],none,[],[]⟩,⟨1,[],[],none,[0],[]⟩,⟨2,[4],[],none,[],[]⟩,⟨3,[4],[],none,[2],[]⟩,⟨4,[],[],none,[0,1,2,3],[]⟩,⟨5,[4],[],none,[],[]⟩,⟨6,[5],[],none,[],[]⟩,⟨7,[],[],none,[0,1,2,3,4,5,6],[1]⟩,⟨8,[6],[6],none,[0,1,2,3,4,5,6,7],[]⟩]else[])
 frzNew:=[3,4,5] }
def ZbG(aU:Option Addr)(aT aV:Nat)(aC:Bool)(aN aO aP aQ aR aS:Int)(aK:Option Addr)(aL aM:Nat)(bD bE bF bG bH bI bJ bK bL:Int)(m:Mem)(R:RT):Prop:=
 ∀(b:Nat)(m':Mem),Mem.le m m'->Mem.reads m' b 0 [slice aU aT aV,bool aC]->∀(b:Nat)(ab:Mem),Mem.le m' ab->Mem.reads ab b 0 [int u8 3,int u64 aN,int u64 aO,int u64 aP,int u64 aQ,
 int i64 aR,int i64 aS,slice aK aL aM]->∀(b:Nat)(m':Mem),Mem.le ab m'->Mem.reads m' b 0 [int u64 bD,int u64 bE,int u64 bF,int u64 bG,int u64 bH,int u64 bI,int u64 bJ,int u64
 bK,int u64 bL]->∀(b:Nat),∃(f:Fx),∃(R_1:RT),R_1=f 1 [agg (Array.mk [slice aU aT aV,bool aC])] m'/\CX Try.prog 84 (Array.mk [agg (Array.mk [slice aU aT aV,bool aC])]) m' [] R_1
 /\ Zaq (Shape.agg [Shape.fn,Shape.fn,Shape.fn,Shape.fn,Shape.fn,Shape.fn,Shape.fn]) R_1/\∀(g:Nat)(fi ca:List Value)(ao:Nat)(ap aq:List Value)(ar:Nat)(au av:List Value)(af:Nat) (ac ad:List
 Value) (aw:Nat) (ax ay:List Value) (az:Nat) (a0 a1:List Value) (a2:Nat) (a3 a4:List Value) (aa:Mem),Mem.le m' aa->R_1 (agg (Array.mk [func (Fn.func g) (Array.mk fi) (Array.mk ca),func (Fn.func ao)
 (Array.mk ap) (Array.mk aq),func (Fn.func ar) (Array.mk au) (Array.mk av),func (Fn.func af) (Array.mk ac) (Array.mk ad),func (Fn.func aw) (Array.mk ax) (Array.mk ay),func (Fn.func az) (Array.mk a0) (Array.mk a1),
 func (Fn.func a2) (Array.mk a3) (Array.mk a4)])) aa []->Zaf (3:Int) 7/\∃(R_2:RT),R_2=f 7 (List.append (List.append ac [agg (Array.mk [int u8 3,int u64 aN,int u64 aO,int u64 aP,int u64 aQ,int
 i64 aR,int i64 aS,slice aK aL aM]),agg (Array.mk [int u64 bD,int u64 bE,int u64 bF,int u64 bG,int u64 bH,int u64 bI,int u64 bJ,int u64 bK,int u64 bL])]) ad) aa/\CX Try.prog af
 (Array.mk (List.append (List.append ac [agg (Array.mk [int u8 3,int u64 aN,int u64 aO,int u64 aP,int u64 aQ,int i64 aR,int i64 aS,slice aK aL aM]),agg (Array.mk [int u64 bD,int u64 bE,
 int u64 bF,int u64 bG,int u64 bH,int u64 bI,int u64 bJ,int u64 bK,int u64 bL])]) ad)) aa [] R_2/\Zaq (Shape.agg [Shape.int u64,Shape.int u64,Shape.int u64,Shape.int u64,Shape.int u64,Shape.int
 u64,Shape.int u64,Shape.int u64,Shape.int u64]) R_2/\∀(n ag ah ai aj ak al am an:Int)(ae:Mem),Mem.le aa ae->R_2 (agg (Array.mk [int u64 n,int u64 ag,int u64 ah,int u64 ai,int u64 aj,int u64 ak,int u64
 al,int u64 am,int u64 an])) ae []->∀(M:Mem),Mem.le m' M->Mem.le aa M->Mem.le ae M->∃(m'':Mem),Mem.le m m''/\Mem.le m'' M/\R (agg (Array.mk [int u64 n,int u64 ag,int u64 ah,int u64 ai,int u64 aj,int
 u64 ak,int u64 al,int u64 am,int u64 an])) m'' []
theorem Zec(aU:Option Addr)(aT aV:Nat)(aC:Bool)(aN aO aP aQ aR aS:Int)(aK:Option Addr)(aL aM:Nat)(bD bE bF bG bH bI bJ bK bL:Int)(m:Mem)(R:RT)(h:ZbG aU aT aV aC aN aO aP aQ aR aS aK aL aM bD bE bF bG bH bI bJ bK bL m R):CX Try.prog 53 #[.agg #[.slice aU aT aV,.bool aC],.agg #[.int .u8 3,.int .u64 aN,.int .u64 aO,.int .u64 aP,.int .u64 aQ,.int .i64 aR,.int .i64 aS,.slice aK aL aM],.agg #[.int .u64 bD,.int .u64 bE,.int .u64 bF,.int .u64 bG,.int .u64 bH,.int .u64 bI,.int .u64 bJ,.int .u64 bK,.int .u64 bL]] m [] R:=
 Zae (E:=ZeJ) Zax mix Try.func53 [.v (.agg #[.slice aU aT aV,.bool aC]),.v (.agg #[.int .u8 3,.int .u64 aN,.int .u64 aO,.int .u64 aP,.int .u64 aQ,.int .i64 aR,.int .i64 aS,.slice aK aL aM]),.v (.agg #[.int .u64 bD,.int .u64 bE,.int .u64 bF,.int .u64 bG,.int .u64 bH,.int .u64 bI,.int .u64 bJ,.int .u64 bK,.int .u64 bL])] [] (by kernel_rfl) (Eq.mp (by kernel_rfl) h)
noncomputable def ZeK:Env:={ EB with
 dr:=(λi=>bif Nat.beq i 1 then[⟨0,[3],[],none,[],[]⟩,⟨1,[],[],none,[0],[]⟩,⟨2,[4],[],none,[],[]⟩,⟨3,[4],[],none,[2],[]⟩,⟨4,[],[],none,[0,1,2,3],[]⟩,⟨5,[4],[],none,[],[]⟩,⟨6,[5],[],none,[],[]⟩,⟨7,[],[],none,[0,1,2,3,4,5,6],[1]⟩,⟨8,[6],[6],none,[0,1,2,3,4,5,6,7],[]⟩]else[])
 frzNew:=[3,4,5] }
def ZbH(aU:Option Addr)(aT aV:Nat)(aC:Bool)(aN aO aP aQ aR aS:Int)(aK:Option Addr)(aL aM:Nat)(bD bE bF bG bH bI bJ bK bL:Int)(m:Mem)(R:RT):Prop:=
 ∀(b:Nat)(m':Mem),Mem.le m m'->Mem.reads m' b 0 [slice aU aT aV,bool aC]->∀(b:Nat)(ab:Mem),Mem.le m' ab->Mem.reads ab b 0 [int u8 4,int u64 aN,int u64 aO,int u64 aP,int u64 aQ,
 int i64 aR,int i64 aS,slice aK aL aM]->∀(b:Nat)(m':Mem),Mem.le ab m'->Mem.reads m' b 0 [int u64 bD,int u64 bE,int u64 bF,int u64 bG,int u64 bH,int u64 bI,int u64 bJ,int u64
 bK,int u64 bL]->∀(b:Nat),∃(f:Fx),∃(R_1:RT),R_1=f 1 [agg (Array.mk [slice aU aT aV,bool aC])] m'/\CX Try.prog 84 (Array.mk [agg (Array.mk [slice aU aT aV,bool aC])]) m' [] R_1
 /\ Zaq (Shape.agg [Shape.fn,Shape.fn,Shape.fn,Shape.fn,Shape.fn,Shape.fn,Shape.fn]) R_1/\∀(g:Nat)(fi ca:List Value)(ao:Nat)(ap aq:List Value)(ar:Nat)(au av:List Value)(aw:Nat) (ax ay:List
 Value) (af:Nat) (ac ad:List Value) (az:Nat) (a0 a1:List Value) (a2:Nat) (a3 a4:List Value) (aa:Mem),Mem.le m' aa->R_1 (agg (Array.mk [func (Fn.func g) (Array.mk fi) (Array.mk ca),func (Fn.func ao)
 (Array.mk ap) (Array.mk aq),func (Fn.func ar) (Array.mk au) (Array.mk av),func (Fn.func aw) (Array.mk ax) (Array.mk ay),func (Fn.func af) (Array.mk ac) (Array.mk ad),func (Fn.func az) (Array.mk a0) (Array.mk a1),
 func (Fn.func a2) (Array.mk a3) (Array.mk a4)])) aa []->Zaf (4:Int) 7/\∃(R_2:RT),R_2=f 7 (List.append (List.append ac [agg (Array.mk [int u8 4,int u64 aN,int u64 aO,int u64 aP,int u64 aQ,int
 i64 aR,int i64 aS,slice aK aL aM]),agg (Array.mk [int u64 bD,int u64 bE,int u64 bF,int u64 bG,int u64 bH,int u64 bI,int u64 bJ,int u64 bK,int u64 bL])]) ad) aa/\CX Try.prog af
 (Array.mk (List.append (List.append ac [agg (Array.mk [int u8 4,int u64 aN,int u64 aO,int u64 aP,int u64 aQ,int i64 aR,int i64 aS,slice aK aL aM]),agg (Array.mk [int u64 bD,int u64 bE,
 int u64 bF,int u64 bG,int u64 bH,int u64 bI,int u64 bJ,int u64 bK,int u64 bL])]) ad)) aa [] R_2/\Zaq (Shape.agg [Shape.int u64,Shape.int u64,Shape.int u64,Shape.int u64,Shape.int u64,Shape.int
 u64,Shape.int u64,Shape.int u64,Shape.int u64]) R_2/\∀(n ag ah ai aj ak al am an:Int)(ae:Mem),Mem.le aa ae->R_2 (agg (Array.mk [int u64 n,int u64 ag,int u64 ah,int u64 ai,int u64 aj,int u64 ak,int u64
 al,int u64 am,int u64 an])) ae []->∀(M:Mem),Mem.le m' M->Mem.le aa M->Mem.le ae M->∃(m'':Mem),Mem.le m m''/\Mem.le m'' M/\R (agg (Array.mk [int u64 n,int u64 ag,int u64 ah,int u64 ai,int u64 aj,int
 u64 ak,int u64 al,int u64 am,int u64 an])) m'' []
theorem Zed(aU:Option Addr)(aT aV:Nat)(aC:Bool)(aN aO aP aQ aR aS:Int)(aK:Option Addr)(aL aM:Nat)(bD bE bF bG bH bI bJ bK bL:Int)(m:Mem)(R:RT)(h:ZbH aU aT aV aC aN aO aP aQ aR aS aK aL aM bD bE bF bG bH bI bJ bK bL m R):CX Try.prog 53 #[.agg #[.slice aU aT aV,.bool aC],.agg #[.int .u8 4,.int .u64 aN,.int .u64 aO,.int .u64 aP,.int .u64 aQ,.int .i64 aR,.int .i64 aS,.slice aK aL aM],.agg #[.int .u64 bD,.int .u64 bE,.int .u64 bF,.int .u64 bG,.int .u64 bH,.int .u64 bI,.int .u64 bJ,.int .u64 bK,.int .u64 bL]] m [] R:=
 Zae (E:=ZeK) Zax mix Try.func53 [.v (.agg #[.slice aU aT aV,.bool aC]),.v (.agg #[.int .u8 4,.int .u64 aN,.int .u64 aO,.int .u64 aP,.int .u64 aQ,.int .i64 aR,.int .i64 aS,.slice aK aL aM]),.v (.agg #[.int .u64 bD,.int .u64 bE,.int .u64 bF,.int .u64 bG,.int .u64 bH,.int .u64 bI,.int .u64 bJ,.int .u64 bK,.int .u64 bL])] [] (by kernel_rfl) (Eq.mp (by kernel_rfl) h)
noncomputable def ZeL:Env:={ EB with
 dr:=(λi=>bif Nat.beq i 1 then[⟨0,[3],[],none,[],[]⟩,⟨1,[],[],none,[0],[]⟩,⟨2,[4],[],none,[],[]⟩,⟨3,[4],[],none,[2],[]⟩,⟨4,[],[],none,[0,1,2,3],[]⟩,⟨5,[4],[],none,[],[]⟩,⟨6,[5],[],none,[],[]⟩,⟨7,[],[],none,[0,1,2,3,4,5,6],[1]⟩,⟨8,[6],[6],none,[0,1,2,3,4,5,6,7],[]⟩]else[])
 frzNew:=[3,4,5] }
def ZbI(aU:Option Addr)(aT aV:Nat)(aC:Bool)(aN aO aP aQ aR aS:Int)(aK:Option Addr)(aL aM:Nat)(bD bE bF bG bH bI bJ bK bL:Int)(m:Mem)(R:RT):Prop:=
 ∀(b:Nat)(m':Mem),Mem.le m m'->Mem.reads m' b 0 [slice aU aT aV,bool aC]->∀(b:Nat)(ab:Mem),Mem.le m' ab->Mem.reads ab b 0 [int u8 5,int u64 aN,int u64 aO,int u64 aP,int u64 aQ,
 int i64 aR,int i64 aS,slice aK aL aM]->∀(b:Nat)(m':Mem),Mem.le ab m'->Mem.reads m' b 0 [int u64 bD,int u64 bE,int u64 bF,int u64 bG,int u64 bH,int u64 bI,int u64 bJ,int u64
 bK,int u64 bL]->∀(b:Nat),∃(f:Fx),∃(R_1:RT),R_1=f 1 [agg (Array.mk [slice aU aT aV,bool aC])] m'/\CX Try.prog 84 (Array.mk [agg (Array.mk [slice aU aT aV,bool aC])]) m' [] R_1
 /\ Zaq (Shape.agg [Shape.fn,Shape.fn,Shape.fn,Shape.fn,Shape.fn,Shape.fn,Shape.fn]) R_1/\∀(g:Nat)(fi ca:List Value)(ao:Nat)(ap aq:List Value)(ar:Nat)(au av:List Value)(aw:Nat) (ax ay:List
 Value) (az:Nat) (a0 a1:List Value) (af:Nat) (ac ad:List Value) (a2:Nat) (a3 a4:List Value) (aa:Mem),Mem.le m' aa->R_1 (agg (Array.mk [func (Fn.func g) (Array.mk fi) (Array.mk ca),func (Fn.func ao)
 (Array.mk ap) (Array.mk aq),func (Fn.func ar) (Array.mk au) (Array.mk av),func (Fn.func aw) (Array.mk ax) (Array.mk ay),func (Fn.func az) (Array.mk a0) (Array.mk a1),func (Fn.func af) (Array.mk ac) (Array.mk ad),
 func (Fn.func a2) (Array.mk a3) (Array.mk a4)])) aa []->Zaf (5:Int) 7/\∃(R_2:RT),R_2=f 7 (List.append (List.append ac [agg (Array.mk [int u8 5,int u64 aN,int u64 aO,int u64 aP,int u64 aQ,int
 i64 aR,int i64 aS,slice aK aL aM]),agg (Array.mk [int u64 bD,int u64 bE,int u64 bF,int u64 bG,int u64 bH,int u64 bI,int u64 bJ,int u64 bK,int u64 bL])]) ad) aa/\CX Try.prog af
 (Array.mk (List.append (List.append ac [agg (Array.mk [int u8 5,int u64 aN,int u64 aO,int u64 aP,int u64 aQ,int i64 aR,int i64 aS,slice aK aL aM]),agg (Array.mk [int u64 bD,int u64 bE,
 int u64 bF,int u64 bG,int u64 bH,int u64 bI,int u64 bJ,int u64 bK,int u64 bL])]) ad)) aa [] R_2/\Zaq (Shape.agg [Shape.int u64,Shape.int u64,Shape.int u64,Shape.int u64,Shape.int u64,Shape.int
 u64,Shape.int u64,Shape.int u64,Shape.int u64]) R_2/\∀(n ag ah ai aj ak al am an:Int)(ae:Mem),Mem.le aa ae->R_2 (agg (Array.mk [int u64 n,int u64 ag,int u64 ah,int u64 ai,int u64 aj,int u64 ak,int u64
 al,int u64 am,int u64 an])) ae []->∀(M:Mem),Mem.le m' M->Mem.le aa M->Mem.le ae M->∃(m'':Mem),Mem.le m m''/\Mem.le m'' M/\R (agg (Array.mk [int u64 n,int u64 ag,int u64 ah,int u64 ai,int u64 aj,int
 u64 ak,int u64 al,int u64 am,int u64 an])) m'' []
theorem Zee(aU:Option Addr)(aT aV:Nat)(aC:Bool)(aN aO aP aQ aR aS:Int)(aK:Option Addr)(aL aM:Nat)(bD bE bF bG bH bI bJ bK bL:Int)(m:Mem)(R:RT)(h:ZbI aU aT aV aC aN aO aP aQ aR aS aK aL aM bD bE bF bG bH bI bJ bK bL m R):CX Try.prog 53 #[.agg #[.slice aU aT aV,.bool aC],.agg #[.int .u8 5,.int .u64 aN,.int .u64 aO,.int .u64 aP,.int .u64 aQ,.int .i64 aR,.int .i64 aS,.slice aK aL aM],.agg #[.int .u64 bD,.int .u64 bE,.int .u64 bF,.int .u64 bG,.int .u64 bH,.int .u64 bI,.int .u64 bJ,.int .u64 bK,.int .u64 bL]] m [] R:=
 Zae (E:=ZeL) Zax mix Try.func53 [.v (.agg #[.slice aU aT aV,.bool aC]),.v (.agg #[.int .u8 5,.int .u64 aN,.int .u64 aO,.int .u64 aP,.int .u64 aQ,.int .i64 aR,.int .i64 aS,.slice aK aL aM]),.v (.agg #[.int .u64 bD,.int .u64 bE,.int .u64 bF,.int .u64 bG,.int .u64 bH,.int .u64 bI,.int .u64 bJ,.int .u64 bK,.int .u64 bL])] [] (by kernel_rfl) (Eq.mp (by kernel_rfl) h)
noncomputable def ZeM:Env:={ EB with
 dr:=(λi=>bif Nat.beq i 1 then[⟨0,[3],[],none,[],[]⟩,⟨1,[],[],none,[0],[]⟩,⟨2,[4],[],none,[],[]⟩,⟨3,[4],[],none,[2],[]⟩,⟨4,[],[],none,[0,1,2,3],[]⟩,⟨5,[4],[],none,[],[]⟩,⟨6,[5],[],none,[],[]⟩,⟨7,[],[],none,[0,1,2,3,4,5,6],[1]⟩,⟨8,[6],[6],none,[0,1,2,3,4,5,6,7],[]⟩]else[])
 frzNew:=[3,4,5] }
def ZbJ(aU:Option Addr)(aT aV:Nat)(aC:Bool)(aN aO aP aQ aR aS:Int)(aK:Option Addr)(aL aM:Nat)(bD bE bF bG bH bI bJ bK bL:Int)(m:Mem)(R:RT):Prop:=
 ∀(b:Nat)(m':Mem),Mem.le m m'->Mem.reads m' b 0 [slice aU aT aV,bool aC]->∀(b:Nat)(ab:Mem),Mem.le m' ab->Mem.reads ab b 0 [int u8 6,int u64 aN,int u64 aO,int u64 aP,int u64 aQ,
 int i64 aR,int i64 aS,slice aK aL aM]->∀(b:Nat)(m':Mem),Mem.le ab m'->Mem.reads m' b 0 [int u64 bD,int u64 bE,int u64 bF,int u64 bG,int u64 bH,int u64 bI,int u64 bJ,int u64
 bK,int u64 bL]->∀(b:Nat),∃(f:Fx),∃(R_1:RT),R_1=f 1 [agg (Array.mk [slice aU aT aV,bool aC])] m'/\CX Try.prog 84 (Array.mk [agg (Array.mk [slice aU aT aV,bool aC])]) m' [] R_1
 /\ Zaq (Shape.agg [Shape.fn,Shape.fn,Shape.fn,Shape.fn,Shape.fn,Shape.fn,Shape.fn]) R_1/\∀(g:Nat)(fi ca:List Value)(ao:Nat)(ap aq:List Value)(ar:Nat)(au av:List Value)(aw:Nat) (ax ay:List
 Value) (az:Nat) (a0 a1:List Value) (a2:Nat) (a3 a4:List Value) (af:Nat) (ac ad:List Value) (aa:Mem),Mem.le m' aa->R_1 (agg (Array.mk [func (Fn.func g) (Array.mk fi) (Array.mk ca),func (Fn.func ao)
 (Array.mk ap) (Array.mk aq),func (Fn.func ar) (Array.mk au) (Array.mk av),func (Fn.func aw) (Array.mk ax) (Array.mk ay),func (Fn.func az) (Array.mk a0) (Array.mk a1),func (Fn.func a2) (Array.mk a3) (Array.mk a4),
 func (Fn.func af) (Array.mk ac) (Array.mk ad)])) aa []->Zaf (6:Int) 7/\∃(R_2:RT),R_2=f 7 (List.append (List.append ac [agg (Array.mk [int u8 6,int u64 aN,int u64 aO,int u64 aP,int u64 aQ,int
 i64 aR,int i64 aS,slice aK aL aM]),agg (Array.mk [int u64 bD,int u64 bE,int u64 bF,int u64 bG,int u64 bH,int u64 bI,int u64 bJ,int u64 bK,int u64 bL])]) ad) aa/\CX Try.prog af
 (Array.mk (List.append (List.append ac [agg (Array.mk [int u8 6,int u64 aN,int u64 aO,int u64 aP,int u64 aQ,int i64 aR,int i64 aS,slice aK aL aM]),agg (Array.mk [int u64 bD,int u64 bE,
 int u64 bF,int u64 bG,int u64 bH,int u64 bI,int u64 bJ,int u64 bK,int u64 bL])]) ad)) aa [] R_2/\Zaq (Shape.agg [Shape.int u64,Shape.int u64,Shape.int u64,Shape.int u64,Shape.int u64,Shape.int
 u64,Shape.int u64,Shape.int u64,Shape.int u64]) R_2/\∀(n ag ah ai aj ak al am an:Int)(ae:Mem),Mem.le aa ae->R_2 (agg (Array.mk [int u64 n,int u64 ag,int u64 ah,int u64 ai,int u64 aj,int u64 ak,int u64
 al,int u64 am,int u64 an])) ae []->∀(M:Mem),Mem.le m' M->Mem.le aa M->Mem.le ae M->∃(m'':Mem),Mem.le m m''/\Mem.le m'' M/\R (agg (Array.mk [int u64 n,int u64 ag,int u64 ah,int u64 ai,int u64 aj,int
 u64 ak,int u64 al,int u64 am,int u64 an])) m'' []
theorem Zef(aU:Option Addr)(aT aV:Nat)(aC:Bool)(aN aO aP aQ aR aS:Int)(aK:Option Addr)(aL aM:Nat)(bD bE bF bG bH bI bJ bK bL:Int)(m:Mem)(R:RT)(h:ZbJ aU aT aV aC aN aO aP aQ aR aS aK aL aM bD bE bF bG bH bI bJ bK bL m R):CX Try.prog 53 #[.agg #[.slice aU aT aV,.bool aC],.agg #[.int .u8 6,.int .u64 aN,.int .u64 aO,.int .u64 aP,.int .u64 aQ,.int .i64 aR,.int .i64 aS,.slice aK aL aM],.agg #[.int .u64 bD,.int .u64 bE,.int .u64 bF,.int .u64 bG,.int .u64 bH,.int .u64 bI,.int .u64 bJ,.int .u64 bK,.int .u64 bL]] m [] R:=
 Zae (E:=ZeM) Zax mix Try.func53 [.v (.agg #[.slice aU aT aV,.bool aC]),.v (.agg #[.int .u8 6,.int .u64 aN,.int .u64 aO,.int .u64 aP,.int .u64 aQ,.int .i64 aR,.int .i64 aS,.slice aK aL aM]),.v (.agg #[.int .u64 bD,.int .u64 bE,.int .u64 bF,.int .u64 bG,.int .u64 bH,.int .u64 bI,.int .u64 bJ,.int .u64 bK,.int .u64 bL])] [] (by kernel_rfl) (Eq.mp (by kernel_rfl) h)
end Go.Proofs.Ythiefodednaikaa