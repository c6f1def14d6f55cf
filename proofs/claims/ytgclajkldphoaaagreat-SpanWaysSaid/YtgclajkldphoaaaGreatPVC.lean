/- Part of the proof: conditions and contracts of functions of this program. No condition of its own. -/
import Derived.Test.YtgclajkldphoaaaGreatPC13Q
import Derived.Test.YtgclajkldphoaaaGreatMr
import Derived.Test.YtgclajkldphoaaaGreatPEnv
set_option linter.unusedVariables false
set_option linter.unusedSimpArgs false
set_option linter.unusedSectionVars false
namespace Go.Proofs.YtgclajkldphoaaaGreat
open Go Go.Eng Go.Rx Go.Proofs Go.RowKit
set_option maxRecDepth 100000
theorem Zv9(t:T)(m:Mem)(hr:Rep m t):CX Tryz.prog 51 #[t.v] m [] (Ret (.bool t.right)):=by
 apply Zpv
 unfold Zkf
 intro b m1 bH _
 have dA:=hr.mono bH
 refine⟨t.k != 2&&!t.setZ||(t.k != 5&&(t.mn != 0||t.mx != 0)||(decide (t.k < 3)&&decide (0 < t.subs.length))),?_,Zab (λh=>Zaf bH ?_) (λh=>?_)⟩
 ·refine Zab (λh1=>?_) (λh1=>?_)
  ·refine⟨t.setZ,Zv8 _ _ _ _ _ _ _ _,?_⟩
   simp only[Ztu]
   (repeat' split) <;> simp_all <;> omega
  ·simp only[Ztu]
   (repeat' split) <;> simp_all <;> omega
 ·simp[Ret,T.right,h]
 ·refine Zab (λh1=>Zaf bH ?_) (λh1=>Zab (λh2=>⟨t.setZ,Zv8 _ _ _ _ _ _ _ _,Zaf bH ?_⟩) (λh2=>Zab (λh3=>?_) (λh3=>Zab (λh4=>?_) (λh4=>Zab (λh5=>?_) (λh5=>?_)))))
  ·have:t.k=1:=by simpa using h1
   show Value.bool _=Value.bool t.right;rw[T.right,h];simp[this]
  ·have:t.k=2:=by simpa using h2
   show Value.bool _=Value.bool t.right;rw[T.right,h];simp[this]
  ·have:t.k=3:=by simpa using h3
   refine⟨decide (1 < t.subs.length)&&(!t.has 1&&!t.has 3),Zab (λh4=>?_) (λh4=>?_),Zaf bH ?_⟩
   ·refine Zax (ZtV t 1 m1 dA) λm2 bL=>Zab (λh5=>?_) (λh5=>?_)
    ·refine Zax (ZtV t 3 m2 (dA.mono bL)) λm3 bX=>⟨rfl,Zaq ?_⟩
     simp_all <;> (intros;omega)
    ·refine⟨rfl,Zaq ?_⟩
     simp_all <;> (intros;omega)
   ·refine⟨rfl,Zaq ?_⟩
    simp_all <;> (intros;omega)
   ·show Value.bool _=Value.bool t.right;rw[T.right,h];simp[this]
  ·have:t.k=4:=by simpa using h4
   refine⟨decide (1 < t.subs.length)&&!t.has 4,Zab (λh4=>?_) (λh4=>?_),Zaf bH ?_⟩
   ·refine Zax (ZtV t 4 m1 dA) λm2 bL=>⟨rfl,Zaq ?_⟩
    simp_all <;> (intros;omega)
   ·refine⟨rfl,Zaq ?_⟩
    simp_all <;> (intros;omega)
   ·show Value.bool _=Value.bool t.right;rw[T.right,h];simp[this]
  ·have:t.k=5:=by simpa using h5
   refine⟨t.subs.length == 1&&(Zif t.mn t.mx&&!t.has 1),Zab (λh4=>?_) (λh4=>?_),Zaf bH ?_⟩
   ·refine Zax (ZtU t.mn t.mx m1) λm2 bL=>Zab (λh5=>?_) (λh5=>?_)
    ·refine Zax (ZtV t 1 m2 (dA.mono bL)) λm3 bX=>⟨rfl,Zaq ?_⟩
     have h4':((t.subs.length:Int) == 1)=true:=h4
     have:t.subs.length=1:=by have:=of_decide_eq_true h4';omega
     simp_all <;> (intros;omega)
    ·refine⟨rfl,Zaq ?_⟩
     simp_all <;> (intros;omega)
   ·refine⟨rfl,Zaq ?_⟩
    have h4':((t.subs.length:Int) == 1)=false:=h4
    have:¬t.subs.length=1:=by have:=of_decide_eq_false h4';omega
    simp_all <;> (intros;omega)
   ·show Value.bool _=Value.bool t.right;rw[T.right,h];simp[this]
  ·refine⟨t.k == 6&&t.subs.length == 1,Zab (λh4=>⟨rfl,Zaq ?_⟩) (λh4=>⟨rfl,Zaq ?_⟩),Zaf bH ?_⟩
   ·have:(t.k == 6)=true:=h4
    rw[this,Bool.true_and]
    show(decide ((t.subs.length:Int)=1))=decide (t.subs.length=1)
    rw[decide_eq_decide];omega
   ·have:(t.k == 6)=false:=h4
    simp[this]
   ·show Value.bool _=Value.bool t.right;rw[T.right,h]
    have e1:¬t.k=1:=by simpa using h1
    have e2:¬t.k=2:=by simpa using h2
    have e3:¬t.k=3:=by simpa using h3
    have e4:¬t.k=4:=by simpa using h4
    have e5:¬t.k=5:=by simpa using h5
    simp[e1,e2,e3,e4,e5]
theorem ZnZ(t:T)(m:Mem)(hr:Rep m t):CX Tryz.prog 32 #[t.v] m [] (Ret (.bool t.clean)):=by
 apply Zpw
 unfold Zkg
 intro b m1 bH _ b2
 refine Zax (ZhB t m1 (hr.mono bH)) λm2 bL=>Zab (λh=>Zaf (mLt bH bL) ?_) (λh=>?_)
 ·have:t.light=false:=by simpa using h
  simp[Ret,T.clean,this]
 have hl:t.light=true:=by simpa using h
 refine ZaJ (Zje t m2) (λv m' css h=>by obtain⟨_,rfl,_⟩:=h;rfl) ?_
 rintro g fi ca m3 bX ⟨b3,hv,kC⟩
 obtain⟨rfl,rfl,rfl⟩:=Zi8 hv
 have cF:=mLt bH (mLt bL bX)
 refine⟨_,ZgW t m3 b3 kC (hr.mono cF),λy hy=>?_,λ_ css _ m' q=>m3.le m'/\∀x∈t.nodes.take q,x.right=true,⟨Mem.le_refl _,by simp⟩,?_,?_⟩
 ·obtain⟨z,_,rfl⟩:=List.mem_map.1 hy;exact ZqM z
 ·rintro n0 n1 n2 n3 n4 n5 n6 a n7 c cs m4 q cA hq ⟨_,iM⟩ b4
  have hq':(List.map (λz:T=>[z.v]) t.nodes)[(q:Nat)]?=some [Value.agg #[.int .u8 n0,.int .u64 n1,.int .u64 n2,.int .u64 n3,.int .u64 n4,.int .i64 n5,.int .i64 n6,.slice a n7 c]]:=hq
  rw[List.getElem?_map]at hq'
  obtain⟨z,hz,tj⟩:=Option.map_eq_some_iff.1 hq'
  have wo:z.v=Value.agg #[.int .u8 n0,.int .u64 n1,.int .u64 n2,.int .u64 n3,.int .u64 n4,.int .i64 n5,.int .i64 n6,.slice a n7 c]:=by simpa using tj
  have zW:Rep m4 z:=(Ztx (hr.mono cF) (List.mem_of_getElem? hz)).mono cA
  have iP:=Zv9 z m4 zW
  rw[wo]at iP
  refine Zax iP λm5 c9=>Zab (λh=>⟨rfl,Zaf (mLt cF (mLt cA c9)) ?_⟩) (λh=>⟨rfl,mLt cA c9,λx hx=>?_⟩)
  ·have vE:z.right=false:=by simpa using h
   have:t.nodes.all T.right=false:=by
    rw[List.all_eq_false];exact⟨z,List.mem_of_getElem? hz,by simp[vE]⟩
   simp[Ret,T.clean,this]
  ·rw[List.take_add_one,hz]at hx
   rcases List.mem_append.1 hx with hx|hx
   ·exact iM x hx
   ·simp at hx;rw[hx];simpa using h
 ·rintro cs m4 cA ⟨_,iM⟩
  refine Zaf (mLt cF cA) ?_
  rw[List.length_map,List.take_length]at iM
  have:t.nodes.all T.right=true:=List.all_eq_true.2 iM
  simp[Ret,T.clean,this,hl]
theorem Zyb(t:T)(m:Mem)(hr:Rep m t):CX Tryz.prog 36 #[t.v] m [] (Ret (.int .i64 t.size)):=by
 apply Zq5
 unfold Zmv
 intro b m1 bH _
 refine Zax (ZhB t m1 (hr.mono bH)) λm2 bL=>Zab (λh=>Zaf (mLt bH bL) ?_) (λh=>?_)
 ·have:t.light=false:=by simpa using h
  simp[Ret,T.size,this]
 have hl:t.light=true:=by simpa using h
 have wp:t.nodes.length<=10000:=of_decide_eq_true hl
 intro b2
 refine ZaJ (Zje t m2) (λv m' css h=>by obtain⟨_,rfl,_⟩:=h;rfl) ?_
 rintro g fi ca m3 bX ⟨b3,hv,kC⟩
 obtain⟨rfl,rfl,rfl⟩:=Zi8 hv
 have cF:=mLt bH (mLt bL bX)
 refine⟨_,ZgW t m3 b3 kC (hr.mono cF),λy hy=>?_,λ_ css _ m' q=>css=[[.int .i64 q]]/\q<=t.nodes.length,⟨rfl,by omega⟩,?_,?_⟩
 ·obtain⟨z,_,rfl⟩:=List.mem_map.1 hy;exact ZqM z
 ·rintro n0 n1 n2 n3 n4 n5 n6 a n7 c cs m4 q cA hq ⟨cQ,_⟩
  obtain rfl:cs=[.int .i64 q]:=by simpa using cQ
  have bF:q < t.nodes.length:=by
   have:=(List.getElem?_eq_some_iff.1 (show(List.map (λz:T=>[z.v]) t.nodes)[(q:Nat)]?=some _ from hq)).1
   simpa using this
  have hw:IntKind.i64.wrap (intOf (Value.int .i64 (q:Int))+1)=(q:Int)+1:=ZaN (n:=(q:Int)+1) (by omega) (by omega)
  refine Zar rfl (Zaa rfl ?_)
  simp only[hw]
  exact⟨by trivial,by simp,by omega⟩
 ·rintro cs m4 cA ⟨cQ,iM⟩
  obtain rfl:cs=[.int .i64 t.nodes.length]:=by simpa using cQ
  refine Zar rfl (Zaf (mLt cF cA) ?_)
  simp[Ret,T.size,hl]
theorem Zlo(t:T)(m:Mem)(hr:Rep m t):CX Tryz.prog 11 #[t.v] m [] (Ret (.int .i64 t.groups)):=by
 apply Znh
 unfold Zit
 intro b m1 bH _
 refine Zax (ZhB t m1 (hr.mono bH)) λm2 bL=>Zab (λh=>Zaf (mLt bH bL) ?_) (λh=>?_)
 ·have:t.light=false:=by simpa using h
  simp[Ret,T.groups,this]
 have hl:t.light=true:=by simpa using h
 have wp:t.nodes.length<=10000:=of_decide_eq_true hl
 intro b2
 refine ZaJ (Zje t m2) (λv m' css h=>by obtain⟨_,rfl,_⟩:=h;rfl) ?_
 rintro g fi ca m3 bX ⟨b3,hv,kC⟩
 obtain⟨rfl,rfl,rfl⟩:=Zi8 hv
 have cF:=mLt bH (mLt bL bX)
 have eK:∀q,(t.nodes.take q).countP (λx=>x.k == 6)<=10000:=λq=>by
  have h1:=List.countP_le_length (p:=λx:T=>x.k == 6) (l:=t.nodes.take q)
  have h2:(t.nodes.take q).length<=t.nodes.length:=List.length_take_le' _ _
  omega
 refine⟨_,ZgW t m3 b3 kC (hr.mono cF),λy hy=>?_,λ_ css _ m' q=>css=[[.int .i64 ((t.nodes.take q).countP λx=>x.k == 6:Nat)]]/\q<=t.nodes.length,⟨rfl,by omega⟩,?_,?_⟩
 ·obtain⟨z,_,rfl⟩:=List.mem_map.1 hy;exact ZqM z
 ·rintro n0 n1 n2 n3 n4 n5 n6 a n7 c cs m4 q cA hq ⟨cQ,_⟩ b4
  obtain rfl:cs=_:=by simpa using cQ
  have hq':(List.map (λz:T=>[z.v]) t.nodes)[(q:Nat)]?=some [Value.agg #[.int .u8 n0,.int .u64 n1,.int .u64 n2,.int .u64 n3,.int .u64 n4,.int .i64 n5,.int .i64 n6,.slice a n7 c]]:=hq
  rw[List.getElem?_map]at hq'
  obtain⟨z,hz,tj⟩:=Option.map_eq_some_iff.1 hq'
  have hk:z.k=n0:=by
   have:z.v=Value.agg #[.int .u8 n0,.int .u64 n1,.int .u64 n2,.int .u64 n3,.int .u64 n4,.int .i64 n5,.int .i64 n6,.slice a n7 c]:=by simpa using tj
   simp[T.v]at this;exact this.1
  have bF:=(List.getElem?_eq_some_iff.1 hz).1
  have bY:(t.nodes.take (q+1)).countP (λx=>x.k == 6)=(t.nodes.take q).countP (λx=>x.k == 6)+(if z.k == 6 then 1 else 0):=by
   rw[List.take_add_one,hz,List.countP_append];simp[List.countP_cons]
  refine Zab (λh=>?_) (λh=>?_)
  ·have hw:IntKind.i64.wrap (intOf (Value.int .i64 ((t.nodes.take q).countP λx=>x.k == 6:Nat))+1)=(((t.nodes.take q).countP λx=>x.k == 6:Nat):Int)+1:=ZaN (n:=(((t.nodes.take q).countP λx=>x.k == 6:Nat):Int)+1) (by have:=eK q;omega) (by have:=eK q;omega)
   refine Zar rfl (Zaa rfl ?_)
   simp only[hw]
   refine⟨by trivial,?_,by omega⟩
   rw[bY,hk]
   have:(n0 == 6)=true:=h
   simp[this]
  ·refine⟨rfl,?_,by omega⟩
   rw[bY,hk]
   have:(n0 == 6)=false:=h
   simp[this]
 ·rintro cs m4 cA ⟨cQ,iM⟩
  obtain rfl:cs=_:=by simpa using cQ
  refine Zar rfl (Zaf (mLt cF cA) ?_)
  simp[Ret,T.groups,hl]
theorem Ziv(t:T)(m:Mem)(hr:Rep m t)(hl:t.nodes.length<=10000):CX Tryz.prog 53 #[t.v] m [] (Ret (.int .i64 t.pos)):=by
 apply Zir
 unfold ZfL
 intro b m1 bH _
 have iC:=ZuJ t
 have jM:=ZoR t
 refine Zab (λhk=>?_) (λhk=>?_)
 all_goals
  have hk':(if t.k=2 then(1:Int)else 0)=1/\t.k=2\/(if t.k=2 then(1:Int)else 0)=0/\t.k≠2:=by split <;> simp_all
  refine⟨λxs _ _ m'' q=>∃i:Nat,i<=t.subs.length/\xs=[.int .i64 ((if t.k=2 then 1 else 0)+ZeK (t.subs.take i)),.int .i64 i]/\m1.le m''/\q=t.subs.length - i,⟨t.subs.length,0,by omega,by simp_all [ZeK],Mem.le_refl _,by omega⟩,?_⟩
  rintro n n1 m2 q bL ⟨i,hi,cJ,_,hq⟩
  have dW:=Zhv (t.subs.take i)
  have eA:=ZuI (t.subs.take i)
  have kC:(t.subs.take i).length<=i:=List.length_take_le _ _
  clear hk'
  generalize hc:(if t.k=2 then(1:Int)else 0)=c at *
  have n9:0<=c/\c<=1:=by rw[<-hc];split <;> omega
  simp only[List.cons.injEq,Value.int.injEq,true_and,and_true]at cJ
  obtain⟨rfl,rfl⟩:=cJ
  refine Zab (λbF=>?_) (λcR=>?_)
  ·have bI:i < t.subs.length:=by simpa using bF
   obtain⟨x,hx⟩:∃x,t.subs[i]?=some x:=⟨_,List.getElem?_eq_getElem bI⟩
   have cG:x∈t.subs:=List.mem_of_getElem? hx
   have bW:=Zm8 cG
   have ro:=Ztz cG
   obtain⟨_,h0|⟨b1,o1,ha,gE⟩⟩:=ZdB hr
   ·rw[h0]at bI;simp at bI
   obtain⟨eL,gO⟩:=(gE.mono ((mLt bH bL))).get hx
   have yM:=Zig x
   refine⟨b1,o1,ha,⟨by omega,by omega⟩,_,_,_,_,_,_,_,_,eL,λb2=>Zaa rfl ?_⟩
   refine Zej (Ziv x m2 gO (by omega)) λm3 bX=>⟨rfl,t.subs.length - (i+1),by omega,i+1,by omega,?_,mLt bL bX,rfl⟩
   rw[ZaN (by omega) (by omega),ZaN (by omega) (by omega),Zty hx,Int.add_assoc]
   rfl
  ·have hi':i=t.subs.length:=by
    have:¬((i:Int) < (t.subs.length:Int)):=by simpa using cR
    omega
   subst hi'
   rw[List.take_length]at dW eA ⊢
   have hF:=ZuH t.mn t.mx
   have tn:0<=(c+ZeK t.subs)*ZvJ t.mn t.mx/\(c+ZeK t.subs)*ZvJ t.mn t.mx<=100020001*10001:=by
    constructor
    ·exact Int.mul_nonneg (by omega) hF.1
    ·exact Int.mul_le_mul (by omega) hF.2 hF.1 (by omega)
   refine Zab (λh5=>Zab (λhx=>Zaf (mLt bH bL) ?_) (λhx=>Zaf (mLt bH bL) ?_)) (λh5=>Zaf (mLt bH bL) ?_)
   ·have e1:t.k=5:=by simpa using h5
    have e2:t.mx=-1:=by simpa using hx
    have hF':ZvJ t.mn t.mx=ZqN (Zp2 (Zp2 t.mn 0) 1) 10001:=by simp[ZvJ,e2]
    show Value.int .i64 (ZqN (IntKind.i64.wrap ((c+ZeK t.subs)*ZqN (Zp2 (Zp2 t.mn 0) 1) 10001)) 10001)=Value.int .i64 t.pos
    rw[<-hF',ZaN (by omega) (by omega),jM,ZuF,if_pos e1];rfl
   ·have e1:t.k=5:=by simpa using h5
    have e2:¬t.mx=-1:=by simpa using hx
    have hF':ZvJ t.mn t.mx=ZqN (Zp2 (Zp2 t.mn 0) t.mx) 10001:=by simp[ZvJ,e2]
    show Value.int .i64 (ZqN (IntKind.i64.wrap ((c+ZeK t.subs)*ZqN (Zp2 (Zp2 t.mn 0) t.mx) 10001)) 10001)=Value.int .i64 t.pos
    rw[<-hF',ZaN (by omega) (by omega),jM,ZuF,if_pos e1];rfl
   ·have e1:¬t.k=5:=by simpa using h5
    show Value.int .i64 (ZqN (c+ZeK t.subs) 10001)=Value.int .i64 t.pos
    rw[jM,ZuF,if_neg e1]
termination_by SizeOf.sizeOf t
decreasing_by all_goals exact bW
theorem Znj(t:T)(m:Mem)(hr:Rep m t):CX Tryz.prog 37 #[t.v] m [] (Ret (.int .i64 t.positions)):=by
 apply Zis
 unfold ZfM
 intro b m1 bH _
 refine Zax (ZhB t m1 (hr.mono bH)) λm2 bL=>Zab (λh=>Zaf (mLt bH bL) ?_) (λh=>?_)
 ·have:t.light=false:=by simpa using h
  simp[Ret,T.positions,this]
 have hl:t.light=true:=by simpa using h
 refine Zej (Ziv t m2 (hr.mono (mLt bH bL)) (of_decide_eq_true hl)) λm3 bX=>Zaf (mLt bH (mLt bL bX)) ?_
 simp[Ret,T.positions,hl]
def ZBu(bg en:Bool)(t:T):Value:=.agg #[.bool bg,.bool en,.int .u8 t.k,.int .u64 t.s0,.int .u64 t.s1,.int .u64 t.s2,.int .u64 t.s3,.int .i64 t.mn,.int .i64 t.mx,.slice t.a t.subs.length t.c]
theorem Zn0(bg en:Bool)(t:T)(m:Mem)(hr:Rep m t):CX Tryz.prog 8 #[ZBu bg en t] m [] (Ret (.int .i64 t.check)):=by
 apply Zpy
 unfold Zkh
 intro b m1 bH _
 refine Zax (ZnZ t m1 (hr.mono bH)) λm2 bL=>Zab (λh=>Zaf (mLt bH bL) ?_) (λh=>?_)
 ·have:t.clean=false:=by simpa using h
  simp[Ret,T.check,this]
 have fD:=mLt bH bL
 have h1:¬t.clean=false:=by simpa using h
 refine Zej (Zyb t m2 (hr.mono fD)) λm3 bX=>Zab (λh=>Zaf (mLt fD bX) ?_) (λh=>?_)
 ·have h2:t.size > 120:=by simpa using h
  show Value.int .i64 81=Value.int .i64 t.check
  rw[T.check,if_neg h1,if_pos h2]
 have h2:¬t.size > 120:=by simpa using h
 have eC:=mLt fD bX
 refine Zej (Znj t m3 (hr.mono eC)) λm4 cA=>Zab (λh=>Zaf (mLt eC cA) ?_) (λh=>?_)
 ·have h3:t.positions > 400:=by simpa using h
  show Value.int .i64 82=Value.int .i64 t.check
  rw[T.check,if_neg h1,if_neg h2,if_pos h3]
 have h3:¬t.positions > 400:=by simpa using h
 have iF:=mLt eC cA
 refine Zej (Zlo t m4 (hr.mono iF)) λm5 c9=>Zab (λh=>Zaf (mLt iF c9) ?_) (λh=>Zaf (mLt iF c9) ?_)
 ·have h4:t.groups > 9:=by simpa using h
  show Value.int .i64 83=Value.int .i64 t.check
  rw[T.check,if_neg h1,if_neg h2,if_neg h3,if_pos h4]
 ·have h4:¬t.groups > 9:=by simpa using h
  show Value.int .i64 0=Value.int .i64 t.check
  rw[T.check,if_neg h1,if_neg h2,if_neg h3,if_neg h4]
theorem Znk(l l':List T)(a a':Option Addr)(c c':Nat)(m:Mem)(hl:l.length<=1000000000000000)(hr:l=[]\/∃b o,a=some ⟨b,o,none⟩/\RepAt m b o l)(hr':l'=[]\/∃b o,a'=some ⟨b,o,none⟩/\RepAt m b o l')
  (hp:∀x∈l,∀y∈l',∀m',m.le m'->Rep m' x->Rep m' y->CX Tryz.prog 80 #[x.v,y.v] m' [] (Ret (.bool (x.same y)))):
  CX Tryz.prog 104 #[.slice a l.length c,.slice a' l'.length c',.func (.func 80) #[] #[]] m [] (Ret (.bool (ZhT l l'))):=by
 apply ZaP a l.length c a' l'.length c' _ [] []
 unfold Zau
 refine Zab (λh=>Zaf (Mem.le_refl _) ?_) (λh=>?_)
 ·have:¬l.length=l'.length:=by
   intro e;rw[e]at h;simp at h
  show Value.bool false=_
  rw[ZoQ this]
 have gJ:l.length=l'.length:=by
  have h2:((l.length:Int) == (l'.length:Int))=true:=by simpa using h
  have:=of_decide_eq_true h2;omega
 refine⟨λxs _ _ m'' q=>∃i:Nat,i<=l.length/\xs=[.int .i64 i]/\ZhT (l.take i) (l'.take i)=true/\m.le m''/\q=l.length - i,⟨l.length,0,by omega,rfl,by simp[ZhT],Mem.le_refl _,by omega⟩,?_⟩
 rintro n m' q hm ⟨i,hi,hn,eI,cF,hq⟩
 obtain rfl:n=i:=by simpa using hn
 refine Zab (λbF=>?_) (λcR=>?_)
 ·have bI:i < l.length:=by simpa using bF
  obtain⟨x,hx⟩:∃x,l[i]?=some x:=⟨_,List.getElem?_eq_getElem bI⟩
  obtain⟨y,hy⟩:∃y,l'[i]?=some y:=⟨_,List.getElem?_eq_getElem (by omega)⟩
  have eF:x∈l:=List.mem_of_getElem? hx
  have zX:y∈l':=List.mem_of_getElem? hy
  rcases hr with h0|⟨b1,o1,ha,gE⟩
  ·rw[h0]at bI;simp at bI
  rcases hr' with h0|⟨b2,o2,ha',wq⟩
  ·rw[h0]at gJ;simp at gJ;rw[gJ]at bI;simp at bI
  obtain⟨eL,gO⟩:=(gE.mono hm).get hx
  obtain⟨qF,tq⟩:=(wq.mono hm).get hy
  refine⟨b1,o1,ha,⟨by omega,by omega⟩,_,_,_,_,_,_,_,_,eL,λb3=>Zaa rfl ⟨b2,o2,ha',⟨by omega,by omega⟩,_,_,_,_,_,_,_,_,qF,λb4=>Zaa rfl ?_⟩⟩
  refine Zax (hp x eF y zX m' hm gO tq) λm1 bH=>Zab (λp6=>?_) (λp6=>?_)
  ·have hf:x.same y=false:=by simpa using p6
   refine Zaf (mLt hm bH) ?_
   show Value.bool false=_
   rw[ZrG hx hy hf]
  ·have hf:x.same y=true:=by simpa using p6
   refine⟨l.length - (i+1),by omega,i+1,by omega,by rw[ZaN (by omega) (by omega)];rfl,Zmk hx hy eI hf trivial,mLt hm bH,rfl⟩
 ·have hi':i=l.length:=by
   have:¬((i:Int) < (l.length:Int)):=by simpa using cR
   omega
  subst hi'
  refine Zaf hm ?_
  rw[List.take_length,gJ,List.take_length]at eI
  show Value.bool true=_
  rw[eI]
theorem Zvf(t u:T)(m:Mem)(hr:Rep m t)(hu:Rep m u):CX Tryz.prog 80 #[t.v,u.v] m [] (Ret (.bool (t.same u))):=by
 apply Zq7
 unfold Zmw
 intro b m1 bH _ b' m2 bL _
 have hm:=mLt bH bL
 refine⟨t.same u,?_,Zaf hm rfl⟩
 rw[Zxs]
 refine Zab (λh1=>⟨_,Zv8 _ _ _ _ _ _ _ _,Zab (λh2=>Zab (λh3=>Zab (λh4=>?_) (λh4=>⟨rfl,Zaq ?_⟩)) (λh3=>⟨rfl,Zaq ?_⟩)) (λh2=>⟨rfl,Zaq ?_⟩)⟩) (λh1=>⟨rfl,Zaq ?_⟩)
 ·have hr':=ZdB (hr.mono hm)
  have hu':=ZdB (hu.mono hm)
  refine Zax (Znk t.subs u.subs t.a u.a t.c u.c m2 hr'.1 hr'.2 hu'.2 λx hx y hy m' _ eL qF=>?_) λm3 bX=>⟨rfl,Zaq ?_⟩
  ·have bW:=Zm8 hx
   exact Zvf x y m' eL qF
  ·rw[h1,h2,h3,h4];rfl
 ·rw[h1,h2,h3,h4];rfl
 ·rw[h1,h2,h3];rfl
 ·rw[h1,h2];rfl
 ·rw[h1];rfl
termination_by SizeOf.sizeOf t
decreasing_by exact bW
theorem Zyc(t u:T)(m:Mem)(hr:Rep m t)(hu:Rep m u):CX Tryz.prog 54 #[t.v,u.v] m [] (Ret (.bool (t.light&&(u.light&&t.same u)))):=by
 apply Zq8
 unfold Zmx
 intro b m1 bH _ b' m2 bL _
 have hm:=mLt bH bL
 refine⟨t.light&&(u.light&&t.same u),?_,Zaf hm rfl⟩
 refine Zax (ZhB t m2 (hr.mono hm)) λm3 bX=>Zab (λh1=>?_) (λh1=>⟨rfl,Zaq ?_⟩)
 ·refine Zax (ZhB u m3 (hu.mono (mLt hm bX))) λm4 cA=>Zab (λh2=>?_) (λh2=>?_)
  ·have c9:=mLt (mLt hm bX) cA
   refine Zax (Zvf t u m4 (hr.mono c9) (hu.mono c9)) λm6 fE=>⟨rfl,Zaq ?_⟩
   rw[h1,h2];rfl
  ·refine⟨rfl,Zaq ?_⟩
   rw[h1,h2];rfl
 ·rw[h1];rfl
end Go.Proofs.YtgclajkldphoaaaGreat
namespace Go.Proofs.YtgclajkldphoaaaGreat
open Go Go.Eng Go.Rx Go.Proofs Go.RowKit
theorem ZyJ{b:Bool}{p q:Prop}(h:b=true)(k:p):br b p q:=by subst h;exact k
theorem ZjA{b:Bool}{p q:Prop}(h:b=false)(k:q):br b p q:=by subst h;exact k
theorem Zea{α:Type}{l:List α}{k:Nat}(h:k < l.length):∃x,l[k]?=some x:=⟨l[k],List.getElem?_eq_getElem h⟩
theorem Zby(t:T):Rx.Zcu [t]=t.cs:=by simp[Rx.Zcu]
theorem ZdE{m:Mem}{a:Option Addr}{ts:List T}(h:rowRd m a (Rx.Zcu ts)){i:Nat}{t:T}(hi:ts[i]?=some t):∃b o,a=some ⟨b,o,none⟩/\m.reads b (o+i*8) t.cs:=by
 rcases h with h|⟨b,o,ha,h⟩
 ·have hl:(Rx.Zcu ts).length=0:=by rw[h];rfl
  rw[Zao]at hl
  have:=(List.getElem?_eq_some_iff.1 hi).1
  omega
 ·refine⟨b,o,ha,λj v hj=>?_⟩
  rw[Nat.add_assoc]
  refine h (i*8+j) v ?_
  have e:ts=ts.take i++(t::ts.drop (i+1)):=by
   have bF:=(List.getElem?_eq_some_iff.1 hi).1
   have h2:=List.drop_eq_getElem_cons bF
   rw[(List.getElem?_eq_some_iff.1 hi).2]at h2
   rw[<-h2,List.take_append_drop]
  have bF:=(List.getElem?_eq_some_iff.1 hi).1
  have zY:=(List.getElem?_eq_some_iff.1 hj).1
  rw[e,ZaL,List.getElem?_append_right (by rw[Zao,List.length_take,Nat.min_eq_left (by omega)];omega),Zao,List.length_take,Nat.min_eq_left (by omega),show i*8+j - i*8=j by omega]
  have e2:Rx.Zcu (t::ts.drop (i+1))=t.cs++Rx.Zcu (ts.drop (i+1)):=by simp[Rx.Zcu]
  rw[e2,List.getElem?_append_left zY];exact hj
def Zqb(mb M0:Mem)(φ:T->Prop):Value->Mem->List (List Value)->Prop:=λv M' css=>∃m0,mb.le m0/\m0.le M'/\(∀b o u,M0 b o=some u->∀o',m0 b o'=mb b o')/\ZfG φ v m0 css
theorem Zki{mb M0:Mem}{φ:T->Prop}{m:Mem}{K:TRK}(k:∀(t:T)(m0 m':Mem),m.le m'->mb.le m0->m0.le m'->(∀b o u,M0 b o=some u->∀o',m0 b o'=mb b o')->Rep m0 t->φ t->K t.k t.s0 t.s1 t.s2 t.s3 t.mn t.mx t.a t.subs.length t.c m'):
  ∀(n0 n1 n2 n3 n4 n5 n6:Int)(a:Option Addr)(n c:Nat)(m':Mem),m.le m'->Zqb mb M0 φ (.agg #[.int .u8 n0,.int .u64 n1,.int .u64 n2,.int .u64 n3,.int .u64 n4,.int .i64 n5,.int .i64 n6,.slice a n c]) m' []->K n0 n1 n2 n3 n4 n5 n6 a n c m':=by
 rintro n0 n1 n2 n3 n4 n5 n6 a n c m' hm ⟨m0,h1,h2,h3,t,hv,hr,hp⟩
 simp only[T.v,Value.agg.injEq,Array.mk.injEq,List.cons.injEq,Value.int.injEq,Value.slice.injEq,true_and,and_true]at hv
 obtain⟨rfl,rfl,rfl,rfl,rfl,rfl,rfl,rfl,rfl,rfl⟩:=hv
 exact k t m0 m' hm h1 h2 h3 hr hp
theorem Zeb{mb M0:Mem}{φ:T->Prop}:∀(v:Value)(m':Mem) (css:List (List Value)),Zqb mb M0 φ v m' css->Shape.fits (.agg [.int .u8,.int .u64,.int .u64,.int .u64,.int .u64,.int .i64,.int .i64,.slice]) v=true:=λv _ _ ⟨_,_,_,_,t,e,_⟩=>by rw[e];rfl
def Apart(mb:Mem)(a:Option Addr):Prop:=a=none\/∃b,a=some ⟨b,0,none⟩/\mb.free b
theorem Apart.tok{mb M:Mem}{a a':Option Addr}{n c:Nat}(h:Apart mb a)(hm:mb.le M)(ht:TokFact M a a' n c):Apart mb a':=by
 rcases ht.2 with h1|⟨b,o,h1,h2⟩
 ·exact .inl h1
 rcases h2 with h2|⟨h3,h2⟩
 ·rw[<-h2];exact h
 ·subst h3
  refine .inr ⟨b,h1,λo=>?_⟩
  cases hb:mb b o with
  | none=>rfl
  | some v=>have:=hm _ _ _ hb;rw[h2.1 o]at this;cases this
theorem Zst{m:Mem}{a:Option Addr}{ts r:List T}(h:rowRd m a (Rx.Zcu (ts++r))):rowRd m a (Rx.Zcu ts):=by
 rw[ZaL]at h
 rcases h with h|⟨b,o,ha,h⟩
 ·exact .inl (List.append_eq_nil_iff.1 h).1
 ·refine .inr ⟨b,o,ha,λj v hj=>h j v ?_⟩
  rw[List.getElem?_append_left (List.getElem?_eq_some_iff.1 hj).1];exact hj
theorem Zsu{m:Mem}{b:Nat}{ts:List T}{x t:T}(h:rowRd m (some ⟨b,0,none⟩) (Rx.Zcu (ts++[x]))):rowRd (m.upd b (0+ts.length*8) t.cs) (some ⟨b,0,none⟩) (Rx.Zcu (ts++[t])):=by
 refine .inr ⟨b,0,rfl,λj v hj=>?_⟩
 rw[ZaL]at hj
 rcases Nat.lt_or_ge j (ts.length*8)with bF|cR
 ·rw[List.getElem?_append_left (by rw[Zao];exact bF)]at hj
  unfold Mem.upd;try dsimp only
  rw[if_neg (by omega)]
  rcases h with h|⟨b',o',ha,h⟩
  ·have hl:(Rx.Zcu (ts++[x])).length=0:=by rw[h];rfl
   rw[Zao,List.length_append]at hl
   simp at hl
  ·cases ha
   refine h j v ?_
   rw[ZaL,List.getElem?_append_left (by rw[Zao];exact bF)];exact hj
 ·rw[List.getElem?_append_right (by rw[Zao];exact cR),Zao,Zby]at hj
  have h8:=(List.getElem?_eq_some_iff.1 hj).1
  have h8':t.cs.length=8:=rfl
  unfold Mem.upd;try dsimp only
  rw[if_pos ⟨rfl,by omega,by omega⟩,show 0+j - (0+ts.length*8)=j - ts.length*8 by omega]
  exact hj
theorem Apart.base{mb m:Mem}{a:Option Addr}{ts:List T}(h:Apart mb a)(bG:rowRd m a (Rx.Zcu ts))(hn:ts≠[]):∃b,a=some ⟨b,0,none⟩/\mb.free b/\∃o u,m b o=some u:=by
 obtain⟨t,r,rfl⟩:∃t r,ts=t::r:=by cases ts with
  | nil=>exact absurd rfl hn
  | cons t r=>exact⟨t,r,rfl⟩
 obtain⟨b',o,ha,cP⟩:=ZdE bG (i:=0) (t:=t) rfl
 rcases h with h|⟨b,hb,hf⟩
 ·rw[h]at ha;cases ha
 ·rw[hb]at ha;cases ha
  exact⟨b',hb,hf,_,_,cP 0 (.int .u8 t.k) rfl⟩
theorem Zz3{ts:List T}(h:1 < ts.length):∃r x y,ts=r++[x,y]:=by
 have h1:ts.length - 2 < ts.length:=by omega
 refine⟨ts.take (ts.length - 2),ts[ts.length - 2],ts[ts.length - 1],?_⟩
 have e:=(List.take_append_drop (ts.length - 2) ts).symm
 rw[List.drop_eq_getElem_cons h1,List.drop_eq_getElem_cons (by omega),List.drop_eq_nil_of_le (by omega)]at e
 simpa[show ts.length - 2+1=ts.length - 1 by omega]using e
theorem Zz4{ts:List T}(h:0 < ts.length):∃r x,ts=r++[x]:=by
 refine⟨ts.dropLast,ts.getLast (by intro e;subst e;simp at h),?_⟩
 exact(List.dropLast_concat_getLast _).symm
end Go.Proofs.YtgclajkldphoaaaGreat
namespace Go.Proofs.YtgclajkldphoaaaGreat
open Go Go.Eng Go.Proofs Go.RowKit
open Go.Value (int slice agg bool string tuple func)
open Go.IntKind (u8 u64 i64)
set_option maxRecDepth 100000
noncomputable def ZeY:Env:={ EB with
 dr:=(λi=>bif Nat.beq i 1 then[⟨0,[3],[],none,[],[]⟩,⟨1,[],[],none,[0],[]⟩,⟨2,[4],[],none,[],[]⟩,⟨3,[4],[],none,[2],[]⟩,⟨4,[],[],none,[0,1,2,3],[]⟩,⟨5,[4],[],none,[],[]⟩,⟨6,[5],[],none,[],[]⟩,⟨7,[],[],none,[0,1,2,3,4,5,6],[1]⟩,⟨8,[6],[6],none,[0,1,2,3,4,5,6,7],[]⟩]else[])
 frzNew:=[3,4,5] }
def ZbH(aW:Option Addr)(aV aX:Nat)(aD:Bool)(aO aP aQ aR aS aT:Int)(aM:Option Addr)(aL aN:Nat)(aY aZ bA bB bC bD bE bM bN:Int)(m:Mem)(R:RT):Prop:=
 ∀(b:Nat)(m':Mem),Mem.le m m'->Mem.reads m' b 0 [slice aW aV aX,bool aD]->∀(b:Nat)(ab:Mem),Mem.le m' ab->Mem.reads ab b 0 [int u8 0,int u64 aO,int u64 aP,int u64 aQ,int u64 aR,
 int i64 aS,int i64 aT,slice aM aL aN]->∀(b:Nat)(m':Mem),Mem.le ab m'->Mem.reads m' b 0 [int u64 aY,int u64 aZ,int u64 bA,int u64 bB,int u64 bC,int u64 bD,int u64 bE,int u64
 bM,int u64 bN]->∀(b:Nat),∃(f:Fx),∃(R_1:RT),R_1=f 1 [agg (Array.mk [slice aW aV aX,bool aD])] m'/\CX Tryz.prog 55 (Array.mk [agg (Array.mk [slice aW aV aX,bool aD])]) m' []
 R_1/\Zaz (Shape.agg [Shape.fn,Shape.fn,Shape.fn,Shape.fn,Shape.fn,Shape.fn,Shape.fn]) R_1/\∀(g:Nat)(fi ca:List Value)(al:Nat)(am an:List Value)(ao:Nat)(ap aq:List Value)(ar:Nat) (au av:
 List Value) (aw:Nat) (ax ay:List Value) (az:Nat) (a0 a1:List Value) (a2:Nat) (a3 a4:List Value) (aa:Mem),Mem.le m' aa->R_1 (agg (Array.mk [func (Fn.func g) (Array.mk fi) (Array.mk ca),func (Fn.func al)
 (Array.mk am) (Array.mk an),func (Fn.func ao) (Array.mk ap) (Array.mk aq),func (Fn.func ar) (Array.mk au) (Array.mk av),func (Fn.func aw) (Array.mk ax) (Array.mk ay),func (Fn.func az) (Array.mk a0) (Array.mk a1),
 func (Fn.func a2) (Array.mk a3) (Array.mk a4)])) aa []->Zag (0:Int) 7/\∃(R_2:RT),R_2=f 7 (List.append (List.append fi [agg (Array.mk [int u8 0,int u64 aO,int u64 aP,int u64 aQ,int u64 aR,int
 i64 aS,int i64 aT,slice aM aL aN]),agg (Array.mk [int u64 aY,int u64 aZ,int u64 bA,int u64 bB,int u64 bC,int u64 bD,int u64 bE,int u64 bM,int u64 bN])]) ca) aa/\CX Tryz.prog g
 (Array.mk (List.append (List.append fi [agg (Array.mk [int u8 0,int u64 aO,int u64 aP,int u64 aQ,int u64 aR,int i64 aS,int i64 aT,slice aM aL aN]),agg (Array.mk [int u64 aY,int u64 aZ,
 int u64 bA,int u64 bB,int u64 bC,int u64 bD,int u64 bE,int u64 bM,int u64 bN])]) ca)) aa [] R_2/\Zaz (Shape.agg [Shape.int u64,Shape.int u64,Shape.int u64,Shape.int u64,Shape.int u64,Shape.int
 u64,Shape.int u64,Shape.int u64,Shape.int u64]) R_2/\∀(n ad ae af ag ah ai aj ak:Int)(ac:Mem),Mem.le aa ac->R_2 (agg (Array.mk [int u64 n,int u64 ad,int u64 ae,int u64 af,int u64 ag,int u64 ah,int u64
 ai,int u64 aj,int u64 ak])) ac []->∀(M:Mem),Mem.le m' M->Mem.le aa M->Mem.le ac M->∃(m'':Mem),Mem.le m m''/\Mem.le m'' M/\R (agg (Array.mk [int u64 n,int u64 ad,int u64 ae,int u64 af,int u64 ag,int
 u64 ah,int u64 ai,int u64 aj,int u64 ak])) m'' []
theorem Zes(aW:Option Addr)(aV aX:Nat)(aD:Bool)(aO aP aQ aR aS aT:Int)(aM:Option Addr)(aL aN:Nat)(aY aZ bA bB bC bD bE bM bN:Int)(m:Mem)(R:RT)(h:ZbH aW aV aX aD aO aP aQ aR aS aT aM aL aN aY aZ bA bB bC bD bE bM bN m R):CX Tryz.prog 39 #[.agg #[.slice aW aV aX,.bool aD],.agg #[.int .u8 0,.int .u64 aO,.int .u64 aP,.int .u64 aQ,.int .u64 aR,.int .i64 aS,.int .i64 aT,.slice aM aL aN],.agg #[.int .u64 aY,.int .u64 aZ,.int .u64 bA,.int .u64 bB,.int .u64 bC,.int .u64 bD,.int .u64 bE,.int .u64 bM,.int .u64 bN]] m [] R:=
 Zah (E:=ZeY) Zay mix Tryz.func39 [.v (.agg #[.slice aW aV aX,.bool aD]),.v (.agg #[.int .u8 0,.int .u64 aO,.int .u64 aP,.int .u64 aQ,.int .u64 aR,.int .i64 aS,.int .i64 aT,.slice aM aL aN]),.v (.agg #[.int .u64 aY,.int .u64 aZ,.int .u64 bA,.int .u64 bB,.int .u64 bC,.int .u64 bD,.int .u64 bE,.int .u64 bM,.int .u64 bN])] [] (by kernel_rfl) (Eq.mp (by kernel_rfl) h)
noncomputable def ZeZ:Env:={ EB with
 dr:=(λi=>bif Nat.beq i 1 then[⟨0,[3],[],none,[],[]⟩,⟨1,[],[],none,[0],[]⟩,⟨2,[4],[],none,[],[]⟩,⟨3,[4],[],none,[2],[]⟩,⟨4,[],[],none,[0,1,2,3],[]⟩,⟨5,[4],[],none,[],[]⟩,⟨6,[5],[],none,[],[]⟩,⟨7,[],[],none,[0,1,2,3,4,5,6],[1]⟩,⟨8,[6],[6],none,[0,1,2,3,4,5,6,7],[]⟩]else[])
 frzNew:=[3,4,5] }
def ZbI(aW:Option Addr)(aV aX:Nat)(aD:Bool)(aO aP aQ aR aS aT:Int)(aM:Option Addr)(aL aN:Nat)(aY aZ bA bB bC bD bE bM bN:Int)(m:Mem)(R:RT):Prop:=
 ∀(b:Nat)(m':Mem),Mem.le m m'->Mem.reads m' b 0 [slice aW aV aX,bool aD]->∀(b:Nat)(ab:Mem),Mem.le m' ab->Mem.reads ab b 0 [int u8 1,int u64 aO,int u64 aP,int u64 aQ,int u64 aR,
 int i64 aS,int i64 aT,slice aM aL aN]->∀(b:Nat)(m':Mem),Mem.le ab m'->Mem.reads m' b 0 [int u64 aY,int u64 aZ,int u64 bA,int u64 bB,int u64 bC,int u64 bD,int u64 bE,int u64
 bM,int u64 bN]->∀(b:Nat),∃(f:Fx),∃(R_1:RT),R_1=f 1 [agg (Array.mk [slice aW aV aX,bool aD])] m'/\CX Tryz.prog 55 (Array.mk [agg (Array.mk [slice aW aV aX,bool aD])]) m' []
 R_1/\Zaz (Shape.agg [Shape.fn,Shape.fn,Shape.fn,Shape.fn,Shape.fn,Shape.fn,Shape.fn]) R_1/\∀(g:Nat)(fi ca:List Value)(af:Nat)(ac ad:List Value)(ao:Nat)(ap aq:List Value)(ar:Nat) (au av:
 List Value) (aw:Nat) (ax ay:List Value) (az:Nat) (a0 a1:List Value) (a2:Nat) (a3 a4:List Value) (aa:Mem),Mem.le m' aa->R_1 (agg (Array.mk [func (Fn.func g) (Array.mk fi) (Array.mk ca),func (Fn.func af)
 (Array.mk ac) (Array.mk ad),func (Fn.func ao) (Array.mk ap) (Array.mk aq),func (Fn.func ar) (Array.mk au) (Array.mk av),func (Fn.func aw) (Array.mk ax) (Array.mk ay),func (Fn.func az) (Array.mk a0) (Array.mk a1),
 func (Fn.func a2) (Array.mk a3) (Array.mk a4)])) aa []->Zag (1:Int) 7/\∃(R_2:RT),R_2=f 7 (List.append (List.append ac [agg (Array.mk [int u8 1,int u64 aO,int u64 aP,int u64 aQ,int u64 aR,int
 i64 aS,int i64 aT,slice aM aL aN]),agg (Array.mk [int u64 aY,int u64 aZ,int u64 bA,int u64 bB,int u64 bC,int u64 bD,int u64 bE,int u64 bM,int u64 bN])]) ad) aa/\CX Tryz.prog af
 (Array.mk (List.append (List.append ac [agg (Array.mk [int u8 1,int u64 aO,int u64 aP,int u64 aQ,int u64 aR,int i64 aS,int i64 aT,slice aM aL aN]),agg (Array.mk [int u64 aY,int u64 aZ,
 int u64 bA,int u64 bB,int u64 bC,int u64 bD,int u64 bE,int u64 bM,int u64 bN])]) ad)) aa [] R_2/\Zaz (Shape.agg [Shape.int u64,Shape.int u64,Shape.int u64,Shape.int u64,Shape.int u64,Shape.int
 u64,Shape.int u64,Shape.int u64,Shape.int u64]) R_2/\∀(n ag ah ai aj ak al am an:Int)(ae:Mem),Mem.le aa ae->R_2 (agg (Array.mk [int u64 n,int u64 ag,int u64 ah,int u64 ai,int u64 aj,int u64 ak,int u64
 al,int u64 am,int u64 an])) ae []->∀(M:Mem),Mem.le m' M->Mem.le aa M->Mem.le ae M->∃(m'':Mem),Mem.le m m''/\Mem.le m'' M/\R (agg (Array.mk [int u64 n,int u64 ag,int u64 ah,int u64 ai,int u64 aj,int
 u64 ak,int u64 al,int u64 am,int u64 an])) m'' []
theorem Zet(aW:Option Addr)(aV aX:Nat)(aD:Bool)(aO aP aQ aR aS aT:Int)(aM:Option Addr)(aL aN:Nat)(aY aZ bA bB bC bD bE bM bN:Int)(m:Mem)(R:RT)(h:ZbI aW aV aX aD aO aP aQ aR aS aT aM aL aN aY aZ bA bB bC bD bE bM bN m R):CX Tryz.prog 39 #[.agg #[.slice aW aV aX,.bool aD],.agg #[.int .u8 1,.int .u64 aO,.int .u64 aP,.int .u64 aQ,.int .u64 aR,.int .i64 aS,.int .i64 aT,.slice aM aL aN],.agg #[.int .u64 aY,.int .u64 aZ,.int .u64 bA,.int .u64 bB,.int .u64 bC,.int .u64 bD,.int .u64 bE,.int .u64 bM,.int .u64 bN]] m [] R:=
 Zah (E:=ZeZ) Zay mix Tryz.func39 [.v (.agg #[.slice aW aV aX,.bool aD]),.v (.agg #[.int .u8 1,.int .u64 aO,.int .u64 aP,.int .u64 aQ,.int .u64 aR,.int .i64 aS,.int .i64 aT,.slice aM aL aN]),.v (.agg #[.int .u64 aY,.int .u64 aZ,.int .u64 bA,.int .u64 bB,.int .u64 bC,.int .u64 bD,.int .u64 bE,.int .u64 bM,.int .u64 bN])] [] (by kernel_rfl) (Eq.mp (by kernel_rfl) h)
noncomputable def Ze0:Env:={ EB with
 dr:=(λi=>bif Nat.beq i 1 then[⟨0,[3],[],none,[],[]⟩,⟨1,[],[],none,[0],[]⟩,⟨2,[4],[],none,[],[]⟩,⟨3,[4],[],none,[2],[]⟩,⟨4,[],[],none,[0,1,2,3],[]⟩,⟨5,[4],[],none,[],[]⟩,⟨6,[5],[],none,[],[]⟩,⟨7,[],[],none,[0,1,2,3,4,5,6],[1]⟩,⟨8,[6],[6],none,[0,1,2,3,4,5,6,7],[]⟩]else[])
 frzNew:=[3,4,5] }
def ZbJ(aW:Option Addr)(aV aX:Nat)(aD:Bool)(aO aP aQ aR aS aT:Int)(aM:Option Addr)(aL aN:Nat)(aY aZ bA bB bC bD bE bM bN:Int)(m:Mem)(R:RT):Prop:=
 ∀(b:Nat)(m':Mem),Mem.le m m'->Mem.reads m' b 0 [slice aW aV aX,bool aD]->∀(b:Nat)(ab:Mem),Mem.le m' ab->Mem.reads ab b 0 [int u8 2,int u64 aO,int u64 aP,int u64 aQ,int u64 aR,
 int i64 aS,int i64 aT,slice aM aL aN]->∀(b:Nat)(m':Mem),Mem.le ab m'->Mem.reads m' b 0 [int u64 aY,int u64 aZ,int u64 bA,int u64 bB,int u64 bC,int u64 bD,int u64 bE,int u64
 bM,int u64 bN]->∀(b:Nat),∃(f:Fx),∃(R_1:RT),R_1=f 1 [agg (Array.mk [slice aW aV aX,bool aD])] m'/\CX Tryz.prog 55 (Array.mk [agg (Array.mk [slice aW aV aX,bool aD])]) m' []
 R_1/\Zaz (Shape.agg [Shape.fn,Shape.fn,Shape.fn,Shape.fn,Shape.fn,Shape.fn,Shape.fn]) R_1/\∀(g:Nat)(fi ca:List Value)(ao:Nat)(ap aq:List Value)(af:Nat)(ac ad:List Value)(ar:Nat) (au av:
 List Value) (aw:Nat) (ax ay:List Value) (az:Nat) (a0 a1:List Value) (a2:Nat) (a3 a4:List Value) (aa:Mem),Mem.le m' aa->R_1 (agg (Array.mk [func (Fn.func g) (Array.mk fi) (Array.mk ca),func (Fn.func ao)
 (Array.mk ap) (Array.mk aq),func (Fn.func af) (Array.mk ac) (Array.mk ad),func (Fn.func ar) (Array.mk au) (Array.mk av),func (Fn.func aw) (Array.mk ax) (Array.mk ay),func (Fn.func az) (Array.mk a0) (Array.mk a1),
 func (Fn.func a2) (Array.mk a3) (Array.mk a4)])) aa []->Zag (2:Int) 7/\∃(R_2:RT),R_2=f 7 (List.append (List.append ac [agg (Array.mk [int u8 2,int u64 aO,int u64 aP,int u64 aQ,int u64 aR,int
 i64 aS,int i64 aT,slice aM aL aN]),agg (Array.mk [int u64 aY,int u64 aZ,int u64 bA,int u64 bB,int u64 bC,int u64 bD,int u64 bE,int u64 bM,int u64 bN])]) ad) aa/\CX Tryz.prog af
 (Array.mk (List.append (List.append ac [agg (Array.mk [int u8 2,int u64 aO,int u64 aP,int u64 aQ,int u64 aR,int i64 aS,int i64 aT,slice aM aL aN]),agg (Array.mk [int u64 aY,int u64 aZ,
 int u64 bA,int u64 bB,int u64 bC,int u64 bD,int u64 bE,int u64 bM,int u64 bN])]) ad)) aa [] R_2/\Zaz (Shape.agg [Shape.int u64,Shape.int u64,Shape.int u64,Shape.int u64,Shape.int u64,Shape.int
 u64,Shape.int u64,Shape.int u64,Shape.int u64]) R_2/\∀(n ag ah ai aj ak al am an:Int)(ae:Mem),Mem.le aa ae->R_2 (agg (Array.mk [int u64 n,int u64 ag,int u64 ah,int u64 ai,int u64 aj,int u64 ak,int u64
 al,int u64 am,int u64 an])) ae []->∀(M:Mem),Mem.le m' M->Mem.le aa M->Mem.le ae M->∃(m'':Mem),Mem.le m m''/\Mem.le m'' M/\R (agg (Array.mk [int u64 n,int u64 ag,int u64 ah,int u64 ai,int u64 aj,int
 u64 ak,int u64 al,int u64 am,int u64 an])) m'' []
theorem Zeu(aW:Option Addr)(aV aX:Nat)(aD:Bool)(aO aP aQ aR aS aT:Int)(aM:Option Addr)(aL aN:Nat)(aY aZ bA bB bC bD bE bM bN:Int)(m:Mem)(R:RT)(h:ZbJ aW aV aX aD aO aP aQ aR aS aT aM aL aN aY aZ bA bB bC bD bE bM bN m R):CX Tryz.prog 39 #[.agg #[.slice aW aV aX,.bool aD],.agg #[.int .u8 2,.int .u64 aO,.int .u64 aP,.int .u64 aQ,.int .u64 aR,.int .i64 aS,.int .i64 aT,.slice aM aL aN],.agg #[.int .u64 aY,.int .u64 aZ,.int .u64 bA,.int .u64 bB,.int .u64 bC,.int .u64 bD,.int .u64 bE,.int .u64 bM,.int .u64 bN]] m [] R:=
 Zah (E:=Ze0) Zay mix Tryz.func39 [.v (.agg #[.slice aW aV aX,.bool aD]),.v (.agg #[.int .u8 2,.int .u64 aO,.int .u64 aP,.int .u64 aQ,.int .u64 aR,.int .i64 aS,.int .i64 aT,.slice aM aL aN]),.v (.agg #[.int .u64 aY,.int .u64 aZ,.int .u64 bA,.int .u64 bB,.int .u64 bC,.int .u64 bD,.int .u64 bE,.int .u64 bM,.int .u64 bN])] [] (by kernel_rfl) (Eq.mp (by kernel_rfl) h)
noncomputable def Ze1:Env:={ EB with
 dr:=(λi=>bif Nat.beq i 1 then[⟨0,[3],[],none,[],[]⟩,⟨1,[],[],none,[0],[]⟩,⟨2,[4],[],none,[],[]⟩,⟨3,[4],[],none,[2],[]⟩,⟨4,[],[],none,[0,1,2,3],[]⟩,⟨5,[4],[],none,[],[]⟩,⟨6,[5],[],none,[],[]⟩,⟨7,[],[],none,[0,1,2,3,4,5,6],[1]⟩,⟨8,[6],[6],none,[0,1,2,3,4,5,6,7],[]⟩]else[])
 frzNew:=[3,4,5] }
def ZbK(aW:Option Addr)(aV aX:Nat)(aD:Bool)(aO aP aQ aR aS aT:Int)(aM:Option Addr)(aL aN:Nat)(aY aZ bA bB bC bD bE bM bN:Int)(m:Mem)(R:RT):Prop:=
 ∀(b:Nat)(m':Mem),Mem.le m m'->Mem.reads m' b 0 [slice aW aV aX,bool aD]->∀(b:Nat)(ab:Mem),Mem.le m' ab->Mem.reads ab b 0 [int u8 3,int u64 aO,int u64 aP,int u64 aQ,int u64 aR,
 int i64 aS,int i64 aT,slice aM aL aN]->∀(b:Nat)(m':Mem),Mem.le ab m'->Mem.reads m' b 0 [int u64 aY,int u64 aZ,int u64 bA,int u64 bB,int u64 bC,int u64 bD,int u64 bE,int u64
 bM,int u64 bN]->∀(b:Nat),∃(f:Fx),∃(R_1:RT),R_1=f 1 [agg (Array.mk [slice aW aV aX,bool aD])] m'/\CX Tryz.prog 55 (Array.mk [agg (Array.mk [slice aW aV aX,bool aD])]) m' []
 R_1/\Zaz (Shape.agg [Shape.fn,Shape.fn,Shape.fn,Shape.fn,Shape.fn,Shape.fn,Shape.fn]) R_1/\∀(g:Nat)(fi ca:List Value)(ao:Nat)(ap aq:List Value)(ar:Nat)(au av:List Value)(af:Nat) (ac ad:
 List Value) (aw:Nat) (ax ay:List Value) (az:Nat) (a0 a1:List Value) (a2:Nat) (a3 a4:List Value) (aa:Mem),Mem.le m' aa->R_1 (agg (Array.mk [func (Fn.func g) (Array.mk fi) (Array.mk ca),func (Fn.func ao)
 (Array.mk ap) (Array.mk aq),func (Fn.func ar) (Array.mk au) (Array.mk av),func (Fn.func af) (Array.mk ac) (Array.mk ad),func (Fn.func aw) (Array.mk ax) (Array.mk ay),func (Fn.func az) (Array.mk a0) (Array.mk a1),
 func (Fn.func a2) (Array.mk a3) (Array.mk a4)])) aa []->Zag (3:Int) 7/\∃(R_2:RT),R_2=f 7 (List.append (List.append ac [agg (Array.mk [int u8 3,int u64 aO,int u64 aP,int u64 aQ,int u64 aR,int
 i64 aS,int i64 aT,slice aM aL aN]),agg (Array.mk [int u64 aY,int u64 aZ,int u64 bA,int u64 bB,int u64 bC,int u64 bD,int u64 bE,int u64 bM,int u64 bN])]) ad) aa/\CX Tryz.prog af
 (Array.mk (List.append (List.append ac [agg (Array.mk [int u8 3,int u64 aO,int u64 aP,int u64 aQ,int u64 aR,int i64 aS,int i64 aT,slice aM aL aN]),agg (Array.mk [int u64 aY,int u64 aZ,
 int u64 bA,int u64 bB,int u64 bC,int u64 bD,int u64 bE,int u64 bM,int u64 bN])]) ad)) aa [] R_2/\Zaz (Shape.agg [Shape.int u64,Shape.int u64,Shape.int u64,Shape.int u64,Shape.int u64,Shape.int
 u64,Shape.int u64,Shape.int u64,Shape.int u64]) R_2/\∀(n ag ah ai aj ak al am an:Int)(ae:Mem),Mem.le aa ae->R_2 (agg (Array.mk [int u64 n,int u64 ag,int u64 ah,int u64 ai,int u64 aj,int u64 ak,int u64
 al,int u64 am,int u64 an])) ae []->∀(M:Mem),Mem.le m' M->Mem.le aa M->Mem.le ae M->∃(m'':Mem),Mem.le m m''/\Mem.le m'' M/\R (agg (Array.mk [int u64 n,int u64 ag,int u64 ah,int u64 ai,int u64 aj,int
 u64 ak,int u64 al,int u64 am,int u64 an])) m'' []
theorem Zev(aW:Option Addr)(aV aX:Nat)(aD:Bool)(aO aP aQ aR aS aT:Int)(aM:Option Addr)(aL aN:Nat)(aY aZ bA bB bC bD bE bM bN:Int)(m:Mem)(R:RT)(h:ZbK aW aV aX aD aO aP aQ aR aS aT aM aL aN aY aZ bA bB bC bD bE bM bN m R):CX Tryz.prog 39 #[.agg #[.slice aW aV aX,.bool aD],.agg #[.int .u8 3,.int .u64 aO,.int .u64 aP,.int .u64 aQ,.int .u64 aR,.int .i64 aS,.int .i64 aT,.slice aM aL aN],.agg #[.int .u64 aY,.int .u64 aZ,.int .u64 bA,.int .u64 bB,.int .u64 bC,.int .u64 bD,.int .u64 bE,.int .u64 bM,.int .u64 bN]] m [] R:=
 Zah (E:=Ze1) Zay mix Tryz.func39 [.v (.agg #[.slice aW aV aX,.bool aD]),.v (.agg #[.int .u8 3,.int .u64 aO,.int .u64 aP,.int .u64 aQ,.int .u64 aR,.int .i64 aS,.int .i64 aT,.slice aM aL aN]),.v (.agg #[.int .u64 aY,.int .u64 aZ,.int .u64 bA,.int .u64 bB,.int .u64 bC,.int .u64 bD,.int .u64 bE,.int .u64 bM,.int .u64 bN])] [] (by kernel_rfl) (Eq.mp (by kernel_rfl) h)
noncomputable def Ze2:Env:={ EB with
 dr:=(λi=>bif Nat.beq i 1 then[⟨0,[3],[],none,[],[]⟩,⟨1,[],[],none,[0],[]⟩,⟨2,[4],[],none,[],[]⟩,⟨3,[4],[],none,[2],[]⟩,⟨4,[],[],none,[0,1,2,3],[]⟩,⟨5,[4],[],none,[],[]⟩,⟨6,[5],[],none,[],[]⟩,⟨7,[],[],none,[0,1,2,3,4,5,6],[1]⟩,⟨8,[6],[6],none,[0,1,2,3,4,5,6,7],[]⟩]else[])
 frzNew:=[3,4,5] }
def ZbL(aW:Option Addr)(aV aX:Nat)(aD:Bool)(aO aP aQ aR aS aT:Int)(aM:Option Addr)(aL aN:Nat)(aY aZ bA bB bC bD bE bM bN:Int)(m:Mem)(R:RT):Prop:=
 ∀(b:Nat)(m':Mem),Mem.le m m'->Mem.reads m' b 0 [slice aW aV aX,bool aD]->∀(b:Nat)(ab:Mem),Mem.le m' ab->Mem.reads ab b 0 [int u8 4,int u64 aO,int u64 aP,int u64 aQ,int u64 aR,
 int i64 aS,int i64 aT,slice aM aL aN]->∀(b:Nat)(m':Mem),Mem.le ab m'->Mem.reads m' b 0 [int u64 aY,int u64 aZ,int u64 bA,int u64 bB,int u64 bC,int u64 bD,int u64 bE,int u64
 bM,int u64 bN]->∀(b:Nat),∃(f:Fx),∃(R_1:RT),R_1=f 1 [agg (Array.mk [slice aW aV aX,bool aD])] m'/\CX Tryz.prog 55 (Array.mk [agg (Array.mk [slice aW aV aX,bool aD])]) m' []
 R_1/\Zaz (Shape.agg [Shape.fn,Shape.fn,Shape.fn,Shape.fn,Shape.fn,Shape.fn,Shape.fn]) R_1/\∀(g:Nat)(fi ca:List Value)(ao:Nat)(ap aq:List Value)(ar:Nat)(au av:List Value)(aw:Nat) (ax ay:
 List Value) (af:Nat) (ac ad:List Value) (az:Nat) (a0 a1:List Value) (a2:Nat) (a3 a4:List Value) (aa:Mem),Mem.le m' aa->R_1 (agg (Array.mk [func (Fn.func g) (Array.mk fi) (Array.mk ca),func (Fn.func ao)
 (Array.mk ap) (Array.mk aq),func (Fn.func ar) (Array.mk au) (Array.mk av),func (Fn.func aw) (Array.mk ax) (Array.mk ay),func (Fn.func af) (Array.mk ac) (Array.mk ad),func (Fn.func az) (Array.mk a0) (Array.mk a1),
 func (Fn.func a2) (Array.mk a3) (Array.mk a4)])) aa []->Zag (4:Int) 7/\∃(R_2:RT),R_2=f 7 (List.append (List.append ac [agg (Array.mk [int u8 4,int u64 aO,int u64 aP,int u64 aQ,int u64 aR,int
 i64 aS,int i64 aT,slice aM aL aN]),agg (Array.mk [int u64 aY,int u64 aZ,int u64 bA,int u64 bB,int u64 bC,int u64 bD,int u64 bE,int u64 bM,int u64 bN])]) ad) aa/\CX Tryz.prog af
 (Array.mk (List.append (List.append ac [agg (Array.mk [int u8 4,int u64 aO,int u64 aP,int u64 aQ,int u64 aR,int i64 aS,int i64 aT,slice aM aL aN]),agg (Array.mk [int u64 aY,int u64 aZ,
 int u64 bA,int u64 bB,int u64 bC,int u64 bD,int u64 bE,int u64 bM,int u64 bN])]) ad)) aa [] R_2/\Zaz (Shape.agg [Shape.int u64,Shape.int u64,Shape.int u64,Shape.int u64,Shape.int u64,Shape.int
 u64,Shape.int u64,Shape.int u64,Shape.int u64]) R_2/\∀(n ag ah ai aj ak al am an:Int)(ae:Mem),Mem.le aa ae->R_2 (agg (Array.mk [int u64 n,int u64 ag,int u64 ah,int u64 ai,int u64 aj,int u64 ak,int u64
 al,int u64 am,int u64 an])) ae []->∀(M:Mem),Mem.le m' M->Mem.le aa M->Mem.le ae M->∃(m'':Mem),Mem.le m m''/\Mem.le m'' M/\R (agg (Array.mk [int u64 n,int u64 ag,int u64 ah,int u64 ai,int u64 aj,int
 u64 ak,int u64 al,int u64 am,int u64 an])) m'' []
theorem Zew(aW:Option Addr)(aV aX:Nat)(aD:Bool)(aO aP aQ aR aS aT:Int)(aM:Option Addr)(aL aN:Nat)(aY aZ bA bB bC bD bE bM bN:Int)(m:Mem)(R:RT)(h:ZbL aW aV aX aD aO aP aQ aR aS aT aM aL aN aY aZ bA bB bC bD bE bM bN m R):CX Tryz.prog 39 #[.agg #[.slice aW aV aX,.bool aD],.agg #[.int .u8 4,.int .u64 aO,.int .u64 aP,.int .u64 aQ,.int .u64 aR,.int .i64 aS,.int .i64 aT,.slice aM aL aN],.agg #[.int .u64 aY,.int .u64 aZ,.int .u64 bA,.int .u64 bB,.int .u64 bC,.int .u64 bD,.int .u64 bE,.int .u64 bM,.int .u64 bN]] m [] R:=
 Zah (E:=Ze2) Zay mix Tryz.func39 [.v (.agg #[.slice aW aV aX,.bool aD]),.v (.agg #[.int .u8 4,.int .u64 aO,.int .u64 aP,.int .u64 aQ,.int .u64 aR,.int .i64 aS,.int .i64 aT,.slice aM aL aN]),.v (.agg #[.int .u64 aY,.int .u64 aZ,.int .u64 bA,.int .u64 bB,.int .u64 bC,.int .u64 bD,.int .u64 bE,.int .u64 bM,.int .u64 bN])] [] (by kernel_rfl) (Eq.mp (by kernel_rfl) h)
noncomputable def Ze3:Env:={ EB with
 dr:=(λi=>bif Nat.beq i 1 then[⟨0,[3],[],none,[],[]⟩,⟨1,[],[],none,[0],[]⟩,⟨2,[4],[],none,[],[]⟩,⟨3,[4],[],none,[2],[]⟩,⟨4,[],[],none,[0,1,2,3],[]⟩,⟨5,[4],[],none,[],[]⟩,⟨6,[5],[],none,[],[]⟩,⟨7,[],[],none,[0,1,2,3,4,5,6],[1]⟩,⟨8,[6],[6],none,[0,1,2,3,4,5,6,7],[]⟩]else[])
 frzNew:=[3,4,5] }
def ZbM(aW:Option Addr)(aV aX:Nat)(aD:Bool)(aO aP aQ aR aS aT:Int)(aM:Option Addr)(aL aN:Nat)(aY aZ bA bB bC bD bE bM bN:Int)(m:Mem)(R:RT):Prop:=
 ∀(b:Nat)(m':Mem),Mem.le m m'->Mem.reads m' b 0 [slice aW aV aX,bool aD]->∀(b:Nat)(ab:Mem),Mem.le m' ab->Mem.reads ab b 0 [int u8 5,int u64 aO,int u64 aP,int u64 aQ,int u64 aR,
 int i64 aS,int i64 aT,slice aM aL aN]->∀(b:Nat)(m':Mem),Mem.le ab m'->Mem.reads m' b 0 [int u64 aY,int u64 aZ,int u64 bA,int u64 bB,int u64 bC,int u64 bD,int u64 bE,int u64
 bM,int u64 bN]->∀(b:Nat),∃(f:Fx),∃(R_1:RT),R_1=f 1 [agg (Array.mk [slice aW aV aX,bool aD])] m'/\CX Tryz.prog 55 (Array.mk [agg (Array.mk [slice aW aV aX,bool aD])]) m' []
 R_1/\Zaz (Shape.agg [Shape.fn,Shape.fn,Shape.fn,Shape.fn,Shape.fn,Shape.fn,Shape.fn]) R_1/\∀(g:Nat)(fi ca:List Value)(ao:Nat)(ap aq:List Value)(ar:Nat)(au av:List Value)(aw:Nat) (ax ay:
 List Value) (az:Nat) (a0 a1:List Value) (af:Nat) (ac ad:List Value) (a2:Nat) (a3 a4:List Value) (aa:Mem),Mem.le m' aa->R_1 (agg (Array.mk [func (Fn.func g) (Array.mk fi) (Array.mk ca),func (Fn.func ao)
 (Array.mk ap) (Array.mk aq),func (Fn.func ar) (Array.mk au) (Array.mk av),func (Fn.func aw) (Array.mk ax) (Array.mk ay),func (Fn.func az) (Array.mk a0) (Array.mk a1),func (Fn.func af) (Array.mk ac) (Array.mk ad),
 func (Fn.func a2) (Array.mk a3) (Array.mk a4)])) aa []->Zag (5:Int) 7/\∃(R_2:RT),R_2=f 7 (List.append (List.append ac [agg (Array.mk [int u8 5,int u64 aO,int u64 aP,int u64 aQ,int u64 aR,int
 i64 aS,int i64 aT,slice aM aL aN]),agg (Array.mk [int u64 aY,int u64 aZ,int u64 bA,int u64 bB,int u64 bC,int u64 bD,int u64 bE,int u64 bM,int u64 bN])]) ad) aa/\CX Tryz.prog af
 (Array.mk (List.append (List.append ac [agg (Array.mk [int u8 5,int u64 aO,int u64 aP,int u64 aQ,int u64 aR,int i64 aS,int i64 aT,slice aM aL aN]),agg (Array.mk [int u64 aY,int u64 aZ,
 int u64 bA,int u64 bB,int u64 bC,int u64 bD,int u64 bE,int u64 bM,int u64 bN])]) ad)) aa [] R_2/\Zaz (Shape.agg [Shape.int u64,Shape.int u64,Shape.int u64,Shape.int u64,Shape.int u64,Shape.int
 u64,Shape.int u64,Shape.int u64,Shape.int u64]) R_2/\∀(n ag ah ai aj ak al am an:Int)(ae:Mem),Mem.le aa ae->R_2 (agg (Array.mk [int u64 n,int u64 ag,int u64 ah,int u64 ai,int u64 aj,int u64 ak,int u64
 al,int u64 am,int u64 an])) ae []->∀(M:Mem),Mem.le m' M->Mem.le aa M->Mem.le ae M->∃(m'':Mem),Mem.le m m''/\Mem.le m'' M/\R (agg (Array.mk [int u64 n,int u64 ag,int u64 ah,int u64 ai,int u64 aj,int
 u64 ak,int u64 al,int u64 am,int u64 an])) m'' []
theorem Zex(aW:Option Addr)(aV aX:Nat)(aD:Bool)(aO aP aQ aR aS aT:Int)(aM:Option Addr)(aL aN:Nat)(aY aZ bA bB bC bD bE bM bN:Int)(m:Mem)(R:RT)(h:ZbM aW aV aX aD aO aP aQ aR aS aT aM aL aN aY aZ bA bB bC bD bE bM bN m R):CX Tryz.prog 39 #[.agg #[.slice aW aV aX,.bool aD],.agg #[.int .u8 5,.int .u64 aO,.int .u64 aP,.int .u64 aQ,.int .u64 aR,.int .i64 aS,.int .i64 aT,.slice aM aL aN],.agg #[.int .u64 aY,.int .u64 aZ,.int .u64 bA,.int .u64 bB,.int .u64 bC,.int .u64 bD,.int .u64 bE,.int .u64 bM,.int .u64 bN]] m [] R:=
 Zah (E:=Ze3) Zay mix Tryz.func39 [.v (.agg #[.slice aW aV aX,.bool aD]),.v (.agg #[.int .u8 5,.int .u64 aO,.int .u64 aP,.int .u64 aQ,.int .u64 aR,.int .i64 aS,.int .i64 aT,.slice aM aL aN]),.v (.agg #[.int .u64 aY,.int .u64 aZ,.int .u64 bA,.int .u64 bB,.int .u64 bC,.int .u64 bD,.int .u64 bE,.int .u64 bM,.int .u64 bN])] [] (by kernel_rfl) (Eq.mp (by kernel_rfl) h)
noncomputable def Ze4:Env:={ EB with
 dr:=(λi=>bif Nat.beq i 1 then[⟨0,[3],[],none,[],[]⟩,⟨1,[],[],none,[0],[]⟩,⟨2,[4],[],none,[],[]⟩,⟨3,[4],[],none,[2],[]⟩,⟨4,[],[],none,[0,1,2,3],[]⟩,⟨5,[4],[],none,[],[]⟩,⟨6,[5],[],none,[],[]⟩,⟨7,[],[],none,[0,1,2,3,4,5,6],[1]⟩,⟨8,[6],[6],none,[0,1,2,3,4,5,6,7],[]⟩]else[])
 frzNew:=[3,4,5] }
def ZbN(aW:Option Addr)(aV aX:Nat)(aD:Bool)(aO aP aQ aR aS aT:Int)(aM:Option Addr)(aL aN:Nat)(aY aZ bA bB bC bD bE bM bN:Int)(m:Mem)(R:RT):Prop:=
 ∀(b:Nat)(m':Mem),Mem.le m m'->Mem.reads m' b 0 [slice aW aV aX,bool aD]->∀(b:Nat)(ab:Mem),Mem.le m' ab->Mem.reads ab b 0 [int u8 6,int u64 aO,int u64 aP,int u64 aQ,int u64 aR,
 int i64 aS,int i64 aT,slice aM aL aN]->∀(b:Nat)(m':Mem),Mem.le ab m'->Mem.reads m' b 0 [int u64 aY,int u64 aZ,int u64 bA,int u64 bB,int u64 bC,int u64 bD,int u64 bE,int u64
 bM,int u64 bN]->∀(b:Nat),∃(f:Fx),∃(R_1:RT),R_1=f 1 [agg (Array.mk [slice aW aV aX,bool aD])] m'/\CX Tryz.prog 55 (Array.mk [agg (Array.mk [slice aW aV aX,bool aD])]) m' []
 R_1/\Zaz (Shape.agg [Shape.fn,Shape.fn,Shape.fn,Shape.fn,Shape.fn,Shape.fn,Shape.fn]) R_1/\∀(g:Nat)(fi ca:List Value)(ao:Nat)(ap aq:List Value)(ar:Nat)(au av:List Value)(aw:Nat) (ax ay:
 List Value) (az:Nat) (a0 a1:List Value) (a2:Nat) (a3 a4:List Value) (af:Nat) (ac ad:List Value) (aa:Mem),Mem.le m' aa->R_1 (agg (Array.mk [func (Fn.func g) (Array.mk fi) (Array.mk ca),func (Fn.func ao)
 (Array.mk ap) (Array.mk aq),func (Fn.func ar) (Array.mk au) (Array.mk av),func (Fn.func aw) (Array.mk ax) (Array.mk ay),func (Fn.func az) (Array.mk a0) (Array.mk a1),func (Fn.func a2) (Array.mk a3) (Array.mk a4),
 func (Fn.func af) (Array.mk ac) (Array.mk ad)])) aa []->Zag (6:Int) 7/\∃(R_2:RT),R_2=f 7 (List.append (List.append ac [agg (Array.mk [int u8 6,int u64 aO,int u64 aP,int u64 aQ,int u64 aR,int
 i64 aS,int i64 aT,slice aM aL aN]),agg (Array.mk [int u64 aY,int u64 aZ,int u64 bA,int u64 bB,int u64 bC,int u64 bD,int u64 bE,int u64 bM,int u64 bN])]) ad) aa/\CX Tryz.prog af
 (Array.mk (List.append (List.append ac [agg (Array.mk [int u8 6,int u64 aO,int u64 aP,int u64 aQ,int u64 aR,int i64 aS,int i64 aT,slice aM aL aN]),agg (Array.mk [int u64 aY,int u64 aZ,
 int u64 bA,int u64 bB,int u64 bC,int u64 bD,int u64 bE,int u64 bM,int u64 bN])]) ad)) aa [] R_2/\Zaz (Shape.agg [Shape.int u64,Shape.int u64,Shape.int u64,Shape.int u64,Shape.int u64,Shape.int
 u64,Shape.int u64,Shape.int u64,Shape.int u64]) R_2/\∀(n ag ah ai aj ak al am an:Int)(ae:Mem),Mem.le aa ae->R_2 (agg (Array.mk [int u64 n,int u64 ag,int u64 ah,int u64 ai,int u64 aj,int u64 ak,int u64
 al,int u64 am,int u64 an])) ae []->∀(M:Mem),Mem.le m' M->Mem.le aa M->Mem.le ae M->∃(m'':Mem),Mem.le m m''/\Mem.le m'' M/\R (agg (Array.mk [int u64 n,int u64 ag,int u64 ah,int u64 ai,int u64 aj,int
 u64 ak,int u64 al,int u64 am,int u64 an])) m'' []
theorem Zey(aW:Option Addr)(aV aX:Nat)(aD:Bool)(aO aP aQ aR aS aT:Int)(aM:Option Addr)(aL aN:Nat)(aY aZ bA bB bC bD bE bM bN:Int)(m:Mem)(R:RT)(h:ZbN aW aV aX aD aO aP aQ aR aS aT aM aL aN aY aZ bA bB bC bD bE bM bN m R):CX Tryz.prog 39 #[.agg #[.slice aW aV aX,.bool aD],.agg #[.int .u8 6,.int .u64 aO,.int .u64 aP,.int .u64 aQ,.int .u64 aR,.int .i64 aS,.int .i64 aT,.slice aM aL aN],.agg #[.int .u64 aY,.int .u64 aZ,.int .u64 bA,.int .u64 bB,.int .u64 bC,.int .u64 bD,.int .u64 bE,.int .u64 bM,.int .u64 bN]] m [] R:=
 Zah (E:=Ze4) Zay mix Tryz.func39 [.v (.agg #[.slice aW aV aX,.bool aD]),.v (.agg #[.int .u8 6,.int .u64 aO,.int .u64 aP,.int .u64 aQ,.int .u64 aR,.int .i64 aS,.int .i64 aT,.slice aM aL aN]),.v (.agg #[.int .u64 aY,.int .u64 aZ,.int .u64 bA,.int .u64 bB,.int .u64 bC,.int .u64 bD,.int .u64 bE,.int .u64 bM,.int .u64 bN])] [] (by kernel_rfl) (Eq.mp (by kernel_rfl) h)
end Go.Proofs.YtgclajkldphoaaaGreat