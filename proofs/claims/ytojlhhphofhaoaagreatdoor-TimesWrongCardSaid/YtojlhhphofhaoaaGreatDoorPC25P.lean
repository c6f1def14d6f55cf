/- Part of the proof: functions of the program. No condition. -/
import Derived.Test.YtojlhhphofhaoaaGreatDoorPC13Q
import Derived.Test.YtojlhhphofhaoaaGreatDoorMr
import Derived.Test.YtojlhhphofhaoaaGreatDoorPVEA
import Derived.Laws.Externs
set_option linter.unusedVariables false
set_option linter.unusedSimpArgs false
set_option linter.unusedSectionVars false
namespace Go.Proofs.YtojlhhphofhaoaaGreatDoor
open Go Go.Eng Go.Rx Go.Proofs Go.RowKit
set_option maxRecDepth 100000
theorem ZuJ(t:T)(m:Mem)(hr:Rep m t):CX Tryz.prog 198 #[t.v] m [] (Ret (.bool t.right)):=by
 apply ZoU
 intro b m1 aV _
 have dR:=hr.mono aV
 refine⟨t.k != 2&&!t.setZ||(t.k != 5&&(t.mn != 0||t.mx != 0)||(decide (t.k < 3)&&decide (0 < t.subs.length))),?_,Zab (λh=>Zac aV ?_) (λh=>?_)⟩
 ·refine Zab (λh1=>?_) (λh1=>?_)
  ·refine⟨t.setZ,ZuI _ _ _ _ _ _ _ _,?_⟩
   simp only[Zsr]
   (repeat' split) <;> simp_all <;> omega
  ·simp only[Zsr]
   (repeat' split) <;> simp_all <;> omega
 ·simp[Ret,T.right,h]
 ·refine Zab (λh1=>Zac aV ?_) (λh1=>Zab (λh2=>⟨t.setZ,ZuI _ _ _ _ _ _ _ _,Zac aV ?_⟩) (λh2=>Zab (λh3=>?_) (λh3=>Zab (λh4=>?_) (λh4=>Zab (λh5=>?_) (λh5=>?_)))))
  ·have:t.k=1:=by simpa using h1
   show Value.bool _=Value.bool t.right;rw[T.right,h];simp[this]
  ·have:t.k=2:=by simpa using h2
   show Value.bool _=Value.bool t.right;rw[T.right,h];simp[this]
  ·have:t.k=3:=by simpa using h3
   refine⟨decide (1 < t.subs.length)&&(!t.has 1&&!t.has 3),Zab (λh4=>?_) (λh4=>?_),Zac aV ?_⟩
   ·refine Zag (ZsQ t 1 m1 dR) λm2 bA=>Zab (λh5=>?_) (λh5=>?_)
    ·refine Zag (ZsQ t 3 m2 (dR.mono bA)) λm3 bR=>⟨rfl,Zae ?_⟩
     simp_all <;> (intros;omega)
    ·refine⟨rfl,Zae ?_⟩
     simp_all <;> (intros;omega)
   ·refine⟨rfl,Zae ?_⟩
    simp_all <;> (intros;omega)
   ·show Value.bool _=Value.bool t.right;rw[T.right,h];simp[this]
  ·have:t.k=4:=by simpa using h4
   refine⟨decide (1 < t.subs.length)&&!t.has 4,Zab (λh4=>?_) (λh4=>?_),Zac aV ?_⟩
   ·refine Zag (ZsQ t 4 m1 dR) λm2 bA=>⟨rfl,Zae ?_⟩
    simp_all <;> (intros;omega)
   ·refine⟨rfl,Zae ?_⟩
    simp_all <;> (intros;omega)
   ·show Value.bool _=Value.bool t.right;rw[T.right,h];simp[this]
  ·have:t.k=5:=by simpa using h5
   refine⟨t.subs.length == 1&&(Zj6 t.mn t.mx&&!t.has 1),Zab (λh4=>?_) (λh4=>?_),Zac aV ?_⟩
   ·refine Zag (ZsP t.mn t.mx m1) λm2 bA=>Zab (λh5=>?_) (λh5=>?_)
    ·refine Zag (ZsQ t 1 m2 (dR.mono bA)) λm3 bR=>⟨rfl,Zae ?_⟩
     have h4':((t.subs.length:Int) == 1)=true:=h4
     have:t.subs.length=1:=by have:=of_decide_eq_true h4';omega
     simp_all <;> (intros;omega)
    ·refine⟨rfl,Zae ?_⟩
     simp_all <;> (intros;omega)
   ·refine⟨rfl,Zae ?_⟩
    have h4':((t.subs.length:Int) == 1)=false:=h4
    have:¬t.subs.length=1:=by have:=of_decide_eq_false h4';omega
    simp_all <;> (intros;omega)
   ·show Value.bool _=Value.bool t.right;rw[T.right,h];simp[this]
  ·refine⟨t.k == 6&&t.subs.length == 1,Zab (λh4=>⟨rfl,Zae ?_⟩) (λh4=>⟨rfl,Zae ?_⟩),Zac aV ?_⟩
   ·have:(t.k == 6)=true:=h4
    rw[this,Bool.true_and]
    show(decide ((t.subs.length:Int)=1))=decide (t.subs.length=1)
    rw[decide_eq_decide];omega
   ·have:(t.k == 6)=false:=h4
    simp[this]
   ·show Value.bool _=Value.bool t.right;rw[T.right,h]
    have e1:¬t.k=1:=by simpa using h1
    have e2:¬t.k=2:=by simpa using h2
    have e3:¬t.k=3:=by simpa using h3
    have e4:¬t.k=4:=by simpa using h4
    have e5:¬t.k=5:=by simpa using h5
    simp[e1,e2,e3,e4,e5]
theorem ZuK(t:T)(m:Mem)(hr:Rep m t):CX Tryz.prog 180 #[t.v] m [] (Ret (.bool t.clean)):=by
 apply ZoV
 intro b m1 aV _ b2
 refine Zag (ZeQ t m1 (hr.mono aV)) λm2 bA=>Zab (λh=>Zac (mLt aV bA) ?_) (λh=>?_)
 ·have:t.light=false:=by simpa using h
  simp[Ret,T.clean,this]
 have hl:t.light=true:=by simpa using h
 refine Zai (Zh1 t m2) (λv m' css h=>by obtain⟨_,rfl,_⟩:=h;rfl) ?_
 rintro g fi ca m3 bR ⟨b3,hv,fB⟩
 obtain⟨rfl,rfl,rfl⟩:=Zcp hv
 have cJ:=mLt aV (mLt bA bR)
 refine⟨_,Zfr t m3 b3 fB (hr.mono cJ),λy hy=>?_,λ_ css _ m' q=>m3.le m'/\∀x∈t.nodes.take q,x.right=true,⟨Mem.le_refl _,by simp⟩,?_,?_⟩
 ·obtain⟨z,_,rfl⟩:=List.mem_map.1 hy;exact Zqb z
 ·rintro n0 n1 n2 n3 n4 n5 n6 a n7 c cs m4 q cO hq ⟨_,gD⟩ b4
  have hq':(List.map (λz:T=>[z.v]) t.nodes)[(q:Nat)]?=some [Value.agg #[.int .u8 n0,.int .u64 n1,.int .u64 n2,.int .u64 n3,.int .u64 n4,.int .i64 n5,.int .i64 n6,.slice a n7 c]]:=hq
  rw[List.getElem?_map]at hq'
  obtain⟨z,hz,iZ⟩:=Option.map_eq_some_iff.1 hq'
  have kw:z.v=Value.agg #[.int .u8 n0,.int .u64 n1,.int .u64 n2,.int .u64 n3,.int .u64 n4,.int .i64 n5,.int .i64 n6,.slice a n7 c]:=by simpa using iZ
  have rR:Rep m4 z:=(Zsu (hr.mono cJ) (List.mem_of_getElem? hz)).mono cO
  have hU:=ZuJ z m4 rR
  rw[kw]at hU
  refine Zag hU λm5 dY=>Zab (λh=>⟨rfl,Zac (mLt cJ (mLt cO dY)) ?_⟩) (λh=>⟨rfl,mLt cO dY,λx hx=>?_⟩)
  ·have oa:z.right=false:=by simpa using h
   have:t.nodes.all T.right=false:=by
    rw[List.all_eq_false];exact⟨z,List.mem_of_getElem? hz,by simp[oa]⟩
   simp[Ret,T.clean,this]
  ·rw[List.take_add_one,hz]at hx
   rcases List.mem_append.1 hx with hx|hx
   ·exact gD x hx
   ·simp at hx;rw[hx];simpa using h
 ·rintro cs m4 cO ⟨_,gD⟩
  refine Zac (mLt cJ cO) ?_
  rw[List.length_map,List.take_length]at gD
  have:t.nodes.all T.right=true:=List.all_eq_true.2 gD
  simp[Ret,T.clean,this,hl]
theorem Zro(t:T)(m:Mem)(hr:Rep m t):CX Tryz.prog 60 #[t.v] m [] (Ret (.int .i64 t.size)):=by
 apply Zqr
 intro b m1 aV _
 refine Zag (ZeQ t m1 (hr.mono aV)) λm2 bA=>Zab (λh=>Zac (mLt aV bA) ?_) (λh=>?_)
 ·have:t.light=false:=by simpa using h
  simp[Ret,T.size,this]
 have hl:t.light=true:=by simpa using h
 have qo:t.nodes.length<=10000:=of_decide_eq_true hl
 intro b2
 refine Zai (Zh1 t m2) (λv m' css h=>by obtain⟨_,rfl,_⟩:=h;rfl) ?_
 rintro g fi ca m3 bR ⟨b3,hv,fB⟩
 obtain⟨rfl,rfl,rfl⟩:=Zcp hv
 have cJ:=mLt aV (mLt bA bR)
 refine⟨_,Zfr t m3 b3 fB (hr.mono cJ),λy hy=>?_,λ_ css _ m' q=>css=[[.int .i64 q]]/\q<=t.nodes.length,⟨rfl,by omega⟩,?_,?_⟩
 ·obtain⟨z,_,rfl⟩:=List.mem_map.1 hy;exact Zqb z
 ·rintro n0 n1 n2 n3 n4 n5 n6 a n7 c cs m4 q cO hq ⟨dM,_⟩
  obtain rfl:cs=[.int .i64 q]:=by simpa using dM
  have bB:q < t.nodes.length:=by
   have:=(List.getElem?_eq_some_iff.1 (show(List.map (λz:T=>[z.v]) t.nodes)[(q:Nat)]?=some _ from hq)).1
   simpa using this
  have hw:IntKind.i64.wrap (intOf (Value.int .i64 (q:Int))+1)=(q:Int)+1:=Zal (n:=(q:Int)+1) (by omega) (by omega)
  refine Zao rfl (Zaa rfl ?_)
  simp only[hw]
  exact⟨by trivial,by simp,by omega⟩
 ·rintro cs m4 cO ⟨dM,gD⟩
  obtain rfl:cs=[.int .i64 t.nodes.length]:=by simpa using dM
  refine Zao rfl (Zac (mLt cJ cO) ?_)
  simp[Ret,T.size,hl]
theorem ZoY(t:T)(m:Mem)(hr:Rep m t):CX Tryz.prog 182 #[t.v] m [] (Ret (.int .i64 t.groups)):=by
 apply ZmX
 intro b m1 aV _
 refine Zag (ZeQ t m1 (hr.mono aV)) λm2 bA=>Zab (λh=>Zac (mLt aV bA) ?_) (λh=>?_)
 ·have:t.light=false:=by simpa using h
  simp[Ret,T.groups,this]
 have hl:t.light=true:=by simpa using h
 have qo:t.nodes.length<=10000:=of_decide_eq_true hl
 intro b2
 refine Zai (Zh1 t m2) (λv m' css h=>by obtain⟨_,rfl,_⟩:=h;rfl) ?_
 rintro g fi ca m3 bR ⟨b3,hv,fB⟩
 obtain⟨rfl,rfl,rfl⟩:=Zcp hv
 have cJ:=mLt aV (mLt bA bR)
 have fO:∀q,(t.nodes.take q).countP (λx=>x.k == 6)<=10000:=λq=>by
  have h1:=List.countP_le_length (p:=λx:T=>x.k == 6) (l:=t.nodes.take q)
  have h2:(t.nodes.take q).length<=t.nodes.length:=List.length_take_le' _ _
  omega
 refine⟨_,Zfr t m3 b3 fB (hr.mono cJ),λy hy=>?_,λ_ css _ m' q=>css=[[.int .i64 ((t.nodes.take q).countP λx=>x.k == 6:Nat)]]/\q<=t.nodes.length,⟨rfl,by omega⟩,?_,?_⟩
 ·obtain⟨z,_,rfl⟩:=List.mem_map.1 hy;exact Zqb z
 ·rintro n0 n1 n2 n3 n4 n5 n6 a n7 c cs m4 q cO hq ⟨dM,_⟩ b4
  obtain rfl:cs=_:=by simpa using dM
  have hq':(List.map (λz:T=>[z.v]) t.nodes)[(q:Nat)]?=some [Value.agg #[.int .u8 n0,.int .u64 n1,.int .u64 n2,.int .u64 n3,.int .u64 n4,.int .i64 n5,.int .i64 n6,.slice a n7 c]]:=hq
  rw[List.getElem?_map]at hq'
  obtain⟨z,hz,iZ⟩:=Option.map_eq_some_iff.1 hq'
  have hk:z.k=n0:=by
   have:z.v=Value.agg #[.int .u8 n0,.int .u64 n1,.int .u64 n2,.int .u64 n3,.int .u64 n4,.int .i64 n5,.int .i64 n6,.slice a n7 c]:=by simpa using iZ
   simp[T.v]at this;exact this.1
  have bB:=(List.getElem?_eq_some_iff.1 hz).1
  have fK:(t.nodes.take (q+1)).countP (λx=>x.k == 6)=(t.nodes.take q).countP (λx=>x.k == 6)+(if z.k == 6 then 1 else 0):=by
   rw[List.take_add_one,hz,List.countP_append];simp[List.countP_cons]
  refine Zab (λh=>?_) (λh=>?_)
  ·have hw:IntKind.i64.wrap (intOf (Value.int .i64 ((t.nodes.take q).countP λx=>x.k == 6:Nat))+1)=(((t.nodes.take q).countP λx=>x.k == 6:Nat):Int)+1:=Zal (n:=(((t.nodes.take q).countP λx=>x.k == 6:Nat):Int)+1) (by have:=fO q;omega) (by have:=fO q;omega)
   refine Zao rfl (Zaa rfl ?_)
   simp only[hw]
   refine⟨by trivial,?_,by omega⟩
   rw[fK,hk]
   have:(n0 == 6)=true:=h
   simp[this]
  ·refine⟨rfl,?_,by omega⟩
   rw[fK,hk]
   have:(n0 == 6)=false:=h
   simp[this]
 ·rintro cs m4 cO ⟨dM,gD⟩
  obtain rfl:cs=_:=by simpa using dM
  refine Zao rfl (Zac (mLt cJ cO) ?_)
  simp[Ret,T.groups,hl]
theorem Zht(t:T)(m:Mem)(hr:Rep m t)(hl:t.nodes.length<=10000):CX Tryz.prog 199 #[t.v] m [] (Ret (.int .i64 t.pos)):=by
 apply Zhp
 intro b m1 aV _
 have fP:=ZtO t
 have gq:=Zqc t
 refine Zab (λhk=>?_) (λhk=>?_)
 all_goals
  have hk':(if t.k=2 then(1:Int)else 0)=1/\t.k=2\/(if t.k=2 then(1:Int)else 0)=0/\t.k≠2:=by split <;> simp_all
  refine⟨λxs _ _ m'' q=>∃i:Nat,i<=t.subs.length/\xs=[.int .i64 ((if t.k=2 then 1 else 0)+Zfc (t.subs.take i)),.int .i64 i]/\m1.le m''/\q=t.subs.length - i,⟨t.subs.length,0,by omega,by simp_all [Zfc],Mem.le_refl _,by omega⟩,?_⟩
  rintro n n1 m2 q bA ⟨i,hi,eZ,_,hq⟩
  have dF:=ZgY (t.subs.take i)
  have fD:=ZtN (t.subs.take i)
  have fB:(t.subs.take i).length<=i:=List.length_take_le _ _
  clear hk'
  generalize hc:(if t.k=2 then(1:Int)else 0)=c at *
  have s5:0<=c/\c<=1:=by rw[<-hc];split <;> omega
  simp only[List.cons.injEq,Value.int.injEq,true_and,and_true]at eZ
  obtain⟨rfl,rfl⟩:=eZ
  refine Zab (λbB=>?_) (λdB=>?_)
  ·have bQ:i < t.subs.length:=by simpa using bB
   obtain⟨x,hx⟩:∃x,t.subs[i]?=some x:=⟨_,List.getElem?_eq_getElem bQ⟩
   have cP:x∈t.subs:=List.mem_of_getElem? hx
   have cE:=Zst cP
   have tw:=Zsw cP
   obtain⟨_,h0|⟨b1,o1,ha,f9⟩⟩:=Zjn hr
   ·rw[h0]at bQ;simp at bQ
   obtain⟨dZ,eU⟩:=(f9.mono ((mLt aV bA))).get hx
   have t4:=Zij x
   refine⟨b1,o1,ha,⟨by omega,by omega⟩,_,_,_,_,_,_,_,_,dZ,λb2=>Zaa rfl ?_⟩
   refine Zax (Zht x m2 eU (by omega)) λm3 bR=>⟨rfl,t.subs.length - (i+1),by omega,i+1,by omega,?_,mLt bA bR,rfl⟩
   rw[Zal (by omega) (by omega),Zal (by omega) (by omega),Zsv hx,Int.add_assoc]
   rfl
  ·have hi':i=t.subs.length:=by
    have:¬((i:Int) < (t.subs.length:Int)):=by simpa using dB
    omega
   subst hi'
   rw[List.take_length]at dF fD ⊢
   have hF:=ZtM t.mn t.mx
   have oX:0<=(c+Zfc t.subs)*ZuB t.mn t.mx/\(c+Zfc t.subs)*ZuB t.mn t.mx<=100020001*10001:=by
    constructor
    ·exact Int.mul_nonneg (by omega) hF.1
    ·exact Int.mul_le_mul (by omega) hF.2 hF.1 (by omega)
   refine Zab (λh5=>Zab (λhx=>Zac (mLt aV bA) ?_) (λhx=>Zac (mLt aV bA) ?_)) (λh5=>Zac (mLt aV bA) ?_)
   ·have e1:t.k=5:=by simpa using h5
    have e2:t.mx=-1:=by simpa using hx
    have hF':ZuB t.mn t.mx=Zic (Zps (Zps t.mn 0) 1) 10001:=by simp[ZuB,e2]
    show Value.int .i64 (Zic (IntKind.i64.wrap ((c+Zfc t.subs)*Zic (Zps (Zps t.mn 0) 1) 10001)) 10001)=Value.int .i64 t.pos
    rw[<-hF',Zal (by omega) (by omega),gq,Zvz,if_pos e1];rfl
   ·have e1:t.k=5:=by simpa using h5
    have e2:¬t.mx=-1:=by simpa using hx
    have hF':ZuB t.mn t.mx=Zic (Zps (Zps t.mn 0) t.mx) 10001:=by simp[ZuB,e2]
    show Value.int .i64 (Zic (IntKind.i64.wrap ((c+Zfc t.subs)*Zic (Zps (Zps t.mn 0) t.mx) 10001)) 10001)=Value.int .i64 t.pos
    rw[<-hF',Zal (by omega) (by omega),gq,Zvz,if_pos e1];rfl
   ·have e1:¬t.k=5:=by simpa using h5
    show Value.int .i64 (Zic (c+Zfc t.subs) 10001)=Value.int .i64 t.pos
    rw[gq,Zvz,if_neg e1]
termination_by SizeOf.sizeOf t
decreasing_by all_goals exact cE
theorem ZmZ(t:T)(m:Mem)(hr:Rep m t):CX Tryz.prog 181 #[t.v] m [] (Ret (.int .i64 t.positions)):=by
 apply Zhq
 intro b m1 aV _
 refine Zag (ZeQ t m1 (hr.mono aV)) λm2 bA=>Zab (λh=>Zac (mLt aV bA) ?_) (λh=>?_)
 ·have:t.light=false:=by simpa using h
  simp[Ret,T.positions,this]
 have hl:t.light=true:=by simpa using h
 refine Zax (Zht t m2 (hr.mono (mLt aV bA)) (of_decide_eq_true hl)) λm3 bR=>Zac (mLt aV (mLt bA bR)) ?_
 simp[Ret,T.positions,hl]
def ZzG(bg en:Bool)(t:T):Value:=.agg #[.bool bg,.bool en,.int .u8 t.k,.int .u64 t.s0,.int .u64 t.s1,.int .u64 t.s2,.int .u64 t.s3,.int .i64 t.mn,.int .i64 t.mx,.slice t.a t.subs.length t.c]
theorem ZuL(bg en:Bool)(t:T)(m:Mem)(hr:Rep m t):CX Tryz.prog 159 #[ZzG bg en t] m [] (Ret (.int .i64 t.check)):=by
 apply ZoX
 intro b m1 aV _
 refine Zag (ZuK t m1 (hr.mono aV)) λm2 bA=>Zab (λh=>Zac (mLt aV bA) ?_) (λh=>?_)
 ·have:t.clean=false:=by simpa using h
  simp[Ret,T.check,this]
 have jz:=mLt aV bA
 have h1:¬t.clean=false:=by simpa using h
 refine Zax (Zro t m2 (hr.mono jz)) λm3 bR=>Zab (λh=>Zac (mLt jz bR) ?_) (λh=>?_)
 ·have h2:t.size > 120:=by simpa using h
  show Value.int .i64 81=Value.int .i64 t.check
  rw[T.check,if_neg h1,if_pos h2]
 have h2:¬t.size > 120:=by simpa using h
 have kx:=mLt jz bR
 refine Zax (ZmZ t m3 (hr.mono kx)) λm4 cO=>Zab (λh=>Zac (mLt kx cO) ?_) (λh=>?_)
 ·have h3:t.positions > 400:=by simpa using h
  show Value.int .i64 82=Value.int .i64 t.check
  rw[T.check,if_neg h1,if_neg h2,if_pos h3]
 have h3:¬t.positions > 400:=by simpa using h
 have mR:=mLt kx cO
 refine Zax (ZoY t m4 (hr.mono mR)) λm5 dY=>Zab (λh=>Zac (mLt mR dY) ?_) (λh=>Zac (mLt mR dY) ?_)
 ·have h4:t.groups > 9:=by simpa using h
  show Value.int .i64 83=Value.int .i64 t.check
  rw[T.check,if_neg h1,if_neg h2,if_neg h3,if_pos h4]
 ·have h4:¬t.groups > 9:=by simpa using h
  show Value.int .i64 0=Value.int .i64 t.check
  rw[T.check,if_neg h1,if_neg h2,if_neg h3,if_neg h4]
theorem Zm0(l l':List T)(a a':Option Addr)(c c':Nat)(m:Mem)(hl:l.length<=1000000000000000)(hr:l=[]\/∃b o,a=some ⟨b,o,none⟩/\RepAt m b o l)(hr':l'=[]\/∃b o,a'=some ⟨b,o,none⟩/\RepAt m b o l')
  (hp:∀x∈l,∀y∈l',∀m',m.le m'->Rep m' x->Rep m' y->CX Tryz.prog 111 #[x.v,y.v] m' [] (Ret (.bool (x.same y)))):
  CX Tryz.prog 133 #[.slice a l.length c,.slice a' l'.length c',.func (.func 111) #[] #[]] m [] (Ret (.bool (Zgx l l'))):=by
 apply ZaH a l.length c a' l'.length c' _ [] []
 refine Zab (λh=>Zac (Mem.le_refl _) ?_) (λh=>?_)
 ·have:¬l.length=l'.length:=by
   intro e;rw[e]at h;simp at h
  show Value.bool false=_
  rw[Zom this]
 have gx:l.length=l'.length:=by
  have h2:((l.length:Int) == (l'.length:Int))=true:=by simpa using h
  have:=of_decide_eq_true h2;omega
 refine⟨λxs _ _ m'' q=>∃i:Nat,i<=l.length/\xs=[.int .i64 i]/\Zgx (l.take i) (l'.take i)=true/\m.le m''/\q=l.length - i,⟨l.length,0,by omega,rfl,by simp[Zgx],Mem.le_refl _,by omega⟩,?_⟩
 rintro n m' q hm ⟨i,hi,hn,fw,cJ,hq⟩
 obtain rfl:n=i:=by simpa using hn
 refine Zab (λbB=>?_) (λdB=>?_)
 ·have bQ:i < l.length:=by simpa using bB
  obtain⟨x,hx⟩:∃x,l[i]?=some x:=⟨_,List.getElem?_eq_getElem bQ⟩
  obtain⟨y,hy⟩:∃y,l'[i]?=some y:=⟨_,List.getElem?_eq_getElem (by omega)⟩
  have lx:x∈l:=List.mem_of_getElem? hx
  have rS:y∈l':=List.mem_of_getElem? hy
  rcases hr with h0|⟨b1,o1,ha,f9⟩
  ·rw[h0]at bQ;simp at bQ
  rcases hr' with h0|⟨b2,o2,ha',mS⟩
  ·rw[h0]at gx;simp at gx;rw[gx]at bQ;simp at bQ
  obtain⟨dZ,eU⟩:=(f9.mono hm).get hx
  obtain⟨gU,ky⟩:=(mS.mono hm).get hy
  refine⟨b1,o1,ha,⟨by omega,by omega⟩,_,_,_,_,_,_,_,_,dZ,λb3=>Zaa rfl ⟨b2,o2,ha',⟨by omega,by omega⟩,_,_,_,_,_,_,_,_,gU,λb4=>Zaa rfl ?_⟩⟩
  refine Zag (hp x lx y rS m' hm eU ky) λm1 aV=>Zab (λfR=>?_) (λfR=>?_)
  ·have hf:x.same y=false:=by simpa using fR
   refine Zac (mLt hm aV) ?_
   show Value.bool false=_
   rw[Zq9 hx hy hf]
  ·have hf:x.same y=true:=by simpa using fR
   refine⟨l.length - (i+1),by omega,i+1,by omega,by rw[Zal (by omega) (by omega)];rfl,ZlJ hx hy fw hf trivial,mLt hm aV,rfl⟩
 ·have hi':i=l.length:=by
   have:¬((i:Int) < (l.length:Int)):=by simpa using dB
   omega
  subst hi'
  refine Zac hm ?_
  rw[List.take_length,gx,List.take_length]at fw
  show Value.bool true=_
  rw[fw]
theorem ZtY(t u:T)(m:Mem)(hr:Rep m t)(hu:Rep m u):CX Tryz.prog 111 #[t.v,u.v] m [] (Ret (.bool (t.same u))):=by
 apply Zqt
 intro b m1 aV _ b' m2 bA _
 have hm:=mLt aV bA
 refine⟨t.same u,?_,Zac hm rfl⟩
 rw[Zwb]
 refine Zab (λh1=>⟨_,ZuI _ _ _ _ _ _ _ _,Zab (λh2=>Zab (λh3=>Zab (λh4=>?_) (λh4=>⟨rfl,Zae ?_⟩)) (λh3=>⟨rfl,Zae ?_⟩)) (λh2=>⟨rfl,Zae ?_⟩)⟩) (λh1=>⟨rfl,Zae ?_⟩)
 ·have hr':=Zjn (hr.mono hm)
  have hu':=Zjn (hu.mono hm)
  refine Zag (Zm0 t.subs u.subs t.a u.a t.c u.c m2 hr'.1 hr'.2 hu'.2 λx hx y hy m' _ dZ gU=>?_) λm3 bR=>⟨rfl,Zae ?_⟩
  ·have cE:=Zst hx
   exact ZtY x y m' dZ gU
  ·rw[h1,h2,h3,h4];rfl
 ·rw[h1,h2,h3,h4];rfl
 ·rw[h1,h2,h3];rfl
 ·rw[h1,h2];rfl
 ·rw[h1];rfl
termination_by SizeOf.sizeOf t
decreasing_by exact cE
theorem Zwt(t u:T)(m:Mem)(hr:Rep m t)(hu:Rep m u):CX Tryz.prog 80 #[t.v,u.v] m [] (Ret (.bool (t.light&&(u.light&&t.same u)))):=by
 apply Zqu
 intro b m1 aV _ b' m2 bA _
 have hm:=mLt aV bA
 refine⟨t.light&&(u.light&&t.same u),?_,Zac hm rfl⟩
 refine Zag (ZeQ t m2 (hr.mono hm)) λm3 bR=>Zab (λh1=>?_) (λh1=>⟨rfl,Zae ?_⟩)
 ·refine Zag (ZeQ u m3 (hu.mono (mLt hm bR))) λm4 cO=>Zab (λh2=>?_) (λh2=>?_)
  ·have dY:=mLt (mLt hm bR) cO
   refine Zag (ZtY t u m4 (hr.mono dY) (hu.mono dY)) λm6 gZ=>⟨rfl,Zae ?_⟩
   rw[h1,h2];rfl
  ·refine⟨rfl,Zae ?_⟩
   rw[h1,h2];rfl
 ·rw[h1];rfl
end Go.Proofs.YtojlhhphofhaoaaGreatDoor
namespace Go.Proofs.YtojlhhphofhaoaaGreatDoor
open Go Go.Eng Go.Rx Go.Proofs Go.RowKit
theorem Zjr{b:Bool}{p q:Prop}(h:b=true)(k:p):br b p q:=by subst h;exact k
theorem ZdE{b:Bool}{p q:Prop}(h:b=false)(k:q):br b p q:=by subst h;exact k
theorem Zbc{α:Type}{l:List α}{k:Nat}(h:k < l.length):∃x,l[k]?=some x:=⟨l[k],List.getElem?_eq_getElem h⟩
theorem Zbt(t:T):Rx.ZcI [t]=t.cs:=by simp[Rx.ZcI]
theorem Zeo{m:Mem}{a:Option Addr}{ts:List T}(h:rowRd m a (Rx.ZcI ts)){i:Nat}{t:T}(hi:ts[i]?=some t):∃b o,a=some ⟨b,o,none⟩/\m.reads b (o+i*8) t.cs:=by
 rcases h with h|⟨b,o,ha,h⟩
 ·have hl:(Rx.ZcI ts).length=0:=by rw[h];rfl
  rw[ZaL]at hl
  have:=(List.getElem?_eq_some_iff.1 hi).1
  omega
 ·refine⟨b,o,ha,λj v hj=>?_⟩
  rw[Nat.add_assoc]
  refine h (i*8+j) v ?_
  have e:ts=ts.take i++(t::ts.drop (i+1)):=by
   have bB:=(List.getElem?_eq_some_iff.1 hi).1
   have h2:=List.drop_eq_getElem_cons bB
   rw[(List.getElem?_eq_some_iff.1 hi).2]at h2
   rw[<-h2,List.take_append_drop]
  have bB:=(List.getElem?_eq_some_iff.1 hi).1
  have rP:=(List.getElem?_eq_some_iff.1 hj).1
  rw[e,ZaM,List.getElem?_append_right (by rw[ZaL,List.length_take,Nat.min_eq_left (by omega)];omega),ZaL,List.length_take,Nat.min_eq_left (by omega),show i*8+j - i*8=j by omega]
  have e2:Rx.ZcI (t::ts.drop (i+1))=t.cs++Rx.ZcI (ts.drop (i+1)):=by simp[Rx.ZcI]
  rw[e2,List.getElem?_append_left rP];exact hj
def ZtZ(mb M0:Mem)(φ:T->Prop):Value->Mem->List (List Value)->Prop:=λv M' css=>∃m0,mb.le m0/\m0.le M'/\(∀b o u,M0 b o=some u->∀o',m0 b o'=mb b o')/\Zpy φ v m0 css
theorem ZlX{mb M0:Mem}{φ:T->Prop}{m:Mem}{K:TRK}(k:∀(t:T)(m0 m':Mem),m.le m'->mb.le m0->m0.le m'->(∀b o u,M0 b o=some u->∀o',m0 b o'=mb b o')->Rep m0 t->φ t->K t.k t.s0 t.s1 t.s2 t.s3 t.mn t.mx t.a t.subs.length t.c m'):
  ∀(n0 n1 n2 n3 n4 n5 n6:Int)(a:Option Addr)(n c:Nat)(m':Mem),m.le m'->ZtZ mb M0 φ (.agg #[.int .u8 n0,.int .u64 n1,.int .u64 n2,.int .u64 n3,.int .u64 n4,.int .i64 n5,.int .i64 n6,.slice a n c]) m' []->K n0 n1 n2 n3 n4 n5 n6 a n c m':=by
 rintro n0 n1 n2 n3 n4 n5 n6 a n c m' hm ⟨m0,h1,h2,h3,t,hv,hr,hp⟩
 simp only[T.v,Value.agg.injEq,Array.mk.injEq,List.cons.injEq,Value.int.injEq,Value.slice.injEq,true_and,and_true]at hv
 obtain⟨rfl,rfl,rfl,rfl,rfl,rfl,rfl,rfl,rfl,rfl⟩:=hv
 exact k t m0 m' hm h1 h2 h3 hr hp
theorem Zd4{mb M0:Mem}{φ:T->Prop}:∀(v:Value)(m':Mem) (css:List (List Value)),ZtZ mb M0 φ v m' css->Shape.fits (.agg [.int .u8,.int .u64,.int .u64,.int .u64,.int .u64,.int .i64,.int .i64,.slice]) v=true:=λv _ _ ⟨_,_,_,_,t,e,_⟩=>by rw[e];rfl
def Apart(mb:Mem)(a:Option Addr):Prop:=a=none\/∃b,a=some ⟨b,0,none⟩/\mb.free b
theorem Apart.tok{mb M:Mem}{a a':Option Addr}{n c:Nat}(h:Apart mb a)(hm:mb.le M)(ht:TokFact M a a' n c):Apart mb a':=by
 rcases ht.2 with h1|⟨b,o,h1,h2⟩
 ·exact .inl h1
 rcases h2 with h2|⟨h3,h2⟩
 ·rw[<-h2];exact h
 ·subst h3
  refine .inr ⟨b,h1,λo=>?_⟩
  cases hb:mb b o with
  | none=>rfl
  | some v=>have:=hm _ _ _ hb;rw[h2.1 o]at this;cases this
theorem Zrp{m:Mem}{a:Option Addr}{ts r:List T}(h:rowRd m a (Rx.ZcI (ts++r))):rowRd m a (Rx.ZcI ts):=by
 rw[ZaM]at h
 rcases h with h|⟨b,o,ha,h⟩
 ·exact .inl (List.append_eq_nil_iff.1 h).1
 ·refine .inr ⟨b,o,ha,λj v hj=>h j v ?_⟩
  rw[List.getElem?_append_left (List.getElem?_eq_some_iff.1 hj).1];exact hj
theorem Zrq{m:Mem}{b:Nat}{ts:List T}{x t:T}(h:rowRd m (some ⟨b,0,none⟩) (Rx.ZcI (ts++[x]))):rowRd (m.upd b (0+ts.length*8) t.cs) (some ⟨b,0,none⟩) (Rx.ZcI (ts++[t])):=by
 refine .inr ⟨b,0,rfl,λj v hj=>?_⟩
 rw[ZaM]at hj
 rcases Nat.lt_or_ge j (ts.length*8)with bB|dB
 ·rw[List.getElem?_append_left (by rw[ZaL];exact bB)]at hj
  unfold Mem.upd;try dsimp only
  rw[if_neg (by omega)]
  rcases h with h|⟨b',o',ha,h⟩
  ·have hl:(Rx.ZcI (ts++[x])).length=0:=by rw[h];rfl
   rw[ZaL,List.length_append]at hl
   simp at hl
  ·cases ha
   refine h j v ?_
   rw[ZaM,List.getElem?_append_left (by rw[ZaL];exact bB)];exact hj
 ·rw[List.getElem?_append_right (by rw[ZaL];exact dB),ZaL,Zbt]at hj
  have h8:=(List.getElem?_eq_some_iff.1 hj).1
  have h8':t.cs.length=8:=rfl
  unfold Mem.upd;try dsimp only
  rw[if_pos ⟨rfl,by omega,by omega⟩,show 0+j - (0+ts.length*8)=j - ts.length*8 by omega]
  exact hj
theorem Apart.base{mb m:Mem}{a:Option Addr}{ts:List T}(h:Apart mb a)(bF:rowRd m a (Rx.ZcI ts))(hn:ts≠[]):∃b,a=some ⟨b,0,none⟩/\mb.free b/\∃o u,m b o=some u:=by
 obtain⟨t,r,rfl⟩:∃t r,ts=t::r:=by cases ts with
  | nil=>exact absurd rfl hn
  | cons t r=>exact⟨t,r,rfl⟩
 obtain⟨b',o,ha,eA⟩:=Zeo bF (i:=0) (t:=t) rfl
 rcases h with h|⟨b,hb,hf⟩
 ·rw[h]at ha;cases ha
 ·rw[hb]at ha;cases ha
  exact⟨b',hb,hf,_,_,eA 0 (.int .u8 t.k) rfl⟩
theorem Zyt{ts:List T}(h:1 < ts.length):∃r x y,ts=r++[x,y]:=by
 have h1:ts.length - 2 < ts.length:=by omega
 refine⟨ts.take (ts.length - 2),ts[ts.length - 2],ts[ts.length - 1],?_⟩
 have e:=(List.take_append_drop (ts.length - 2) ts).symm
 rw[List.drop_eq_getElem_cons h1,List.drop_eq_getElem_cons (by omega),List.drop_eq_nil_of_le (by omega)]at e
 simpa[show ts.length - 2+1=ts.length - 1 by omega]using e
theorem Zyu{ts:List T}(h:0 < ts.length):∃r x,ts=r++[x]:=by
 refine⟨ts.dropLast,ts.getLast (by intro e;subst e;simp at h),?_⟩
 exact(List.dropLast_concat_getLast _).symm
end Go.Proofs.YtojlhhphofhaoaaGreatDoor
namespace Go.Proofs.YtojlhhphofhaoaaGreatDoor
open Go Go.Eng Go.Rx Go.Proofs Go.RowKit
set_option maxRecDepth 100000
theorem Zaw{p:Prop} [Decidable p]{A B:Prop}(ht:p->A)(hf:¬p->B):br (decide p) A B:=Zab (λh=>ht (of_decide_eq_true h)) (λh=>hf (of_decide_eq_false h))
theorem Zfs(t:E)(m:Mem):CX Tryz.prog 96 #[t.v] m [] (λv m' _=>∃b,v=.func (.func 123) #[] #[.pointer (some ⟨b,0,none⟩)]/\m'.reads b 0 t.cs):=by
 apply Zky
 intro b m' hm hb
 exact⟨m',hm,Mem.le_refl _,b,rfl,hb⟩
theorem Zd5(t:E)(m:Mem)(c0b:Nat)(eA:m.reads c0b 0 t.cs)(mQ:RepE m t):IX Tryz.prog 123 [] [.pointer (some ⟨c0b,0,none⟩)] m (t.nodes.map λx=>[x.v]):=by
 apply Zhl 0 [] [] c0b 0
 intro l b m' hm hb
 have ku:=eA.mono hm
 refine⟨_,_,_,_,_,ku,⟨rfl,by omega,?_⟩,?_,.inr rfl⟩
 ·rw[Zdy];rfl
 refine⟨t.sl,ku 4 _ rfl,Zaa rfl ?_⟩
 refine⟨λxs _ _ m'' q=>∃i:Nat,i<=t.subs.length/\xs=[.int .i64 ((1+(Zaq (t.subs.take i)).length:Nat):Int),.int .i64 i]/\m'.le m''/\q=t.subs.length - i,⟨t.subs.length,0,by omega,?_,Mem.le_refl _,by omega⟩,?_⟩
 ·simp[Zaq]
 rintro y n m2 q bA ⟨i,hi,eZ,iN,hq⟩
 simp only[List.cons.injEq,Value.int.injEq,true_and,and_true]at eZ
 obtain⟨rfl,rfl⟩:=eZ
 have bT:slN t.sl=t.subs.length:=rfl
 rw[bT]
 refine Zab (λbB=>?_) (λdB=>?_)
 ·have bQ:i < t.subs.length:=by simpa using bB
  obtain⟨x,hx⟩:∃x,t.subs[i]?=some x:=⟨_,List.getElem?_eq_getElem bQ⟩
  have cP:x∈t.subs:=List.mem_of_getElem? hx
  have cE:=Zoq cP
  obtain⟨oW,h0|⟨b1,o1,ha,f9⟩⟩:=Zf0 mQ
  ·rw[h0]at bQ;simp at bQ
  obtain⟨dZ,eU⟩:=(f9.mono' ((mLt hm iN))).get hx
  refine Zaa rfl ⟨b1,o1,ha,⟨by omega,by omega⟩,_,_,_,_,_,dZ,λb2=>Zaa rfl ?_⟩
  refine⟨_,trivial,Zfs x m2,λv m' css h=>?_,?_⟩
  ·obtain⟨b3,rfl,_⟩:=h;rfl
  rintro g fi ca m3 bR ⟨b3,hv,fB⟩
  obtain⟨rfl,rfl,rfl⟩:=Zcp hv
  refine⟨_,Zd5 x m3 b3 fB (RepE.mono' eU bR),λy hy=>?_,?_⟩
  ·obtain⟨z,_,rfl⟩:=List.mem_map.1 hy;exact ZlL z
  refine⟨λxs _ _ m'' q=>q<=x.nodes.length/\xs=[.int .i64 ((1+(Zaq (t.subs.take i)).length+q:Nat):Int)]/\m3.le m'',⟨Nat.zero_le _,rfl,Mem.le_refl _⟩,?_,?_⟩
  ·rintro y n0 v0 s0 n3 a n7 c m4 q cO hq ⟨gD,hy,_⟩ b4
   simp only[List.cons.injEq,Value.int.injEq,true_and,and_true]at hy
   subst hy
   have hq':(List.map (λz:E=>[z.v]) x.nodes)[(q:Nat)]?=some [Value.agg #[.int .u8 n0,v0,.string s0,.int .i64 n3,.slice a n7 c]]:=hq
   rw[List.getElem?_map]at hq'
   obtain⟨z,hz,iZ⟩:=Option.map_eq_some_iff.1 hq'
   have tu:q < x.nodes.length:=(List.getElem?_eq_some_iff.1 hz).1
   simp only[E.v,List.cons.injEq,Value.agg.injEq,Array.mk.injEq,Value.int.injEq,Value.string.injEq,Value.slice.injEq,true_and,and_true]at iZ
   obtain⟨rfl,rfl,rfl,rfl,rfl,rfl,rfl⟩:=iZ
   refine Zaa rfl ⟨⟨rfl,by omega,?_⟩,⟨rfl,by omega,?_,cO⟩,rfl,.inr rfl⟩
   ·rw[Int.toNat_natCast]
    show(t.nodes.map λx=>[x.v])[1+(Zaq (t.subs.take i)).length+q]?=_
    rw[List.getElem?_map,ZsA hx hz];rfl
   ·congr 2
  ·rintro y m4 cO ⟨gD,hy,_⟩
   simp only[List.cons.injEq,Value.int.injEq,true_and,and_true]at hy
   subst hy
   refine⟨rfl,t.subs.length - (i+1),by omega,i+1,by omega,?_,mLt iN (mLt bR cO),rfl⟩
   rw[Zal (by omega) (by omega),Zmt hx,List.length_append]
   simp[E.v,Nat.add_assoc]
 ·have hi':i=t.subs.length:=by
   have:¬((i:Int) < (t.subs.length:Int)):=by simpa using dB
   omega
  subst hi'
  left
  rw[List.take_length,Zdy]
  simp
  omega
termination_by SizeOf.sizeOf t
decreasing_by exact cE
theorem ZdC(t:E)(m:Mem)(hr:RepE m t):CX Tryz.prog 95 #[t.v] m [] (Ret (.bool t.light)):=by
 apply Zkz
 intro b m1 aV _ b2
 refine Zai (Zfs t m1) (λv m' css h=>by obtain⟨_,rfl,_⟩:=h;rfl) ?_
 rintro g fi ca m2 bA ⟨b3,hv,fB⟩
 obtain⟨rfl,rfl,rfl⟩:=Zcp hv
 have cJ:=mLt aV bA
 refine⟨_,Zd5 t m2 b3 fB (RepE.mono' hr cJ),λy hy=>?_,λ_ css _ m' q=>css=[[.int .i64 q]]/\q<=10000/\q<=t.nodes.length,⟨rfl,by omega,by omega⟩,?_,?_⟩
 ·obtain⟨z,_,rfl⟩:=List.mem_map.1 hy;exact ZlL z
 ·rintro n0 v0 s0 n3 a n7 c cs m3 q bR hq ⟨dM,gD,_⟩
  obtain rfl:cs=[.int .i64 q]:=by simpa using dM
  have bB:q < t.nodes.length:=by
   have:=(List.getElem?_eq_some_iff.1 (show(List.map (λz:E=>[z.v]) t.nodes)[(q:Nat)]?=some _ from hq)).1
   simpa using this
  refine Zao rfl (Zaa rfl ?_)
  have hw:IntKind.i64.wrap (intOf (Value.int .i64 (q:Int))+1)=(q:Int)+1:=Zal (n:=(q:Int)+1) (by omega) (by omega)
  simp only[hw]
  refine Zab (λh=>⟨by trivial,Zac (mLt cJ bR) ?_⟩) (λh=>⟨by trivial,?_,?_,by omega⟩)
  ·have:((q:Int)+1 > 10000):=by simpa using h
   simp[Ret,E.light];omega
  ·simp
  ·have:¬((q:Int)+1 > 10000):=by simpa using h
   omega
 ·rintro cs m3 bR ⟨dM,gD,_⟩
  obtain rfl:cs=[.int .i64 t.nodes.length]:=by simpa using dM
  refine Zao rfl (Zaa rfl (Zac (mLt cJ bR) ?_))
  show Value.bool (decide ((t.nodes.length:Int)<=10000))=Value.bool t.light
  congr 1
  rw[E.light,decide_eq_decide];omega
theorem ZuM(t:E)(m:Mem)(hr:RepE m t):CX Tryz.prog 107 #[t.v] m [] (Ret (.int .i64 t.size)):=by
 apply ZmM
 intro b m1 aV _ b2
 refine Zag (ZdC t m1 (RepE.mono' hr aV)) λm2 bA=>Zab (λhl=>?_) (λh=>Zac (mLt aV bA) (by simp[Ret,E.size,h]))
 have qo:t.nodes.length<=10000:=of_decide_eq_true hl
 refine Zai (Zfs t m2) (λv m' css h=>by obtain⟨_,rfl,_⟩:=h;rfl) ?_
 rintro g fi ca m3 bR ⟨b3,hv,fB⟩
 obtain⟨rfl,rfl,rfl⟩:=Zcp hv
 have cJ:=mLt aV (mLt bA bR)
 refine⟨_,Zd5 t m3 b3 fB (RepE.mono' hr cJ),λy hy=>?_,λ_ css _ m' q=>css=[[.int .i64 q]]/\q<=t.nodes.length,⟨rfl,by omega⟩,?_,?_⟩
 ·obtain⟨z,_,rfl⟩:=List.mem_map.1 hy;exact ZlL z
 ·rintro n0 v0 s0 n3 a n7 c cs m4 q cO hq ⟨dM,_⟩
  obtain rfl:cs=[.int .i64 q]:=by simpa using dM
  have bB:q < t.nodes.length:=by
   have:=(List.getElem?_eq_some_iff.1 (show(List.map (λz:E=>[z.v]) t.nodes)[(q:Nat)]?=some _ from hq)).1
   simpa using this
  have hw:IntKind.i64.wrap (intOf (Value.int .i64 (q:Int))+1)=(q:Int)+1:=Zal (n:=(q:Int)+1) (by omega) (by omega)
  refine Zao rfl (Zaa rfl ?_)
  simp only[hw]
  exact⟨by trivial,by simp,by omega⟩
 ·rintro cs m4 cO ⟨dM,gD⟩
  obtain rfl:cs=[.int .i64 t.nodes.length]:=by simpa using dM
  refine Zao rfl (Zac (mLt cJ cO) ?_)
  simp[Ret,E.size,hl]
theorem ZxQ(T:TypeId)(x y:Nat):BinIs Tryz.prog .eql T (.float .f64 x) (.float .f64 y) (.bool (Op.floatEq .f64 x y)):=λox oy w=>by
 simp[eqGuard,binOp,Op.floatCmp,Op.floatEq]
theorem Zwu(T:TypeId)(x y:Nat):BinIs Tryz.prog .neq T (.float .f64 x) (.float .f64 y) (.bool (!Op.floatEq .f64 x y)):=λox oy w=>by
 simp[eqGuard,binOp,Op.floatCmp,Op.floatEq,bne]
theorem ZoZ(x:Nat):ZnC Tryz.prog 120 [.float .f64 x] (.int .u64 x):=λw=>by
 rw[run_callFunc_extern Tryz.func120 (by kernel_rfl) (by kernel_rfl) (by kernel_rfl) (e:=Go.Extern.MathFloatBits.float64bits) (by kernel_rfl)]
 rfl
theorem Zrr(n:Nat):ZnC Tryz.prog 124 [.int .u64 n] (.float .f64 n):=λw=>by
 rw[run_callFunc_extern Tryz.func124 (by kernel_rfl) (by kernel_rfl) (by kernel_rfl) (e:=Go.Extern.MathFloatBits.float64frombits) (by kernel_rfl)]
 rfl
theorem ZxR(m:Mem):CX Tryz.prog 142 #[] m [] (Ret (.float .f64 Zwh)):=by
 apply ZkA
 exact⟨_,Zrr Zwh,Zac (Mem.le_refl _) rfl⟩
theorem Zrs(x:Nat)(m:Mem):CX Tryz.prog 121 #[.float .f64 x] m [] (Ret (.float .f64 (Zgb x))):=by
 apply Zhm
 refine⟨_,Zwu _ x x,Zab (λh=>?_) (λh=>Zac (Mem.le_refl _) ?_)⟩
 ·refine Zai (ZxR m) (s:=.any) (λ_ _ _ _=>rfl) ?_
  intro v m1 aV hv
  have h':Op.floatEq .f64 x x=false:=by simpa using h
  refine Zac aV ?_
  show v=_
  rw[show v=_ from hv];unfold Zgb;rw[h'];rfl
 ·have h':Op.floatEq .f64 x x=true:=by simpa using h
  show Value.float .f64 x=_
  unfold Zgb;rw[h'];rfl
theorem Zo0(x:Nat)(m:Mem):CX Tryz.prog 177 #[.float .f64 x] m [] (Ret (.bool (Zfd x))):=by
 apply Zhn
 refine⟨Zfd x,⟨_,ZxQ _ x x,Zab (λh=>?_) (λh=>⟨_,ZoZ x,Zaa rfl ?_⟩)⟩,Zac (Mem.le_refl _) rfl⟩
 ·unfold Zfd;rw[h];rfl
 ·unfold Zfd;rw[h,Bool.false_or]
  exact Zae (show decide ((x:Int)=9221120237041090561)=decide (x=Zwh) from decide_eq_decide.2 (by unfold Zwh;omega))
theorem Zrt(x y:Nat)(m:Mem):CX Tryz.prog 90 #[.float .f64 x,.float .f64 y] m [] (Ret (.bool (ZsB x y))):=by
 apply ZiK
 refine Zai (Zrs x m) (s:=.any) (λ_ _ _ _=>rfl) ?_
 intro v m1 aV hv
 refine⟨.int .u64 (Zgb x),by rw[show v=_ from hv];exact ZoZ _,?_⟩
 refine Zai (Zrs y m1) (s:=.any) (λ_ _ _ _=>rfl) ?_
 intro u m2 bA hu
 refine⟨.int .u64 (Zgb y),by rw[show u=_ from hu];exact ZoZ _,Zaa rfl (Zac (mLt aV bA) ?_)⟩
 show Value.bool _=_
 congr 1
 exact show decide ((Zgb x:Int)=Zgb y)=decide (Zgb x=Zgb y) from decide_eq_decide.2 (by omega)
def Zft(l:List ByteArray):List Value:=l.map λs=>.string s
theorem ZcC{m:Mem}{a:Option Addr}{l:List ByteArray}(h:rowRd m a (Zft l)){k:Nat}{s:ByteArray}(hk:l[k]?=some s):∃b o,a=some ⟨b,o,none⟩/\m b (o+k*1)=some (.string s):=by
 rcases h with h|⟨b,o,ha,h⟩
 ·have:l=[]:=by simpa[Zft]using h
  rw[this]at hk;simp at hk
 ·exact⟨b,o,ha,by rw[Nat.mul_one];exact h k _ (by rw[Zft,List.getElem?_map,hk];rfl)⟩
theorem ZsR(l:List ByteArray)(a:Option Addr)(c:Nat)(s:ByteArray)(m:Mem)(hl:l.length<=1000000000000000)(hr:rowRd m a (Zft l)):
  CX Tryz.prog 190 #[.slice a l.length c,.string s] m [] (Ret (.int .i64 (if l.any (λy=>eqS s y)then(l.findIdx (λy=>eqS s y):Nat)else(-1:Int)))):=by
 apply Zb0
 refine⟨λxs _ _ m'' q=>∃i:Nat,i<=l.length/\xs=[.int .i64 i]/\(∀x∈l.take i,eqS s x=false)/\q=l.length - i,⟨l.length,0,by omega,rfl,by simp,by omega⟩,?_⟩
 rintro n m' q hm ⟨i,hi,hn,fT,hq⟩
 obtain rfl:n=i:=by simpa using hn
 refine Zab (λbB=>?_) (λdB=>?_)
 ·have bQ:i < l.length:=by simpa using bB
  obtain⟨x,hx⟩:∃x,l[i]?=some x:=⟨_,List.getElem?_eq_getElem bQ⟩
  have cP:x∈l:=List.mem_of_getElem? hx
  obtain⟨b1,o1,ha,eW⟩:=ZcC (hr.mono hm) hx
  refine⟨b1,o1,ha,⟨by omega,by omega⟩,_,eW,Zaa rfl (Zab (λfR=>?_) (λfR=>?_))⟩
  ·refine Zac hm ?_
   have fq:l.any (λy=>eqS s y)=true:=List.any_eq_true.2 ⟨x,cP,fR⟩
   have f4:l.findIdx (λy=>eqS s y)=i:=by
    rw[List.findIdx_eq bQ]
    refine⟨by rw[(List.getElem?_eq_some_iff.1 hx).2];exact fR,λj hj=>?_⟩
    exact fT _ (List.mem_of_getElem? (i:=j) (by rw[List.getElem?_take_of_lt hj];exact List.getElem?_eq_getElem (by omega)))
   simp[Ret,fq,f4]
  ·refine⟨l.length - (i+1),by omega,i+1,by omega,by rw[Zal (by omega) (by omega)];rfl,?_,rfl⟩
   intro y hy
   rw[List.take_add_one,hx]at hy
   rcases List.mem_append.1 hy with hy|hy
   ·exact fT y hy
   ·simp at hy;rw[hy];exact fR
 ·have hi':i=l.length:=by
   have:¬((i:Int) < (l.length:Int)):=by simpa using dB
   omega
  subst hi'
  refine Zac hm ?_
  have fq:l.any (λy=>eqS s y)=false:=by
   rw[List.any_eq_false]
   rw[List.take_length]at fT
   exact λx hx=>by simp[fT x hx]
  simp[Ret,fq]
theorem Zhu(l:List ByteArray)(a:Option Addr)(c:Nat)(s:ByteArray)(m:Mem)(hl:l.length<=1000000000000000)(hr:rowRd m a (Zft l)):
  CX Tryz.prog 175 #[.slice a l.length c,.string s] m [] (Ret (.bool (l.any λy=>eqS s y))):=by
 apply ZbI
 refine Zax (ZsR l a c s m hl hr) λm' hm=>Zac hm ?_
 cases h:l.any (λy=>eqS s y) <;> simp[Ret]
theorem ZkG(l:List ByteArray)(a:Option Addr)(c:Nat)(g:Nat)(ca:List Value)(p:ByteArray->Bool)(m:Mem)(hl:l.length<=1000000000000000)(hr:rowRd m a (Zft l))
  (hp:∀x∈l,∀m',m.le m'->CX Tryz.prog g (.string x::ca).toArray m' [] (Ret (.bool (p x)))):
  CX Tryz.prog 200 #[.slice a l.length c,.func (.func g) #[] ca.toArray] m [] (Ret (.int .i64 (if l.any p then(l.findIdx p:Nat)else(-1:Int)))):=by
 apply ZbB a l.length c g [] ca
 refine⟨λxs _ _ m'' q=>∃i:Nat,i<=l.length/\xs=[.int .i64 i]/\(∀x∈l.take i,p x=false)/\q=l.length - i,⟨l.length,0,by omega,rfl,by simp,by omega⟩,?_⟩
 rintro n m' q hm ⟨i,hi,hn,fT,hq⟩
 obtain rfl:n=i:=by simpa using hn
 refine Zab (λbB=>?_) (λdB=>?_)
 ·have bQ:i < l.length:=by simpa using bB
  obtain⟨x,hx⟩:∃x,l[i]?=some x:=⟨_,List.getElem?_eq_getElem bQ⟩
  have cP:x∈l:=List.mem_of_getElem? hx
  obtain⟨b1,o1,ha,eW⟩:=ZcC (hr.mono hm) hx
  refine⟨b1,o1,ha,⟨by omega,by omega⟩,_,eW,Zag (hp x cP m' hm) λm1 aV=>Zab (λfR=>?_) (λfR=>?_)⟩
  ·refine Zac (mLt hm aV) ?_
   have fq:l.any p=true:=List.any_eq_true.2 ⟨x,cP,fR⟩
   have f4:l.findIdx p=i:=by
    rw[List.findIdx_eq bQ]
    refine⟨by rw[(List.getElem?_eq_some_iff.1 hx).2];exact fR,λj hj=>?_⟩
    exact fT _ (List.mem_of_getElem? (i:=j) (by rw[List.getElem?_take_of_lt hj];exact List.getElem?_eq_getElem (by omega)))
   simp[Ret,fq,f4]
  ·refine⟨l.length - (i+1),by omega,i+1,by omega,by rw[Zal (by omega) (by omega)];rfl,?_,rfl⟩
   intro y hy
   rw[List.take_add_one,hx]at hy
   rcases List.mem_append.1 hy with hy|hy
   ·exact fT y hy
   ·simp at hy;rw[hy];exact fR
 ·have hi':i=l.length:=by
   have:¬((i:Int) < (l.length:Int)):=by simpa using dB
   omega
  subst hi'
  refine Zac hm ?_
  have fq:l.any p=false:=by
   rw[List.any_eq_false]
   rw[List.take_length]at fT
   exact λx hx=>by simp[fT x hx]
  simp[Ret,fq]
theorem Zgq(l:List ByteArray)(a:Option Addr)(c:Nat)(g:Nat)(ca:List Value)(p:ByteArray->Bool)(m:Mem)(hl:l.length<=1000000000000000)(hr:rowRd m a (Zft l))
  (hp:∀x∈l,∀m',m.le m'->CX Tryz.prog g (.string x::ca).toArray m' [] (Ret (.bool (p x)))):
  CX Tryz.prog 186 #[.slice a l.length c,.func (.func g) #[] ca.toArray] m [] (Ret (.bool (l.any p))):=by
 apply Zbn a l.length c g [] ca
 refine Zax (ZkG l a c g ca p m hl hr hp) λm' hm=>Zac hm ?_
 cases h:l.any p <;> simp[Ret]
def ZsS(l:List UInt8):List Value:=(List.range 256).map λi=>.bool (l.any λc=>c.toNat == i)
theorem Zh2(l:List UInt8):(ZsS l).length=256:=by rw[ZsS,List.length_map,List.length_range]
theorem Zf4(l:List UInt8){i:Nat}(h:i < 256):(ZsS l)[i]?=some (.bool (l.any λc=>c.toNat == i)):=by
 rw[ZsS,List.getElem?_map,List.getElem?_range h];rfl
theorem Zo1(l:List UInt8):Zdv (ZsS l)=true:=by
 have:∀L:List Nat,Zdv (L.map λi=>Value.bool (l.any λc=>c.toNat == i))=true:=λL=>by
  induction L with
  | nil=>rfl
  | cons x L ih=>rw[List.map_cons];simp only[Zdv,ih];rfl
 exact this _
theorem ZsT(l:List UInt8)(c:UInt8):ZaG (ZsS l) (0+c.toNat*1) [.bool true]=ZsS (l++[c]):=by
 have hc:c.toNat < 256:=c.toNat_lt
 apply List.ext_getElem?
 intro i
 have hl:=Zh2 l
 unfold ZaG
 rw[Nat.zero_add,Nat.mul_one,List.append_assoc]
 rcases Nat.lt_trichotomy i c.toNat with h|h|h
 ·rw[List.getElem?_append_left (by rw[List.length_take];omega),List.getElem?_take_of_lt h,Zf4 l (by omega),Zf4 _ (by omega),List.any_append]
  have:(c.toNat == i)=false:=by simp;omega
  simp[this]
 ·subst h
  have e:(List.take c.toNat (ZsS l)).length=c.toNat:=by rw[List.length_take];omega
  rw[List.getElem?_append_right (by omega),e,Nat.sub_self,Zf4 _ hc,List.any_append]
  simp
 ·have e:(List.take c.toNat (ZsS l)).length=c.toNat:=by rw[List.length_take];omega
  rw[List.getElem?_append_right (by omega),e,List.getElem?_append_right (by simp;omega),List.getElem?_drop]
  rw[show c.toNat + [Value.bool true].length+(i - c.toNat - [Value.bool true].length)=i by simp;omega]
  rcases Nat.lt_or_ge i 256 with h2|h2
  ·rw[Zf4 l h2,Zf4 _ h2,List.any_append]
   have:(c.toNat == i)=false:=by simp;omega
   simp[this]
  ·rw[List.getElem?_eq_none (by omega),List.getElem?_eq_none (by rw[Zh2];exact h2)]
theorem Zhv{s:ByteArray}{n:Nat}{c:UInt8}(h:s.data.toList[n]?=some c):ZcX s n=(c.toNat:Int):=by
 unfold ZcX
 rw[List.getD_eq_getElem?_getD,h];rfl
theorem Zc9{α:Type}{l:List α}{n:Nat}(h:n < l.length):∃c,l[n]?=some c:=⟨_,List.getElem?_eq_getElem h⟩
theorem ZuN(s:ByteArray)(hs:s.size<=1000000000000000)(h:∀c∈s.data.toList,c.toNat < 128)(m:Mem):CX Tryz.prog 193 #[.string s] m [] (Ret (.tuple #[.agg (ZsS s.data.toList).toArray,.bool true])):=by
 apply Zc6
 intro b
 have hl:=Zek s
 refine⟨λxs css _ m' q=>∃k:Nat,k<=s.size/\xs=[.int .i64 k]/\css=[ZsS (s.data.toList.take k)]/\q=s.size - k,⟨_,0,by omega,rfl,by rw[List.take_zero];rfl,rfl⟩,?_⟩
 rintro n cs m1 q aV ⟨k,hk,hx,dM,hq⟩
 obtain rfl:n=k:=by simpa using hx
 obtain rfl:cs=ZsS (s.data.toList.take k):=by simpa using dM
 subst hq
 refine Zab (λbB=>?_) (λdB=>?_)
 ·have bQ:k < s.size:=by have:=of_decide_eq_true bB;omega
  obtain⟨c,hc⟩:=Zc9 (l:=s.data.toList) (n:=k) (by omega)
  have uU:=h c (List.mem_of_getElem? hc)
  have hw:IntKind.i64.wrap ((k:Int)+1)=((k+1:Nat):Int):=by rw[Zal (by omega) (by omega)];rfl
  simp only[hw,Int.toNat_natCast,Zhv hc]
  refine⟨⟨by omega,by omega⟩,Zab (λh=>absurd (of_decide_eq_true h) (by omega)) (λ_=>⟨⟨by omega,by omega⟩,Zaa (by rw[Nat.ble_eq,Zh2];omega) ⟨by trivial,s.size - (k+1),by omega,k+1,by omega,rfl,?_,rfl⟩⟩)⟩
  rw[ZsT,List.take_add_one,hc];rfl
 ·have hk':k=s.size:=by have:=of_decide_eq_false dB;omega
  subst hk'
  rw[<-hl,List.take_length]
  exact Zaa (by rw[Zh2,Zo1];rfl) (Zac aV rfl)
def Zyv(p:UInt8->Bool)(s:ByteArray):Value->Mem->List (List Value)->Prop:=λv _ _=>∃z:ByteArray,v=.string z/\z.size<=s.size/\s.data.toList.all p=z.data.toList.all p/\(z.size=0\/z.data.toList.all p=false)
theorem Zjs(l:List UInt8)(c:UInt8)(b:Nat)(m:Mem)(hb:m.reads b 0 (ZsS l)):CX Tryz.prog 202 #[.pointer (some ⟨b,0,none⟩),.int .u8 c.toNat] m [] (Ret (.bool (l.any λx=>x.toNat == c.toNat))):=by
 apply Zb8
 have hc:c.toNat < 256:=c.toNat_lt
 refine⟨⟨by omega,by omega⟩,_,?_,Zac (Mem.le_refl m) rfl⟩
 rw[Int.toNat_natCast,Nat.mul_one,Nat.add_comm]
 have:=hb c.toNat _ (Zf4 l hc)
 rw[Nat.zero_add]at this;exact this
theorem Zwv(z:ByteArray){c:UInt8}{r:List UInt8}(h:z.data.toList=c::r):(z.extract 1 z.size).data.toList=r:=by
 rw[ByteArray.data_extract,Array.toList_extract,h]
 have:z.size=r.length+1:=by rw[<-Zek,h];rfl
 simp[this]
theorem ZuO(z:ByteArray){c:UInt8}{r:List UInt8}(h:z.data.toList=r++[c]):(z.extract 0 (z.size - 1)).data.toList=r:=by
 rw[ByteArray.data_extract,Array.toList_extract,h]
 have:z.size=r.length+1:=by rw[<-Zek,h];simp
 simp[this]
theorem ZuP(l:List UInt8)(s:ByteArray)(hs:s.size<=1000000000000000)(b:Nat)(m:Mem)(hb:m.reads b 0 (ZsS l)):CX Tryz.prog 194 #[.string s,.pointer (some ⟨b,0,none⟩)] m [] (Zyv (λc=>l.any λx=>x.toNat == c.toNat) s):=by
 apply ZcU
 refine⟨λxs _ _ m' q=>∃z:ByteArray,xs=[.string z]/\z.size<=s.size/\s.data.toList.all (λc=>l.any λx=>x.toNat == c.toNat)=z.data.toList.all (λc=>l.any λx=>x.toNat == c.toNat)/\q=z.size,⟨_,s,rfl,Nat.le_refl _,rfl,rfl⟩,?_⟩
 rintro z m1 q aV ⟨z',hx,cE,cQ,hq⟩
 obtain rfl:z=z':=by simpa using hx
 subst hq
 have hl:=Zek z
 refine Zab (λbB=>?_) (λdB=>?_)
 ·have h0:0 < z.size:=by have:=of_decide_eq_true bB;omega
  cases hz:z.data.toList with
  | nil=>rw[hz]at hl;simp at hl;omega
  | cons c r=>
   have he:=Zwv z hz
   have hr:(z.extract 1 z.size).size=z.size - 1:=by rw[<-Zek,he,<-hl,hz];simp
   have hc:ZcX z (Int.toNat 0)=(c.toNat:Int):=Zhv (by rw[hz];rfl)
   rw[hc]
   refine⟨⟨by omega,by omega⟩,Zag (Zjs l c b m1 (hb.mono aV)) λm2 bA=>Zab (λh=>?_) (λh=>?_)⟩
   ·refine Zac (mLt aV bA) ⟨z,rfl,cE,cQ,.inr ?_⟩
    have h':(l.any λx=>x.toNat == c.toNat)=false:=by simpa using h
    rw[hz,List.all_cons,h'];rfl
   ·have h':(l.any λx=>x.toNat == c.toNat)=true:=by simpa using h
    refine⟨⟨by omega,by omega⟩,z.size - 1,by omega,_,rfl,?_,?_,?_⟩
    ·show(z.extract 1 z.size).size<=_
     omega
    ·rw[cQ,hz,List.all_cons,h',Bool.true_and]
     show _=(z.extract 1 z.size).data.toList.all _
     rw[he]
    ·show _=(z.extract 1 z.size).size
     omega
 ·have h0:z.size=0:=by have:=of_decide_eq_false dB;omega
  exact Zac aV ⟨z,rfl,cE,cQ,.inl h0⟩
theorem ZuQ(l:List UInt8)(s:ByteArray)(hs:s.size<=1000000000000000)(b:Nat)(m:Mem)(hb:m.reads b 0 (ZsS l)):CX Tryz.prog 195 #[.string s,.pointer (some ⟨b,0,none⟩)] m [] (Zyv (λc=>l.any λx=>x.toNat == c.toNat) s):=by
 apply Zcz
 refine⟨λxs _ _ m' q=>∃z:ByteArray,xs=[.string z]/\z.size<=s.size/\s.data.toList.all (λc=>l.any λx=>x.toNat == c.toNat)=z.data.toList.all (λc=>l.any λx=>x.toNat == c.toNat)/\q=z.size,⟨_,s,rfl,Nat.le_refl _,rfl,rfl⟩,?_⟩
 rintro z m1 q aV ⟨z',hx,cE,cQ,hq⟩
 obtain rfl:z=z':=by simpa using hx
 subst hq
 have hl:=Zek z
 refine Zab (λbB=>?_) (λdB=>?_)
 ·have h0:0 < z.size:=by have:=of_decide_eq_true bB;omega
  have hw:IntKind.i64.wrap ((z.size:Int) - 1)=((z.size - 1:Nat):Int):=by rw[Zal (by omega) (by omega)];omega
  obtain⟨r,c,hz⟩:∃r c,z.data.toList=r++[c]:=by
   rcases List.eq_nil_or_concat z.data.toList with h|⟨r,c,h⟩
   ·rw[h]at hl;simp at hl;omega
   ·exact⟨r,c,by simpa using h⟩
  have he:=ZuO z hz
  have hr:(z.extract 0 (z.size - 1)).size=z.size - 1:=by rw[<-Zek,he,<-hl,hz];simp
  have hc:ZcX z (z.size - 1)=(c.toNat:Int):=Zhv (by rw[hz,List.getElem?_append_right (by rw[<-hl,hz];simp),<-hl,hz];simp)
  simp only[hw,Int.toNat_natCast,hc]
  refine⟨⟨by omega,by omega⟩,Zag (Zjs l c b m1 (hb.mono aV)) λm2 bA=>Zab (λh=>?_) (λh=>?_)⟩
  ·refine Zac (mLt aV bA) ⟨z,rfl,cE,cQ,.inr ?_⟩
   have h':(l.any λx=>x.toNat == c.toNat)=false:=by simpa using h
   rw[hz,List.all_append,List.all_cons,h'];simp
  ·have h':(l.any λx=>x.toNat == c.toNat)=true:=by simpa using h
   refine⟨⟨by omega,by omega⟩,z.size - 1,by omega,_,rfl,by omega,?_,by omega⟩
   rw[cQ,hz,List.all_append,List.all_cons,h',he];simp
 ·have h0:z.size=0:=by have:=of_decide_eq_false dB;omega
  exact Zac aV ⟨z,rfl,cE,cQ,.inl h0⟩
def ZcA:ByteArray:=⟨#[97,98,99,100,101,102,103,104,105,106,107,108,109,110,111,112,113,114,115,116,117,118,119,120,121,122,48,49,50,51,52,53,54,55,56,57,95]⟩
theorem ZsU(c:UInt8):(ZcA.data.toList.any λx=>x.toNat == c.toNat)=ZvB c:=by
 have:∀n:Nat,n < 256->(ZcA.data.toList.any λx=>x.toNat == n)=((decide (97<=n)&&decide (n<=122))||(decide (48<=n)&&decide (n<=57))||n == 95):=by decide +kernel
 exact this c.toNat c.toNat_lt
def Zy2(s:ByteArray):Value->Mem->List (List Value)->Prop:=λv _ _=>∃z:ByteArray,v=.string z/\(z.size == 0)=s.data.toList.all ZvB
theorem Zww(s:ByteArray)(hs:s.size<=1000000000000000)(m:Mem):CX Tryz.prog 176 #[.string s,.string ZcA] m [] (Zy2 s):=by
 apply Zho
 have e0:(ZcA.toList == ByteArray.toList ⟨#[]⟩)=false:=by rw[Zb5];rfl
 refine⟨s.size == 0,Zab (λh=>by rw[Zb5]at h;rw[h]) (λh=>by rw[Zb5]at h;rw[h,e0]),?_⟩
 refine Zab (λh=>?_) (λh=>?_)
 ·refine Zac (Mem.le_refl m) ⟨s,rfl,?_⟩
  rw[h]
  have:s.data.toList=[]:=List.eq_nil_of_length_eq_zero (by rw[Zek];simpa using h)
  rw[this];rfl
 refine⟨false,ZdE (by decide) rfl,ZdE rfl ?_⟩
 refine Zai (ZuN ZcA (by decide) (by decide) m) (λv _ _ e=>by rw[show v=_ from e];rfl) ?_
 intro cs b m1 aV hv
 have hv:Value.tuple (Array.mk [Value.agg (Array.mk cs),Value.bool b])=Value.tuple #[.agg (ZsS ZcA.data.toList).toArray,.bool true]:=hv
 simp only[Value.tuple.injEq,Value.agg.injEq,Array.mk.injEq,List.cons.injEq,Value.bool.injEq,and_true]at hv
 obtain⟨rfl,rfl⟩:=hv
 intro b1
 refine Zaa (by rw[Zh2,Zo1];rfl) (Zjr rfl λm2 bA eA=>?_)
 refine Zai (ZuQ ZcA.data.toList s hs b1 m2 eA) (λv _ _ ⟨_,e,_⟩=>by rw[e];rfl) ?_
 rintro z m3 bR ⟨z1,hz,qd,j2,wj⟩
 obtain rfl:z=z1:=by simpa using hz
 refine Zai (ZuP ZcA.data.toList z (by omega) b1 m3 (eA.mono bR)) (λv _ _ ⟨_,e,_⟩=>by rw[e];rfl) ?_
 rintro y m4 cO ⟨y1,hy,wk,tx,tz⟩
 obtain rfl:y=y1:=by simpa using hy
 refine Zac (mLt aV (mLt bA (mLt bR cO))) ⟨y,rfl,?_⟩
 have hp:(λc:UInt8=>ZcA.data.toList.any λx=>x.toNat == c.toNat)=ZvB:=funext ZsU
 rw[hp]at j2 tx tz
 rw[j2,tx]
 rcases tz with h0|h0
 ·have:y.data.toList=[]:=List.eq_nil_of_length_eq_zero (by rw[Zek];exact h0)
  rw[this,h0];rfl
 ·rw[h0]
  have:¬y.size=0:=λe=>by
   have:y.data.toList=[]:=List.eq_nil_of_length_eq_zero (by rw[Zek];exact e)
   rw[this]at h0;simp at h0
  simpa using this
theorem Zhw(s:ByteArray)(hs:s.size<=1000000000000000)(m:Mem):CX Tryz.prog 146 #[.string s] m [] (Ret (.bool (Zcv s))):=by
 apply ZiM
 refine Zab (λh=>Zac (Mem.le_refl m) ?_) (λh=>?_)
 ·rw[Zb5]at h;simp[Ret,Zcv,h]
 rw[Zb5]at h
 have uV:¬s.size=0:=by simpa using h
 have gq:0 < s.size:=by omega
 obtain⟨c,hc⟩:=Zc9 (l:=s.data.toList) (n:=0) (by rw[Zek];exact gq)
 have hD:s.data.toList.getD 0 0=c:=by rw[List.getD_eq_getElem?_getD,hc];rfl
 rw[show Int.toNat 0=0 from rfl,Zhv hc]
 refine Zab (λh1=>Zac (Mem.le_refl m) ?_) (λh1=>⟨⟨by omega,by omega⟩,Zab (λh2=>Zac (Mem.le_refl m) ?_) (λh2=>⟨⟨by omega,by omega⟩,Zab (λh3=>Zac (Mem.le_refl m) ?_) (λh3 b hf=>?_)⟩)⟩)
 ·have:s.size > 16:=by have:=of_decide_eq_true h1;omega
  show Value.bool false=_
  unfold Zcv;rw[h,decide_eq_true this];rfl
 ·have:c.toNat < 97:=by have:=of_decide_eq_true h2;omega
  show Value.bool false=_
  unfold Zcv;rw[hD,decide_eq_true this];simp
 ·have:c.toNat > 122:=by have:=of_decide_eq_true h3;omega
  show Value.bool false=_
  unfold Zcv;rw[hD,decide_eq_true this];simp
 have g1:¬s.size > 16:=by have:=of_decide_eq_false h1;omega
 have g2:¬c.toNat < 97:=by have:=of_decide_eq_false h2;omega
 have g3:¬c.toNat > 122:=by have:=of_decide_eq_false h3;omega
 have hN:Zcv s=(!(Zmu.any λw=>eqS w s)&&s.data.toList.all ZvB):=by
  unfold Zcv;rw[h,decide_eq_false g1,hD,decide_eq_false g2,decide_eq_false g3];rfl
 have hE:(Zmu.any λy=>eqS s y)=Zmu.any λw=>eqS w s:=by
  congr 1;funext w;unfold eqS;exact Bool.beq_comm
 have cJ:=Mem.le_add hf (Zft Zmu)
 refine Zag (Zhu Zmu (some ⟨b,0,none⟩) 3 s (m.add b (Zft Zmu)) (by decide) (.inr ⟨b,0,rfl,λj v hj=>by rw[Nat.zero_add,Mem.add_same];exact hj⟩)) λm1 aV=>Zab (λh4=>Zac (mLt cJ aV) ?_) (λh4=>?_)
 ·rw[hE]at h4
  show Value.bool false=_
  rw[hN,h4];rfl
 rw[hE]at h4
 refine Zai (Zww s hs m1) (λv _ _ ⟨_,e,_⟩=>by rw[e];rfl) ?_
 rintro z m2 bA ⟨z',hz,j2⟩
 obtain rfl:z=z':=by simpa using hz
 refine Zac (mLt cJ (mLt aV bA)) ?_
 show Value.bool _=_
 rw[Zb5,hN,h4,j2];rfl
theorem Zwx(k:Int)(m:Mem):CX Tryz.prog 97 #[.int .u8 k] m [] (Ret (.int .i64 (ZlQ k))):=by
 apply ZmO
 refine Zab (λh=>Zac (Mem.le_refl m) ?_) (λh=>⟨decide (k ≥ 2)&&decide (k<=7),Zab (λh2=>by rw[h2];rfl) (λh2=>by rw[h2];rfl),Zab (λh2=>Zac (Mem.le_refl m) ?_) (λh2=>Zac (Mem.le_refl m) ?_)⟩)
 all_goals
  show Value.int _ _=Value.int _ _
  congr 1
  unfold ZlQ
 ·have:k=1:=by simpa using h
  rw[if_pos this]
 ·have h1:¬k=1:=by simpa using h
  simp only[Bool.and_eq_true,decide_eq_true_eq]at h2
  rw[if_neg h1,if_pos (by omega)]
 ·have h1:¬k=1:=by simpa using h
  simp only[Bool.and_eq_false_iff,decide_eq_false_iff_not]at h2
  rw[if_neg h1,if_neg (by omega)]
theorem ZsV(t:E)(m:Mem)(hr:RepE m t):CX Tryz.prog 184 #[t.v] m [] (Ret (.bool t.right)):=by
 have cV:=ZtR hr
 have mT:=Zf0 hr
 apply ZkD
 intro b m1 aV _
 have tail:∀(M0:Mem)(name number capture neg:Bool),t.right=(decide (t.k<=10)&&(name&&(number&&(capture&&((t.subs.length:Int) == ZlQ t.k&&!neg)))))->m.le M0->
   ∃f:Fx,br (decide (t.k<=10)) (br name (br number (br capture (∃R_3:RT,R_3=f 18 [.int .u8 t.k] M0/\CX Tryz.prog 97 #[.int .u8 t.k] M0 [] R_3/\Zap (.int .i64) R_3/\∀(n:Int)(m':Mem),M0.le m'->R_3 (.int .i64 n) m' []->br ((t.subs.length:Int) == n) (∀M:Mem,M0.le M->m'.le M->∃m'':Mem,m.le m''/\m''.le M/\Ret (.bool t.right) (.bool !neg) m'' []) (∀M:Mem,M0.le M->m'.le M->∃m'':Mem,m.le m''/\m''.le M/\Ret (.bool t.right) (.bool false) m'' []))
    (∀M:Mem,M0.le M->M0.le M->∃m'':Mem,m.le m''/\m''.le M/\Ret (.bool t.right) (.bool false) m'' [])) (∀M:Mem,M0.le M->M0.le M->∃m'':Mem,m.le m''/\m''.le M/\Ret (.bool t.right) (.bool false) m'' [])) (∀M:Mem,M0.le M->M0.le M->∃m'':Mem,m.le m''/\m''.le M/\Ret (.bool t.right) (.bool false) m'' []))
    (∀M:Mem,M0.le M->M0.le M->∃m'':Mem,m.le m''/\m''.le M/\Ret (.bool t.right) (.bool false) m'' []):=λM0 name number capture neg he uW=>by
  have fin:∀{x:Bool} {M:Mem},t.right=x->M0.le M->∃m'':Mem,m.le m''/\m''.le M/\Ret (.bool t.right) (.bool x) m'' []:=λ{x M} h hM=>Zac (mLt uW hM) (by show Value.bool x=Value.bool t.right;rw[h])
  refine⟨λ_ _ _=>Ret (.int .i64 (ZlQ t.k)),Zab (λh1=>Zab (λh2=>Zab (λh3=>Zab (λh4=>⟨_,rfl,Zwx t.k M0,λv _ _ e=>by rw[show v=_ from e];rfl,λn m' hm' hn=>?_⟩) (λh4 M hM _=>fin ?_ hM)) (λh3 M hM _=>fin ?_ hM)) (λh2 M hM _=>fin ?_ hM)) (λh1 M hM _=>fin ?_ hM)⟩
  ·obtain rfl:n=ZlQ t.k:=by cases hn;rfl
   refine Zab (λh5 M hM _=>fin ?_ hM) (λh5 M hM _=>fin ?_ hM)
   ·rw[he,h1,h2,h3,h4,h5];rfl
   ·rw[he,h5];simp
  ·simp[he,h4]
  ·simp[he,h3]
  ·simp[he,h2]
  ·rw[he,h1];simp
 refine⟨λ_ _ _=>Ret (.bool (ZsB t.x 0)),_,rfl,Zrt t.x 0 m1,λv _ _ e=>by rw[show v=_ from e];rfl,λb1 m2 bA dF M jA io=>?_⟩
 obtain rfl:b1=ZsB t.x 0:=by cases dF;rfl
 have hM:=mLt aV jA
 refine Zab (λh8=>?_) (λh8=>Zab (λh9=>?_) (λh9=>Zab (λiD=>?_) (λiD=>Zab (λh0=>?_) (λh0=>?_))))
 ·have hk:t.k=8:=by simpa using h8
  refine Zag (Zo0 t.x M) λm3 bR=>⟨false,ZdE (by rw[hk];rfl) ⟨by trivial,rfl⟩,tail m3 _ _ _ _ ?_ (mLt hM bR)⟩
  unfold E.right;rw[Zb5];simp[hk]
 ·have hk:t.k=9:=by simpa using h9
  refine Zag (Zhw t.s cV.s M) λm3 bR=>⟨false,ZdE (by rw[hk];rfl) ⟨by trivial,rfl⟩,tail m3 _ _ _ _ ?_ (mLt hM bR)⟩
  unfold E.right;simp[hk]
 ·have hk:t.k=10:=by simpa using iD
  refine⟨decide (t.g ≥ 0)&&decide (t.g<=9),Zab (λh=>⟨by trivial,by rw[h];rfl⟩) (λh=>⟨by trivial,by rw[h];rfl⟩),false,ZdE (by rw[hk];rfl) ⟨by trivial,rfl⟩,tail M _ _ _ _ ?_ hM⟩
  unfold E.right;rw[Zb5];simp[hk]
 ·refine Zac hM ?_
  show Value.bool false=Value.bool t.right
  unfold E.right;rw[h0];rfl
 ·have e8:¬t.k=8:=by simpa using h8
  have e9:¬t.k=9:=by simpa using h9
  have e10:¬t.k=10:=by simpa using iD
  refine⟨t.k == 1&&(t.subs.length == 1&&Zqg t.subs),?_,tail M _ _ _ _ ?_ hM⟩
  ·refine Zab (λh1=>Zab (λh2=>?_) (λh2=>⟨by trivial,?_⟩)) (λh1=>⟨by trivial,by rw[h1];rfl⟩)
   ·have bT:t.subs.length=1:=by
     have:=of_decide_eq_true (show decide ((t.subs.length:Int)=1)=true from h2)
     omega
    cases hs:t.subs with
    | nil=>rw[hs]at bT;simp at bT
    | cons u r=>
     rcases mT.2 with h|⟨bb,o,ha,f9⟩
     ·rw[h]at bT;simp at bT
     ·rw[hs]at f9
      have h3:=((f9.mono' hM).get (i:=0) (t:=u) rfl).1 0 _ rfl
      rw[Nat.zero_mul]at h3
      refine⟨bb,o,ha,⟨by omega,by simp⟩,_,h3,Zaa rfl ⟨by trivial,?_⟩⟩
      rw[h1]
      have:(u::r).length=1:=by rw[<-hs];exact bT
      rw[this];rfl
   ·have:(t.subs.length == 1)=false:=by
     have h:=of_decide_eq_false (show decide ((t.subs.length:Int)=1)=false from h2)
     exact decide_eq_false (by omega)
    rw[this];simp
  ·unfold E.right;rw[Zb5,h0];simp[e8,e9,e10]
theorem Zo2(t:E)(m:Mem)(hr:RepE m t):CX Tryz.prog 163 #[t.v] m [] (Ret (.bool t.clean)):=by
 apply ZkE
 intro b m1 aV _ b2
 refine Zag (ZdC t m1 (RepE.mono' hr aV)) λm2 bA=>Zab (λh=>Zac (mLt aV bA) ?_) (λh=>?_)
 ·have:t.light=false:=by simpa using h
  simp[Ret,E.clean,this]
 have hl:t.light=true:=by simpa using h
 refine Zai (Zfs t m2) (λv m' css h=>by obtain⟨_,rfl,_⟩:=h;rfl) ?_
 rintro g fi ca m3 bR ⟨b3,hv,fB⟩
 obtain⟨rfl,rfl,rfl⟩:=Zcp hv
 have cJ:=mLt aV (mLt bA bR)
 refine⟨_,Zd5 t m3 b3 fB (RepE.mono' hr cJ),λy hy=>?_,λ_ css _ m' q=>m3.le m'/\∀x∈t.nodes.take q,x.right=true,⟨Mem.le_refl _,by simp⟩,?_,?_⟩
 ·obtain⟨z,_,rfl⟩:=List.mem_map.1 hy;exact ZlL z
 ·rintro n0 v0 s0 n3 a n7 c cs m4 q cO hq ⟨_,gD⟩ b4
  have hq':(List.map (λz:E=>[z.v]) t.nodes)[(q:Nat)]?=some [Value.agg #[.int .u8 n0,v0,.string s0,.int .i64 n3,.slice a n7 c]]:=hq
  rw[List.getElem?_map]at hq'
  obtain⟨z,hz,iZ⟩:=Option.map_eq_some_iff.1 hq'
  have kw:z.v=Value.agg #[.int .u8 n0,v0,.string s0,.int .i64 n3,.slice a n7 c]:=by simpa using iZ
  have rR:RepE m4 z:=RepE.mono' (Zqe (RepE.mono' hr cJ) (List.mem_of_getElem? hz)) cO
  have hU:=ZsV z m4 rR
  rw[kw]at hU
  have nv:v0=.float .f64 z.x:=by
   simp only[E.v,Value.agg.injEq,Array.mk.injEq,List.cons.injEq]at kw
   exact kw.2.1.symm
  refine Zaa (by rw[nv];rfl) ?_
  refine Zag hU λm5 dY=>Zab (λh=>⟨by trivial,Zac (mLt cJ (mLt cO dY)) ?_⟩) (λh=>⟨by trivial,mLt cO dY,λx hx=>?_⟩)
  ·have oa:z.right=false:=by simpa using h
   have:t.nodes.all E.right=false:=by
    rw[List.all_eq_false];exact⟨z,List.mem_of_getElem? hz,by simp[oa]⟩
   simp[Ret,E.clean,this]
  ·rw[List.take_add_one,hz]at hx
   rcases List.mem_append.1 hx with hx|hx
   ·exact gD x hx
   ·simp at hx;rw[hx];simpa using h
 ·rintro cs m4 cO ⟨_,gD⟩
  refine Zac (mLt cJ cO) ?_
  rw[List.length_map,List.take_length]at gD
  have:t.nodes.all E.right=true:=List.all_eq_true.2 gD
  simp[Ret,E.clean,this,hl]
theorem ZkH(l l':List E)(a a':Option Addr)(c c':Nat)(m:Mem)(hl:l.length<=1000000000000000)(hr:l=[]\/∃b o,a=some ⟨b,o,none⟩/\RepEAt m b o l)(hr':l'=[]\/∃b o,a'=some ⟨b,o,none⟩/\RepEAt m b o l')
  (hp:∀x∈l,∀y∈l',∀m',m.le m'->RepE m' x->RepE m' y->CX Tryz.prog 135 #[x.v,y.v] m' [] (Ret (.bool (x.same y)))):
  CX Tryz.prog 143 #[.slice a l.length c,.slice a' l'.length c',.func (.func 135) #[] #[]] m [] (Ret (.bool (Zda l l'))):=by
 apply ZaA a l.length c a' l'.length c' _ [] []
 refine Zab (λh=>Zac (Mem.le_refl _) ?_) (λh=>?_)
 ·have:¬l.length=l'.length:=by
   intro e;rw[e]at h;simp at h
  show Value.bool false=_
  rw[ZlN this]
 have gx:l.length=l'.length:=by
  have h2:((l.length:Int) == (l'.length:Int))=true:=by simpa using h
  have:=of_decide_eq_true h2;omega
 refine⟨λxs _ _ m'' q=>∃i:Nat,i<=l.length/\xs=[.int .i64 i]/\Zda (l.take i) (l'.take i)=true/\m.le m''/\q=l.length - i,⟨l.length,0,by omega,rfl,by simp[Zda],Mem.le_refl _,by omega⟩,?_⟩
 rintro n m' q hm ⟨i,hi,hn,fw,cJ,hq⟩
 obtain rfl:n=i:=by simpa using hn
 refine Zab (λbB=>?_) (λdB=>?_)
 ·have bQ:i < l.length:=by simpa using bB
  obtain⟨x,hx⟩:∃x,l[i]?=some x:=⟨_,List.getElem?_eq_getElem bQ⟩
  obtain⟨y,hy⟩:∃y,l'[i]?=some y:=⟨_,List.getElem?_eq_getElem (by omega)⟩
  have lx:x∈l:=List.mem_of_getElem? hx
  have rS:y∈l':=List.mem_of_getElem? hy
  rcases hr with h0|⟨b1,o1,ha,f9⟩
  ·rw[h0]at bQ;simp at bQ
  rcases hr' with h0|⟨b2,o2,ha',mS⟩
  ·rw[h0]at gx;simp at gx;rw[gx]at bQ;simp at bQ
  obtain⟨dZ,eU⟩:=(f9.mono' hm).get hx
  obtain⟨gU,ky⟩:=(mS.mono' hm).get hy
  refine⟨b1,o1,ha,⟨by omega,by omega⟩,_,_,_,_,_,dZ,λb3=>Zaa rfl ⟨b2,o2,ha',⟨by omega,by omega⟩,_,_,_,_,_,gU,λb4=>Zaa rfl ?_⟩⟩
  refine Zag (hp x lx y rS m' hm eU ky) λm1 aV=>Zab (λfR=>?_) (λfR=>?_)
  ·have hf:x.same y=false:=by simpa using fR
   refine Zac (mLt hm aV) ?_
   show Value.bool false=_
   rw[Zos hx hy hf]
  ·have hf:x.same y=true:=by simpa using fR
   refine⟨l.length - (i+1),by omega,i+1,by omega,by rw[Zal (by omega) (by omega)];rfl,Zjo hx hy fw hf,mLt hm aV,rfl⟩
 ·have hi':i=l.length:=by
   have:¬((i:Int) < (l.length:Int)):=by simpa using dB
   omega
  subst hi'
  refine Zac hm ?_
  rw[List.take_length,gx,List.take_length]at fw
  show Value.bool true=_
  rw[fw]
theorem Zru(t u:E)(m:Mem)(hr:RepE m t)(hu:RepE m u):CX Tryz.prog 135 #[t.v,u.v] m [] (Ret (.bool (t.same u))):=by
 apply ZmR
 intro b m1 aV _ b' m2 bA _
 have hm:=mLt aV bA
 refine⟨t.same u,?_,Zac hm rfl⟩
 rw[ZuD]
 refine Zab (λh1=>?_) (λh1=>⟨by trivial,Zae (by rw[h1];rfl)⟩)
 refine Zag (Zrt t.x u.x m2) λm3 bR=>Zab (λh2=>Zab (λh3=>Zab (λh4=>?_) (λh4=>⟨by trivial,Zae (by rw[h1,h2,h3,h4];rfl)⟩)) (λh3=>⟨by trivial,Zae (by rw[h1,h2,h3];rfl)⟩)) (λh2=>⟨by trivial,Zae (by rw[h1,h2];rfl)⟩)
 have hM:=mLt hm bR
 have hr':=Zf0 (RepE.mono' hr hM)
 have hu':=Zf0 (RepE.mono' hu hM)
 refine Zag (ZkH t.subs u.subs t.a u.a t.c u.c m3 hr'.1 hr'.2 hu'.2 λx hx y hy m' _ dZ gU=>?_) λm4 cO=>⟨by trivial,Zae (by rw[h1,h2,h3,h4];rfl)⟩
 have cE:=Zoq hx
 exact Zru x y m' dZ gU
termination_by SizeOf.sizeOf t
decreasing_by exact cE
theorem Zrv(t u:E)(m:Mem)(hr:RepE m t)(hu:RepE m u):CX Tryz.prog 115 #[t.v,u.v] m [] (Ret (.bool (t.light&&(u.light&&t.same u)))):=by
 apply ZmS
 intro b m1 aV _ b' m2 bA _
 have hm:=mLt aV bA
 refine⟨t.light&&(u.light&&t.same u),?_,Zac hm rfl⟩
 refine Zag (ZdC t m2 (RepE.mono' hr hm)) λm3 bR=>Zab (λh1=>?_) (λh1=>⟨by trivial,Zae (by rw[h1];rfl)⟩)
 refine Zag (ZdC u m3 (RepE.mono' hu (mLt hm bR))) λm4 cO=>Zab (λh2=>?_) (λh2=>⟨by trivial,Zae (by rw[h1,h2];rfl)⟩)
 have dY:=mLt (mLt hm bR) cO
 exact Zag (Zru t u m4 (RepE.mono' hr dY) (RepE.mono' hu dY)) λm6 gZ=>⟨by trivial,Zae (by rw[h1,h2];rfl)⟩
def Zo3(l:List E):Int:=l.foldl (λn x=>if x.k=10 then(if x.g > n then x.g else n)else n) (-1)
theorem Zrw(t:E)(m:Mem)(hr:RepE m t):CX Tryz.prog 169 #[t.v] m [] (Ret (.int .i64 t.most)):=by
 apply ZmU
 intro b m1 aV _ b2
 refine Zag (ZdC t m1 (RepE.mono' hr aV)) λm2 bA=>Zab (λhl=>?_) (λh=>Zac (mLt aV bA) (by simp[Ret,E.most,h]))
 refine Zai (Zfs t m2) (λv m' css h=>by obtain⟨_,rfl,_⟩:=h;rfl) ?_
 rintro g fi ca m3 bR ⟨b3,hv,fB⟩
 obtain⟨rfl,rfl,rfl⟩:=Zcp hv
 have cJ:=mLt aV (mLt bA bR)
 refine⟨_,Zd5 t m3 b3 fB (RepE.mono' hr cJ),λy hy=>?_,λ_ css _ m' q=>css=[[.int .i64 (Zo3 (t.nodes.take q))]],rfl,?_,?_⟩
 ·obtain⟨z,_,rfl⟩:=List.mem_map.1 hy;exact ZlL z
 ·rintro n0 v0 s0 n3 a n7 c cs m4 q cO hq dM b4
  obtain rfl:cs=[.int .i64 (Zo3 (t.nodes.take q))]:=by simpa using dM
  have hq':(List.map (λz:E=>[z.v]) t.nodes)[(q:Nat)]?=some [Value.agg #[.int .u8 n0,v0,.string s0,.int .i64 n3,.slice a n7 c]]:=hq
  rw[List.getElem?_map]at hq'
  obtain⟨z,hz,iZ⟩:=Option.map_eq_some_iff.1 hq'
  simp only[E.v,List.cons.injEq,Value.agg.injEq,Array.mk.injEq,Value.int.injEq,Value.string.injEq,Value.slice.injEq,true_and,and_true]at iZ
  obtain⟨rfl,rfl,rfl,rfl,rfl,rfl,rfl⟩:=iZ
  have hs:Zo3 (t.nodes.take (q+1))=if z.k=10 then(if z.g > Zo3 (t.nodes.take q)then z.g else Zo3 (t.nodes.take q))else Zo3 (t.nodes.take q):=by
   rw[List.take_add_one,hz]
   unfold Zo3
   rw[List.foldl_append];rfl
  refine Zaa rfl (Zab (λh=>Zao rfl (Zaa rfl ⟨by trivial,?_⟩)) (λh=>⟨by trivial,?_⟩))
  ·have hk:z.k=10:=by simpa using h
   show[[_]]=[[Value.int .i64 (Zo3 (t.nodes.take (q+1)))]]
   rw[hs,if_pos hk];rfl
  ·have hk:¬z.k=10:=by simpa using h
   show[[_]]=[[Value.int .i64 (Zo3 (t.nodes.take (q+1)))]]
   rw[hs,if_neg hk]
 ·rintro cs m4 cO dM
  obtain rfl:cs=[.int .i64 (Zo3 (t.nodes.take t.nodes.length))]:=by simpa using dM
  refine Zao rfl (Zac (mLt cJ cO) ?_)
  rw[List.take_length]
  show Value.int _ _=Value.int _ t.most
  unfold E.most;rw[hl];rfl
theorem Zb1(m:Mem)(b:Nat)(cs:List Value):(m.add b cs).reads b 0 cs:=λj u hu=>by rw[Mem.add_same,Nat.zero_add];exact hu
abbrev Yn(v:Value):Nat->Prop:=λb=>(Tok.mk v 1).blk=some b
theorem Zwy{m m':Mem}{Y Y1:Nat->Prop}(h:(m.off Y).le m')(hn:∀b,Y1 b->Y b\/(m.free b/\m.k b=none)):(m.off Y).le (m'.off Y1):=by
 have no:∀b,Y1 b->(∀o,m.off Y b o=none)/\(m.off Y).k b=none:=λb hb=>by
  by_cases hY:Y b
  ·exact⟨Mem.off_free hY,Mem.off_kn hY⟩
  ·rcases hn b hb with h1|⟨h1,h2⟩
   ·exact absurd h1 hY
   ·exact⟨λo=>by rw[Mem.off_at hY];exact h1 o,by rw[Mem.off_k hY];exact h2⟩
 refine⟨λb o v hv=>?_,λb e he=>?_⟩
 ·by_cases hb:Y1 b
  ·rw[(no b hb).1 o]at hv;cases hv
  ·rw[Mem.off_at hb];exact h.c b o v hv
 ·by_cases hb:Y1 b
  ·rw[(no b hb).2]at he;cases he
  ·rw[Mem.off_k hb];exact h.k b e he
theorem Zt0{m m':Mem}(h:m.le m'){b:Nat}(hf:m'.free b/\m'.k b=none):m.free b/\m.k b=none:=by
 refine⟨λo=>?_,?_⟩
 ·cases e:m b o with
  | none=>rfl
  | some v=>have:=h.c b o v e;rw[hf.1 o]at this;cases this
 ·cases e:m.k b with
  | none=>rfl
  | some v=>have:=h.k b v e;rw[hf.2]at this;cases this
structure NmSt (m:Mem)(v0:Value)(m':Mem)(a:Option Addr)(c:Nat)(l:List ByteArray):Prop where
 row:rowRd m' a (Zft l)
 base:(m.off (Yn v0)).le (m'.off (Yn (.slice a l.length c)))
 new:∀b,Yn (.slice a l.length c) b->Yn v0 b\/(m.free b/\m.k b=none)
def NmR(v0:Value)(m:Mem)(l:List ByteArray):RTY:=λv m' css tvs=>∃a c,v=.slice a l.length c/\tvs=[.slice a l.length c]/\rowRd m' a (Zft l)/\∀b,Yn (.slice a l.length c) b->Yn v0 b\/(m.free b/\m.k b=none)
theorem ZuR{v0 m l}:∀(v:Value)(m':Mem) (css:List (List Value)) (tvs:List Value),NmR v0 m l v m' css tvs->Shape.fits .slice v=true:=λv _ _ _ ⟨_,_,e,_⟩=>by rw[e];rfl
theorem NmSt.step{m m' m'':Mem}{v0:Value}{a a':Option Addr}{c c':Nat}{l l':List ByteArray}(h:NmSt m v0 m' a c l)(cJ:(m'.off (Yn (.slice a l.length c))).le m'')(hr:rowRd m'' a' (Zft l'))(hn:∀b,Yn (.slice a' l'.length c') b->Yn (.slice a l.length c) b\/(m'.free b/\m'.k b=none)):NmSt m v0 m'' a' c' l':=by
 refine⟨hr,mLt h.base (Zwy cJ hn),λb hb=>?_⟩
 rcases hn b hb with h1|h1
 ·exact h.new b h1
 ·by_cases hY:Yn v0 b
  ·exact .inl hY
  ·have h2:=Zt0 h.base (b:=b) ⟨λo=>by
    by_cases dF:Yn (.slice a l.length c) b
    ·exact Mem.off_free dF o
    ·rw[Mem.off_at dF];exact h1.1 o,by
    by_cases dF:Yn (.slice a l.length c) b
    ·exact Mem.off_kn dF
    ·rw[Mem.off_k dF];exact h1.2⟩
   refine .inr ⟨λo=>?_,?_⟩
   ·have:=h2.1 o;rwa [Mem.off_at hY]at this
   ·have:=h2.2;rwa [Mem.off_k hY]at this
theorem ZsW(l:List ByteArray):(Zft l).length=l.length:=by unfold Zft;exact List.length_map _
theorem Zo4(t:E):∀(out:List ByteArray)(a:Option Addr)(c:Nat)(m:Mem),rowRd m a (Zft out)->RepE (m.off (Yn (.slice a out.length c))) t->(t.names out).length<=1000000->
  CXY Tryz.prog 201 #[.slice a out.length c,t.v] m (Yn (.slice a out.length c)) [] [⟨.slice a out.length c,1⟩] (NmR (.slice a out.length c) m (t.names out)):=by
 intro out a c m ho hr h1
 have fX:=Zrd t out
 have qp:RepE m t:=RepE.mono (Mem.off_le m _) t hr
 apply Zgp
 intro b m1 aV _ jc _
 refine Zab (λhk=>?_) (λhk=>?_)
 ·have rT:t.k=9:=by simpa using hk
  have hN:=Zot t out
  rw[if_pos rT]at hN
  have hE:(out.any λy=>eqS t.s y)=out.any λy=>y.toList == t.s.toList:=by
   congr 1;funext w;unfold eqS;exact Bool.beq_comm
  refine Zag (Zhu out a c t.s m1 (by omega) (ho.mono aV)) λm2 bA=>Zab (λh=>?_) (λh b2 hf=>?_)
  ·rw[hE]at h
   rw[hN,h,if_pos rfl]
   exact⟨a,c,rfl,rfl,ho.mono (mLt aV bA),λb hb=>.inl hb⟩
  ·rw[hE]at h
   rw[h,if_neg (by decide)]at hN
   have cJ:m2.le (m2.add b2 [.string t.s]):=Mem.le_add hf _
   have eI:=mLt aV (mLt bA cJ)
   rw[hN,List.length_append,List.length_singleton]at h1
   refine⟨.inl rfl,Zft out,[.string t.s],by rw[ZsW];omega,rfl,ho.mono eI,.inr ⟨b2,0,rfl,Zb1 m2 b2 _⟩,λu hu=>?_,by omega,by omega,λa' c' m3 bR bF hT=>?_⟩
   ·obtain rfl:u=.string t.s:=by simpa using hu
    rfl
   ·rw[hN]
    have e:(out++[t.s]).length=out.length+1:=by rw[List.length_append];rfl
    refine⟨a',c',by rw[e],by rw[e],by unfold Zft at bF ⊢;rw[List.map_append];exact bF,λb' hb'=>?_⟩
    rcases hT.2 with h|⟨bb,oo,ha',h⟩
    ·rw[h]at hb';simp[Yn,Tok.blk]at hb'
    ·subst ha'
     obtain rfl:bb=b':=by simpa[Yn,Tok.blk]using hb'
     rcases h with h|⟨_,h2,h3⟩
     ·left;rw[h];simp[Yn,Tok.blk]
     ·exact .inr (Zt0 eI ⟨h2,h3⟩)
 ·have rT:¬t.k=9:=by simpa using hk
  have hN:=Zot t out
  rw[if_neg rT]at hN
  rw[hN]at h1 ⊢
  have mT:=Zf0 hr
  refine⟨λxs _ tks m' q=>∃(i:Nat)(a':Option Addr)(c':Nat),i<=t.subs.length/\xs=[.slice a' (ZbS (t.subs.take i) out).length c',.int .i64 i]/\tks=[.slice a' (ZbS (t.subs.take i) out).length c']/\NmSt m (.slice a out.length c) m' a' c' (ZbS (t.subs.take i) out)/\q=t.subs.length - i,
   ⟨_,0,a,c,by omega,by rw[List.take_zero];rfl,by rw[List.take_zero];rfl,by
    rw[List.take_zero]
    exact⟨ho.mono aV,Zwy (mLt (Mem.off_le m _) aV) λb hb=>.inl hb,λb hb=>.inl hb⟩,rfl⟩,?_⟩
  rintro a1 n1 c1 n a2 n2 c2 m2 q bA ⟨i,a',c',hi,hx,ht,hS,hq⟩
  simp only[List.cons.injEq,Value.slice.injEq,Value.int.injEq,and_true,true_and]at hx ht
  obtain⟨⟨ea,en,ec⟩,rfl⟩:=hx
  obtain⟨ea',en',ec'⟩:=ht
  subst a1 n1 c1 a2 n2 c2 q
  refine Zab (λbB=>?_) (λdB=>?_)
  ·have bQ:i < t.subs.length:=by have:=of_decide_eq_true bB;omega
   obtain⟨x,hx⟩:=Zc9 bQ
   have cP:=List.mem_of_getElem? hx
   have cE:=Zoq cP
   rcases mT.2 with h|⟨b1,o1,ha,f9⟩
   ·rw[h]at bQ;simp at bQ
   obtain⟨dZ,eU⟩:=(f9.mono' hS.base).get hx
   have dZ:=dZ.mono (Mem.off_le m2 _)
   have hw:IntKind.i64.wrap ((i:Int)+1)=((i+1:Nat):Int):=by rw[Zal (by omega) (by omega)];rfl
   have fK:=Zqf hx out
   have oU:=ZsC (l:=t.subs) (i:=i+1) out
   refine⟨b1,o1,ha,⟨by omega,by omega⟩,_,_,_,_,_,dZ,λb2=>Zaa rfl ?_⟩
   refine⟨_,_,Zo4 x (ZbS (t.subs.take i) out) a' c' m2 hS.row eU (by rw[<-fK];omega),λt' ht' bb jj=>?_,λbb jj=>.inl ⟨_,by simp,jj⟩,ZuR,?_⟩
   ·obtain rfl:t'=_:=by simpa using ht'
    exact jj
   ·rintro a3 n3 c3 m3 bR _ a4 c4 d4 ⟨a5,c5,hv,ft,eF,lP⟩
    simp only[Value.slice.injEq]at hv
    obtain⟨e1,e2,e3⟩:=hv
    subst a3 n3 c3
    simp only[List.cons.injEq,Value.slice.injEq,and_true]at ft
    obtain⟨e1,e2,e3⟩:=ft
    subst a4 c4 d4
    rw[<-fK]at eF lP ⊢
    refine⟨rfl,rfl,t.subs.length - (i+1),by omega,i+1,a5,c5,by omega,by rw[hw],rfl,hS.step bR eF lP,rfl⟩
  ·have hi':i=t.subs.length:=by have:=of_decide_eq_false dB;omega
   subst hi'
   rw[List.take_length]at hS ⊢
   exact⟨a',c',rfl,rfl,hS.row,hS.new⟩
termination_by SizeOf.sizeOf t
decreasing_by exact cE
theorem Zwz{P:Program}{g:FuncId}{args:Array Value}{m:Mem}{esz:Nat}{R:RTY}(h:CXY P g args m (Yn (.slice none 0 0)) [] [⟨.slice none 0 0,esz⟩] R):CX P g args m [] (λv m' css=>∃tvs,R v m' css tvs):=by
 have hY:∀b,¬Yn (.slice none 0 0) b:=λb hb=>by simp[Yn,Tok.blk]at hb
 have mU:m.le (m.off (Yn (.slice none 0 0))):=⟨λb o v hv=>by rw[Mem.off_at (hY b)];exact hv,λb e he=>by rw[Mem.off_k (hY b)];exact he⟩
 refine⟨h.1,λw h1 h2 h3=>(h.2 w h1 (by simp) (by simp) (λt ht=>?_) (λi j t t' b hi hj hb=>?_) (λb hb=>absurd hb (hY b))).mono ?_⟩
 ·obtain rfl:t=_:=by simpa using ht
  exact⟨.inl rfl,λb hb=>by simp[Tok.blk]at hb⟩
 ·intro _
  have hi:=List.mem_of_getElem? hi
  obtain rfl:t=_:=by simpa using hi
  simp[Tok.blk]at hb
 ·rintro e w' ⟨v,m',css,tvs,a1,a2,a3,a4,a5,a6,a7,a8,a9,a10,a11⟩
  exact⟨v,m',css,a1,mLt mU a2,a3,a4.mono λb hb=>hb.resolve_left (hY b),⟨a5.os,a5.tape,a5.output,a5.size,λk hk _=>a5.block k hk (λhm=>hm.elim (by simp) (hY k)),a5.wr⟩,a6,a7,tvs,a11⟩
def Zyw(l:List ByteArray):Value->Mem->List (List Value)->Prop:=λv m' _=>∃a c,v=.slice a l.length c/\rowRd m' a (Zft l)
theorem ZsX{l}:∀(v:Value)(m':Mem) (css:List (List Value)),Zyw l v m' css->Shape.fits .slice v=true:=λv _ _ ⟨_,_,e,_⟩=>by rw[e];rfl
theorem ZuS(t:E)(m:Mem)(hr:RepE m t):CX Tryz.prog 187 #[t.v] m [] (Zyw t.vars):=by
 apply ZmT
 intro b m1 aV _
 refine Zag (ZdC t m1 (RepE.mono' hr aV)) λm2 bA=>Zab (λh=>Zac (mLt aV bA) ?_) (λh=>?_)
 ·have hl:t.light=false:=by simpa using h
  have:t.vars=[]:=by unfold E.vars;rw[hl];rfl
  rw[this]
  exact⟨none,0,rfl,.inl rfl⟩
 ·have hl:t.light=true:=by simpa using h
  have hv:t.vars=t.names []:=by unfold E.vars;rw[hl];rfl
  have h1:(t.names []).length<=1000000:=by
   have h2:=Zf1 t []
   have h3:=of_decide_eq_true (show decide (t.nodes.length<=10000)=true from hl)
   simp only[List.length_nil]at h2
   omega
  rw[hv]
  have mU:m2.le (m2.off (Yn (.slice none 0 0))):=⟨λb o v hv=>by rw[Mem.off_at (λhb=>by simp[Yn,Tok.blk]at hb)];exact hv,λb e he=>by rw[Mem.off_k (λhb=>by simp[Yn,Tok.blk]at hb)];exact he⟩
  have key:=Zwz (Zo4 t [] none 0 m2 (.inl rfl) (RepE.mono' hr (mLt aV (mLt bA mU))) h1)
  refine Zai key (λv m' css ⟨_,_,_,e,_⟩=>by rw[e];rfl) ?_
  rintro a n c m3 bR ⟨tvs,a',c',hv',_,bF,_⟩
  simp only[Value.slice.injEq]at hv'
  obtain⟨rfl,rfl,rfl⟩:=hv'
  exact ZaS (mLt aV (mLt bA bR)) ⟨_,_,rfl,bF⟩
end Go.Proofs.YtojlhhphofhaoaaGreatDoor