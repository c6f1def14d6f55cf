/- Part of the proof: conditions and contracts of functions of this program. No condition of its own. -/
import Derived.Test.YthiefodednaikaaPC13Q
import Derived.Test.YthiefodednaikaaMr
import Derived.Test.YthiefodednaikaaPEnv
set_option linter.unusedVariables false
set_option linter.unusedSimpArgs false
namespace Go.Proofs.Ythiefodednaikaa
open Go Go.Eng Go.Rx Go.Proofs Go.RowKit
set_option maxRecDepth 100000
theorem Ztg(t:T)(m:Mem)(hr:Rep m t):CX Try.prog 94 #[t.v] m [] (Ret (.bool t.right)):=by
 apply Zn2
 unfold Zjv
 intro b m1 aW _
 have dU:=hr.mono aW
 refine⟨t.k != 2&&!t.setZ||(t.k != 5&&(t.mn != 0||t.mx != 0)||(decide (t.k < 3)&&decide (0 < t.subs.length))),?_,Zab (fun h=>Zac aW ?_) (fun h=>?_)⟩
 ·refine Zab (fun h1=>?_) (fun h1=>?_)
  ·refine⟨t.setZ,Ztf _ _ _ _ _ _ _ _,?_⟩
   simp only[ZqZ]
   (repeat' split) <;> simp_all <;> omega
  ·simp only[ZqZ]
   (repeat' split) <;> simp_all <;> omega
 ·simp[Ret,T.right,h]
 ·refine Zab (fun h1=>Zac aW ?_) (fun h1=>Zab (fun h2=>⟨t.setZ,Ztf _ _ _ _ _ _ _ _,Zac aW ?_⟩) (fun h2=>Zab (fun h3=>?_) (fun h3=>Zab (fun h4=>?_) (fun h4=>Zab (fun h5=>?_) (fun h5=>?_)))))
  ·have:t.k=1:=by simpa using h1
   show Value.bool _=Value.bool t.right;rw[T.right,h];simp[this]
  ·have:t.k=2:=by simpa using h2
   show Value.bool _=Value.bool t.right;rw[T.right,h];simp[this]
  ·have:t.k=3:=by simpa using h3
   refine⟨decide (1 < t.subs.length)&&(!t.has 1&&!t.has 3),Zab (fun h4=>?_) (fun h4=>?_),Zac aW ?_⟩
   ·refine Zak (Zrw t 1 m1 dU) fun m2 aY=>Zab (fun h5=>?_) (fun h5=>?_)
    ·refine Zak (Zrw t 3 m2 (dU.mono aY)) fun m3 bR=>⟨rfl,ZaL ?_⟩
     simp_all <;> (intros;omega)
    ·refine⟨rfl,ZaL ?_⟩
     simp_all <;> (intros;omega)
   ·refine⟨rfl,ZaL ?_⟩
    simp_all <;> (intros;omega)
   ·show Value.bool _=Value.bool t.right;rw[T.right,h];simp[this]
  ·have:t.k=4:=by simpa using h4
   refine⟨decide (1 < t.subs.length)&&!t.has 4,Zab (fun h4=>?_) (fun h4=>?_),Zac aW ?_⟩
   ·refine Zak (Zrw t 4 m1 dU) fun m2 aY=>⟨rfl,ZaL ?_⟩
    simp_all <;> (intros;omega)
   ·refine⟨rfl,ZaL ?_⟩
    simp_all <;> (intros;omega)
   ·show Value.bool _=Value.bool t.right;rw[T.right,h];simp[this]
  ·have:t.k=5:=by simpa using h5
   refine⟨t.subs.length == 1&&(Zdh t.mn t.mx&&!t.has 1),Zab (fun h4=>?_) (fun h4=>?_),Zac aW ?_⟩
   ·refine Zak (Zrv t.mn t.mx m1) fun m2 aY=>Zab (fun h5=>?_) (fun h5=>?_)
    ·refine Zak (Zrw t 1 m2 (dU.mono aY)) fun m3 bR=>⟨rfl,ZaL ?_⟩
     have h4':((t.subs.length:Int) == 1)=true:=h4
     have:t.subs.length=1:=by have:=of_decide_eq_true h4';omega
     simp_all <;> (intros;omega)
    ·refine⟨rfl,ZaL ?_⟩
     simp_all <;> (intros;omega)
   ·refine⟨rfl,ZaL ?_⟩
    have h4':((t.subs.length:Int) == 1)=false:=h4
    have:¬t.subs.length=1:=by have:=of_decide_eq_false h4';omega
    simp_all <;> (intros;omega)
   ·show Value.bool _=Value.bool t.right;rw[T.right,h];simp[this]
  ·refine⟨t.k == 6&&t.subs.length == 1,Zab (fun h4=>⟨rfl,ZaL ?_⟩) (fun h4=>⟨rfl,ZaL ?_⟩),Zac aW ?_⟩
   ·have:(t.k == 6)=true:=h4
    rw[this,Bool.true_and]
    show(decide ((t.subs.length:Int)=1))=decide (t.subs.length=1)
    rw[decide_eq_decide];omega
   ·have:(t.k == 6)=false:=h4
    simp[this]
   ·show Value.bool _=Value.bool t.right;rw[T.right,h]
    have e1:¬t.k=1:=by simpa using h1
    have e2:¬t.k=2:=by simpa using h2
    have e3:¬t.k=3:=by simpa using h3
    have e4:¬t.k=4:=by simpa using h4
    have e5:¬t.k=5:=by simpa using h5
    simp[e1,e2,e3,e4,e5]
theorem Zth(t:T)(m:Mem)(hr:Rep m t):CX Try.prog 74 #[t.v] m [] (Ret (.bool t.clean)):=by
 apply Zn3
 unfold Zjw
 intro b m1 aW _ b2
 refine Zak (Zgs t m1 (hr.mono aW)) fun m2 aY=>Zab (fun h=>Zac (Mem.le_trans aW aY) ?_) (fun h=>?_)
 ·have:t.light=false:=by simpa using h
  simp[Ret,T.clean,this]
 have hl:t.light=true:=by simpa using h
 refine Zan (Zh9 t m2) (fun v m' css h=>by obtain⟨_,rfl,_⟩:=h;rfl) ?_
 rintro g fi ca m3 bR ⟨b3,hv,fB⟩
 obtain⟨rfl,rfl,rfl⟩:=Zh5 hv
 have cI:=Mem.le_trans aW (Mem.le_trans aY bR)
 refine⟨_,ZfN t m3 b3 fB (hr.mono cI),fun y hy=>?_,fun _ css _ m' q=>m3.le m'∧∀x∈t.nodes.take q,x.right=true,⟨Mem.le_refl _,by simp⟩,?_,?_⟩
 ·obtain⟨z,_,rfl⟩:=List.mem_map.1 hy;exact ZoM z
 ·rintro n0 n1 n2 n3 n4 n5 n6 a n7 c cs m4 q cF hq ⟨_,iu⟩ b4
  have hq':(List.map (fun z:T=>[z.v]) t.nodes)[(q:Nat)]?=some [Value.agg #[.int .u8 n0,.int .u64 n1,.int .u64 n2,.int .u64 n3,.int .u64 n4,.int .i64 n5,.int .i64 n6,.slice a n7 c]]:=hq
  rw[List.getElem?_map]at hq'
  obtain⟨z,hz,mq⟩:=Option.map_eq_some_iff.1 hq'
  have ph:z.v=Value.agg #[.int .u8 n0,.int .u64 n1,.int .u64 n2,.int .u64 n3,.int .u64 n4,.int .i64 n5,.int .i64 n6,.slice a n7 c]:=by simpa using mq
  have rT:Rep m4 z:=(Zq1 (hr.mono cI) (List.mem_of_getElem? hz)).mono cF
  have eM:=Ztg z m4 rT
  rw[ph]at eM
  refine Zak eM fun m5 cO=>Zab (fun h=>⟨rfl,Zac (Mem.le_trans cI (Mem.le_trans cF cO)) ?_⟩) (fun h=>⟨rfl,Mem.le_trans cF cO,fun x hx=>?_⟩)
  ·have nZ:z.right=false:=by simpa using h
   have:t.nodes.all T.right=false:=by
    rw[List.all_eq_false];exact⟨z,List.mem_of_getElem? hz,by simp[nZ]⟩
   simp[Ret,T.clean,this]
  ·rw[List.take_add_one,hz]at hx
   rcases List.mem_append.1 hx with hx|hx
   ·exact iu x hx
   ·simp at hx;rw[hx];simpa using h
 ·rintro cs m4 cF ⟨_,iu⟩
  refine Zac (Mem.le_trans cI cF) ?_
  rw[List.length_map,List.take_length]at iu
  have:t.nodes.all T.right=true:=List.all_eq_true.2 iu
  simp[Ret,T.clean,this,hl]
theorem ZuN(t:T)(m:Mem)(hr:Rep m t):CX Try.prog 78 #[t.v] m [] (Ret (.int .i64 t.size)):=by
 apply Zo5
 unfold Zlu
 intro b m1 aW _
 refine Zak (Zgs t m1 (hr.mono aW)) fun m2 aY=>Zab (fun h=>Zac (Mem.le_trans aW aY) ?_) (fun h=>?_)
 ·have:t.light=false:=by simpa using h
  simp[Ret,T.size,this]
 have hl:t.light=true:=by simpa using h
 have rU:t.nodes.length≤10000:=of_decide_eq_true hl
 intro b2
 refine Zan (Zh9 t m2) (fun v m' css h=>by obtain⟨_,rfl,_⟩:=h;rfl) ?_
 rintro g fi ca m3 bR ⟨b3,hv,fB⟩
 obtain⟨rfl,rfl,rfl⟩:=Zh5 hv
 have cI:=Mem.le_trans aW (Mem.le_trans aY bR)
 refine⟨_,ZfN t m3 b3 fB (hr.mono cI),fun y hy=>?_,fun _ css _ m' q=>css=[[.int .i64 q]]∧q≤t.nodes.length,⟨rfl,by omega⟩,?_,?_⟩
 ·obtain⟨z,_,rfl⟩:=List.mem_map.1 hy;exact ZoM z
 ·rintro n0 n1 n2 n3 n4 n5 n6 a n7 c cs m4 q cF hq ⟨cR,_⟩
  obtain rfl:cs=[.int .i64 q]:=by simpa using cR
  have bA:q < t.nodes.length:=by
   have:=(List.getElem?_eq_some_iff.1 (show(List.map (fun z:T=>[z.v]) t.nodes)[(q:Nat)]?=some _ from hq)).1
   simpa using this
  have hw:IntKind.i64.wrap (intOf (Value.int .i64 (q:Int))+1)=(q:Int)+1:=Zap (n:=(q:Int)+1) (by omega) (by omega)
  refine Zag rfl (Zaa rfl ?_)
  simp only[hw]
  exact⟨by trivial,by simp,by omega⟩
 ·rintro cs m4 cF ⟨cR,iu⟩
  obtain rfl:cs=[.int .i64 t.nodes.length]:=by simpa using cR
  refine Zag rfl (Zac (Mem.le_trans cI cF) ?_)
  simp[Ret,T.size,hl]
theorem Zrx(t:T)(m:Mem)(hr:Rep m t):CX Try.prog 80 #[t.v] m [] (Ret (.int .i64 t.groups)):=by
 apply Zl7
 unfold Zhn
 intro b m1 aW _
 refine Zak (Zgs t m1 (hr.mono aW)) fun m2 aY=>Zab (fun h=>Zac (Mem.le_trans aW aY) ?_) (fun h=>?_)
 ·have:t.light=false:=by simpa using h
  simp[Ret,T.groups,this]
 have hl:t.light=true:=by simpa using h
 have rU:t.nodes.length≤10000:=of_decide_eq_true hl
 intro b2
 refine Zan (Zh9 t m2) (fun v m' css h=>by obtain⟨_,rfl,_⟩:=h;rfl) ?_
 rintro g fi ca m3 bR ⟨b3,hv,fB⟩
 obtain⟨rfl,rfl,rfl⟩:=Zh5 hv
 have cI:=Mem.le_trans aW (Mem.le_trans aY bR)
 have fC:∀q,(t.nodes.take q).countP (fun x=>x.k == 6)≤10000:=fun q=>by
  have h1:=List.countP_le_length (p:=fun x:T=>x.k == 6) (l:=t.nodes.take q)
  have h2:(t.nodes.take q).length≤t.nodes.length:=List.length_take_le' _ _
  omega
 refine⟨_,ZfN t m3 b3 fB (hr.mono cI),fun y hy=>?_,fun _ css _ m' q=>css=[[.int .i64 ((t.nodes.take q).countP fun x=>x.k == 6:Nat)]]∧q≤t.nodes.length,⟨rfl,by omega⟩,?_,?_⟩
 ·obtain⟨z,_,rfl⟩:=List.mem_map.1 hy;exact ZoM z
 ·rintro n0 n1 n2 n3 n4 n5 n6 a n7 c cs m4 q cF hq ⟨cR,_⟩ b4
  obtain rfl:cs=_:=by simpa using cR
  have hq':(List.map (fun z:T=>[z.v]) t.nodes)[(q:Nat)]?=some [Value.agg #[.int .u8 n0,.int .u64 n1,.int .u64 n2,.int .u64 n3,.int .u64 n4,.int .i64 n5,.int .i64 n6,.slice a n7 c]]:=hq
  rw[List.getElem?_map]at hq'
  obtain⟨z,hz,mq⟩:=Option.map_eq_some_iff.1 hq'
  have hk:z.k=n0:=by
   have:z.v=Value.agg #[.int .u8 n0,.int .u64 n1,.int .u64 n2,.int .u64 n3,.int .u64 n4,.int .i64 n5,.int .i64 n6,.slice a n7 c]:=by simpa using mq
   simp[T.v]at this;exact this.1
  have bA:=(List.getElem?_eq_some_iff.1 hz).1
  have dZ:(t.nodes.take (q+1)).countP (fun x=>x.k == 6)=(t.nodes.take q).countP (fun x=>x.k == 6)+(if z.k == 6 then 1 else 0):=by
   rw[List.take_add_one,hz,List.countP_append];simp[List.countP_cons]
  refine Zab (fun h=>?_) (fun h=>?_)
  ·have hw:IntKind.i64.wrap (intOf (Value.int .i64 ((t.nodes.take q).countP fun x=>x.k == 6:Nat))+1)=(((t.nodes.take q).countP fun x=>x.k == 6:Nat):Int)+1:=Zap (n:=(((t.nodes.take q).countP fun x=>x.k == 6:Nat):Int)+1) (by have:=fC q;omega) (by have:=fC q;omega)
   refine Zag rfl (Zaa rfl ?_)
   simp only[hw]
   refine⟨by trivial,?_,by omega⟩
   rw[dZ,hk]
   have:(n0 == 6)=true:=h
   simp[this]
  ·refine⟨rfl,?_,by omega⟩
   rw[dZ,hk]
   have:(n0 == 6)=false:=h
   simp[this]
 ·rintro cs m4 cF ⟨cR,iu⟩
  obtain rfl:cs=_:=by simpa using cR
  refine Zag rfl (Zac (Mem.le_trans cI cF) ?_)
  simp[Ret,T.groups,hl]
theorem Zhp(t:T)(m:Mem)(hr:Rep m t)(hl:t.nodes.length≤10000):CX Try.prog 95 #[t.v] m [] (Ret (.int .i64 t.pos)):=by
 apply Zhl
 unfold Zem
 intro b m1 aW _
 have fR:=Zld t
 have eT:=Zq2 t
 refine Zab (fun hk=>?_) (fun hk=>?_)
 all_goals
  have hk':(if t.k=2 then(1:Int)else 0)=1∧t.k=2∨(if t.k=2 then(1:Int)else 0)=0∧t.k≠2:=by split <;> simp_all
  refine⟨fun xs _ _ m'' q=>∃i:Nat,i≤t.subs.length∧xs=[.int .i64 ((if t.k=2 then 1 else 0)+ZeI (t.subs.take i)),.int .i64 i]∧m1.le m''∧q=t.subs.length - i,⟨t.subs.length,0,by omega,by simp_all [ZeI],Mem.le_refl _,by omega⟩,?_⟩
  rintro n n1 m2 q aY ⟨i,hi,eY,_,hq⟩
  have eZ:=Zjl (t.subs.take i)
  have dT:=ZpQ (t.subs.take i)
  have fB:(t.subs.take i).length≤i:=List.length_take_le _ _
  clear hk'
  generalize hc:(if t.k=2 then(1:Int)else 0)=c at *
  have rV:0≤c∧c≤1:=by rw[←hc];split <;> omega
  simp only[List.cons.injEq,Value.int.injEq,true_and,and_true]at eY
  obtain⟨rfl,rfl⟩:=eY
  refine Zab (fun bA=>?_) (fun cN=>?_)
  ·have aX:i < t.subs.length:=by simpa using bA
   obtain⟨x,hx⟩:∃x,t.subs[i]?=some x:=⟨_,List.getElem?_eq_getElem aX⟩
   have bZ:x∈t.subs:=List.mem_of_getElem? hx
   have bT:=Zeh bZ
   have rW:=Zhb bZ
   obtain⟨_,h0|⟨b1,o1,ha,dR⟩⟩:=ZdC hr
   ·rw[h0]at aX;simp at aX
   obtain⟨iq,fK⟩:=(dR.mono ((Mem.le_trans aW aY))).get hx
   have pR:=ZlW x
   refine⟨b1,o1,ha,⟨by omega,by omega⟩,_,_,_,_,_,_,_,_,iq,fun b2=>Zaa rfl ?_⟩
   refine Zat (Zhp x m2 fK (by omega)) fun m3 bR=>⟨rfl,t.subs.length - (i+1),by omega,i+1,by omega,?_,Mem.le_trans aY bR,rfl⟩
   rw[Zap (by omega) (by omega),Zap (by omega) (by omega),Znv hx,Int.add_assoc]
   rfl
  ·have hi':i=t.subs.length:=by
    have:¬((i:Int) < (t.subs.length:Int)):=by simpa using cN
    omega
   subst hi'
   rw[List.take_length]at eZ dT ⊢
   have hF:=ZpP t.mn t.mx
   have pi:0≤(c+ZeI t.subs)*ZtO t.mn t.mx∧(c+ZeI t.subs)*ZtO t.mn t.mx≤100020001*10001:=by
    constructor
    ·exact Int.mul_nonneg (by omega) hF.1
    ·exact Int.mul_le_mul (by omega) hF.2 hF.1 (by omega)
   refine Zab (fun h5=>Zab (fun hx=>Zac (Mem.le_trans aW aY) ?_) (fun hx=>Zac (Mem.le_trans aW aY) ?_)) (fun h5=>Zac (Mem.le_trans aW aY) ?_)
   ·have e1:t.k=5:=by simpa using h5
    have e2:t.mx=-1:=by simpa using hx
    have hF':ZtO t.mn t.mx=ZlV (Zmm (Zmm t.mn 0) 1) 10001:=by simp[ZtO,e2]
    show Value.int .i64 (ZlV (IntKind.i64.wrap ((c+ZeI t.subs)*ZlV (Zmm (Zmm t.mn 0) 1) 10001)) 10001)=Value.int .i64 t.pos
    rw[←hF',Zap (by omega) (by omega),eT,Zr6,if_pos e1];rfl
   ·have e1:t.k=5:=by simpa using h5
    have e2:¬t.mx=-1:=by simpa using hx
    have hF':ZtO t.mn t.mx=ZlV (Zmm (Zmm t.mn 0) t.mx) 10001:=by simp[ZtO,e2]
    show Value.int .i64 (ZlV (IntKind.i64.wrap ((c+ZeI t.subs)*ZlV (Zmm (Zmm t.mn 0) t.mx) 10001)) 10001)=Value.int .i64 t.pos
    rw[←hF',Zap (by omega) (by omega),eT,Zr6,if_pos e1];rfl
   ·have e1:¬t.k=5:=by simpa using h5
    show Value.int .i64 (ZlV (c+ZeI t.subs) 10001)=Value.int .i64 t.pos
    rw[eT,Zr6,if_neg e1]
termination_by SizeOf.sizeOf t
decreasing_by all_goals exact bT
theorem Zl9(t:T)(m:Mem)(hr:Rep m t):CX Try.prog 79 #[t.v] m [] (Ret (.int .i64 t.positions)):=by
 apply Zhm
 unfold Zen
 intro b m1 aW _
 refine Zak (Zgs t m1 (hr.mono aW)) fun m2 aY=>Zab (fun h=>Zac (Mem.le_trans aW aY) ?_) (fun h=>?_)
 ·have:t.light=false:=by simpa using h
  simp[Ret,T.positions,this]
 have hl:t.light=true:=by simpa using h
 refine Zat (Zhp t m2 (hr.mono (Mem.le_trans aW aY)) (of_decide_eq_true hl)) fun m3 bR=>Zac (Mem.le_trans aW (Mem.le_trans aY bR)) ?_
 simp[Ret,T.positions,hl]
def ZxC(bg en:Bool)(t:T):Value:=.agg #[.bool bg,.bool en,.int .u8 t.k,.int .u64 t.s0,.int .u64 t.s1,.int .u64 t.s2,.int .u64 t.s3,.int .i64 t.mn,.int .i64 t.mx,.slice t.a t.subs.length t.c]
theorem ZmB(bg en:Bool)(t:T)(m:Mem)(hr:Rep m t):CX Try.prog 34 #[ZxC bg en t] m [] (Ret (.int .i64 t.check)):=by
 apply Zn5
 unfold Zjx
 intro b m1 aW _
 refine Zak (Zth t m1 (hr.mono aW)) fun m2 aY=>Zab (fun h=>Zac (Mem.le_trans aW aY) ?_) (fun h=>?_)
 ·have:t.clean=false:=by simpa using h
  simp[Ret,T.check,this]
 have hZ:=Mem.le_trans aW aY
 have h1:¬t.clean=false:=by simpa using h
 refine Zat (ZuN t m2 (hr.mono hZ)) fun m3 bR=>Zab (fun h=>Zac (Mem.le_trans hZ bR) ?_) (fun h=>?_)
 ·have h2:t.size > 120:=by simpa using h
  show Value.int .i64 81=Value.int .i64 t.check
  rw[T.check,if_neg h1,if_pos h2]
 have h2:¬t.size > 120:=by simpa using h
 have ia:=Mem.le_trans hZ bR
 refine Zat (Zl9 t m3 (hr.mono ia)) fun m4 cF=>Zab (fun h=>Zac (Mem.le_trans ia cF) ?_) (fun h=>?_)
 ·have h3:t.positions > 400:=by simpa using h
  show Value.int .i64 82=Value.int .i64 t.check
  rw[T.check,if_neg h1,if_neg h2,if_pos h3]
 have h3:¬t.positions > 400:=by simpa using h
 have ib:=Mem.le_trans ia cF
 refine Zat (Zrx t m4 (hr.mono ib)) fun m5 cO=>Zab (fun h=>Zac (Mem.le_trans ib cO) ?_) (fun h=>Zac (Mem.le_trans ib cO) ?_)
 ·have h4:t.groups > 9:=by simpa using h
  show Value.int .i64 83=Value.int .i64 t.check
  rw[T.check,if_neg h1,if_neg h2,if_neg h3,if_pos h4]
 ·have h4:¬t.groups > 9:=by simpa using h
  show Value.int .i64 0=Value.int .i64 t.check
  rw[T.check,if_neg h1,if_neg h2,if_neg h3,if_neg h4]
theorem Zma(l l':List T)(a a':Option Addr)(c c':Nat)(m:Mem)(hl:l.length≤1000000000000000)(hr:l=[]∨∃b o,a=some ⟨b,o,none⟩∧RepAt m b o l)(hr':l'=[]∨∃b o,a'=some ⟨b,o,none⟩∧RepAt m b o l')
  (hp:∀x∈l,∀y∈l',∀m',m.le m'→Rep m' x→Rep m' y→CX Try.prog 91 #[x.v,y.v] m' [] (Ret (.bool (x.same y)))):
  CX Try.prog 114 #[.slice a l.length c,.slice a' l'.length c',.func (.func 91) #[] #[]] m [] (Ret (.bool (Zei l l'))):=by
 apply ZaI a l.length c a' l'.length c' _ [] []
 unfold Zaw
 refine Zab (fun h=>Zac (Mem.le_refl _) ?_) (fun h=>?_)
 ·have:¬l.length=l'.length:=by
   intro e;rw[e]at h;simp at h
  show Value.bool false=_
  rw[Zj4 this]
 have gF:l.length=l'.length:=by
  have h2:((l.length:Int) == (l'.length:Int))=true:=by simpa using h
  have:=of_decide_eq_true h2;omega
 refine⟨fun xs _ _ m'' q=>∃i:Nat,i≤l.length∧xs=[.int .i64 i]∧Zei (l.take i) (l'.take i)=true∧m.le m''∧q=l.length - i,⟨l.length,0,by omega,rfl,by simp[Zei],Mem.le_refl _,by omega⟩,?_⟩
 rintro n m' q hm ⟨i,hi,hn,fG,cI,hq⟩
 obtain rfl:n=i:=by simpa using hn
 refine Zab (fun bA=>?_) (fun cN=>?_)
 ·have aX:i < l.length:=by simpa using bA
  obtain⟨x,hx⟩:∃x,l[i]?=some x:=⟨_,List.getElem?_eq_getElem aX⟩
  obtain⟨y,hy⟩:∃y,l'[i]?=some y:=⟨_,List.getElem?_eq_getElem (by omega)⟩
  have gV:x∈l:=List.mem_of_getElem? hx
  have rX:y∈l':=List.mem_of_getElem? hy
  rcases hr with h0|⟨b1,o1,ha,dR⟩
  ·rw[h0]at aX;simp at aX
  rcases hr' with h0|⟨b2,o2,ha',kR⟩
  ·rw[h0]at gF;simp at gF;rw[gF]at aX;simp at aX
  obtain⟨iq,fK⟩:=(dR.mono hm).get hx
  obtain⟨kj,mt⟩:=(kR.mono hm).get hy
  refine⟨b1,o1,ha,⟨by omega,by omega⟩,_,_,_,_,_,_,_,_,iq,fun b3=>Zaa rfl ⟨b2,o2,ha',⟨by omega,by omega⟩,_,_,_,_,_,_,_,_,kj,fun b4=>Zaa rfl ?_⟩⟩
  refine Zak (hp x gV y rX m' hm fK mt) fun m1 aW=>Zab (fun j1=>?_) (fun j1=>?_)
  ·have hf:x.same y=false:=by simpa using j1
   refine Zac (Mem.le_trans hm aW) ?_
   show Value.bool false=_
   rw[Zmt hx hy hf]
  ·have hf:x.same y=true:=by simpa using j1
   refine⟨l.length - (i+1),by omega,i+1,by omega,by rw[Zap (by omega) (by omega)];rfl,Zh6 hx hy fG hf trivial,Mem.le_trans hm aW,rfl⟩
 ·have hi':i=l.length:=by
   have:¬((i:Int) < (l.length:Int)):=by simpa using cN
   omega
  subst hi'
  refine Zac hm ?_
  rw[List.take_length,gF,List.take_length]at fG
  show Value.bool true=_
  rw[fG]
theorem Zsn(t u:T)(m:Mem)(hr:Rep m t)(hu:Rep m u):CX Try.prog 91 #[t.v,u.v] m [] (Ret (.bool (t.same u))):=by
 apply Zo7
 unfold Zlv
 intro b m1 aW _ b' m2 aY _
 have hm:=Mem.le_trans aW aY
 refine⟨t.same u,?_,Zac hm rfl⟩
 rw[Zr7]
 refine Zab (fun h1=>⟨_,Ztf _ _ _ _ _ _ _ _,Zab (fun h2=>Zab (fun h3=>Zab (fun h4=>?_) (fun h4=>⟨rfl,ZaL ?_⟩)) (fun h3=>⟨rfl,ZaL ?_⟩)) (fun h2=>⟨rfl,ZaL ?_⟩)⟩) (fun h1=>⟨rfl,ZaL ?_⟩)
 ·have hr':=ZdC (hr.mono hm)
  have hu':=ZdC (hu.mono hm)
  refine Zak (Zma t.subs u.subs t.a u.a t.c u.c m2 hr'.1 hr'.2 hu'.2 fun x hx y hy m' _ iq kj=>?_) fun m3 bR=>⟨rfl,ZaL ?_⟩
  ·have bT:=Zeh hx
   exact Zsn x y m' iq kj
  ·rw[h1,h2,h3,h4];rfl
 ·rw[h1,h2,h3,h4];rfl
 ·rw[h1,h2,h3];rfl
 ·rw[h1,h2];rfl
 ·rw[h1];rfl
termination_by SizeOf.sizeOf t
decreasing_by exact bT
theorem ZuO(t u:T)(m:Mem)(hr:Rep m t)(hu:Rep m u):CX Try.prog 83 #[t.v,u.v] m [] (Ret (.bool (t.light&&(u.light&&t.same u)))):=by
 apply Zo8
 unfold Zlw
 intro b m1 aW _ b' m2 aY _
 have hm:=Mem.le_trans aW aY
 refine⟨t.light&&(u.light&&t.same u),?_,Zac hm rfl⟩
 refine Zak (Zgs t m2 (hr.mono hm)) fun m3 bR=>Zab (fun h1=>?_) (fun h1=>⟨rfl,ZaL ?_⟩)
 ·refine Zak (Zgs u m3 (hu.mono (Mem.le_trans hm bR))) fun m4 cF=>Zab (fun h2=>?_) (fun h2=>?_)
  ·have cO:=Mem.le_trans (Mem.le_trans hm bR) cF
   refine Zak (Zsn t u m4 (hr.mono cO) (hu.mono cO)) fun m6 dK=>⟨rfl,ZaL ?_⟩
   rw[h1,h2];rfl
  ·refine⟨rfl,ZaL ?_⟩
   rw[h1,h2];rfl
 ·rw[h1];rfl
end Go.Proofs.Ythiefodednaikaa
set_option linter.unusedVariables false
set_option linter.unusedSimpArgs false
set_option linter.unusedSectionVars false
namespace Go.Proofs.Ythiefodednaikaa
open Go Go.Eng Go.Rx Go.Proofs Go.RowKit
theorem Zxv{b:Bool}{p q:Prop}(h:b=true)(k:p):br b p q:=by subst h;exact k
theorem Zda{b:Bool}{p q:Prop}(h:b=false)(k:q):br b p q:=by subst h;exact k
theorem Zfb{α:Type}{l:List α}{k:Nat}(h:k < l.length):∃x,l[k]?=some x:=⟨l[k],List.getElem?_eq_getElem h⟩
theorem ZuP{m:Mem}{a:Option Addr}{ts:List T}(h:rowRd m a (Rx.Zcy ts)){i:Nat}{t:T}(hi:ts[i]?=some t):∃b o,a=some ⟨b,o,none⟩∧m.reads b (o+i*8) t.cs:=by
 rcases h with h|⟨b,o,ha,h⟩
 ·have hl:(Rx.Zcy ts).length=0:=by rw[h];rfl
  rw[ZfK]at hl
  have:=(List.getElem?_eq_some_iff.1 hi).1
  omega
 ·refine⟨b,o,ha,fun j v hj=>?_⟩
  rw[Nat.add_assoc]
  refine h (i*8+j) v ?_
  have e:ts=ts.take i++(t::ts.drop (i+1)):=by
   have bA:=(List.getElem?_eq_some_iff.1 hi).1
   have h2:=List.drop_eq_getElem_cons bA
   rw[(List.getElem?_eq_some_iff.1 hi).2]at h2
   rw[←h2,List.take_append_drop]
  have bA:=(List.getElem?_eq_some_iff.1 hi).1
  have rY:=(List.getElem?_eq_some_iff.1 hj).1
  rw[e,Zgi,List.getElem?_append_right (by rw[ZfK,List.length_take,Nat.min_eq_left (by omega)];omega),ZfK,List.length_take,Nat.min_eq_left (by omega),show i*8+j - i*8=j by omega]
  have e2:Rx.Zcy (t::ts.drop (i+1))=t.cs++Rx.Zcy (ts.drop (i+1)):=by simp[Rx.Zcy]
  rw[e2,List.getElem?_append_left rY];exact hj
def Apart(mb:Mem)(a:Option Addr):Prop:=a=none∨∃b,a=some ⟨b,0,none⟩∧mb.free b
theorem Apart.tok{mb M:Mem}{a a':Option Addr}{n c:Nat}(h:Apart mb a)(hm:mb.le M)(ht:TokFact M a a' n c):Apart mb a':=by
 rcases ht.2 with h1|⟨b,o,h1,h2⟩
 ·exact .inl h1
 rcases h2 with h2|⟨h3,h2⟩
 ·rw[←h2];exact h
 ·subst h3
  refine .inr ⟨b,h1,fun o=>?_⟩
  cases hb:mb b o with
  | none=>rfl
  | some v=>have:=hm _ _ _ hb;rw[h2 o]at this;cases this
theorem Apart.base{mb m:Mem}{a:Option Addr}{ts:List T}(h:Apart mb a)(cJ:rowRd m a (Rx.Zcy ts))(hn:ts≠[]):∃b,a=some ⟨b,0,none⟩∧mb.free b∧∃o u,m b o=some u:=by
 obtain⟨t,r,rfl⟩:∃t r,ts=t::r:=by cases ts with
  | nil=>exact absurd rfl hn
  | cons t r=>exact⟨t,r,rfl⟩
 obtain⟨b',o,ha,cH⟩:=ZuP cJ (i:=0) (t:=t) rfl
 rcases h with h|⟨b,hb,hf⟩
 ·rw[h]at ha;cases ha
 ·rw[hb]at ha;cases ha
  exact⟨b',hb,hf,_,_,cH 0 (.int .u8 t.k) rfl⟩
end Go.Proofs.Ythiefodednaikaa
set_option linter.unusedVariables false
namespace Go.Proofs.Ythiefodednaikaa
open Go Go.Eng Go.Proofs Go.RowKit
open Go.Value (int slice agg)
open Go.IntKind (u8 u64 i64)
set_option maxRecDepth 100000
noncomputable def ZdJ:Env:={ EB with
 dr:=(fun i=>bif Nat.beq i 1 then[⟨0,[3],[],none,[],[]⟩,⟨1,[],[],none,[0],[]⟩,⟨2,[4],[],none,[],[]⟩,⟨3,[4],[],none,[2],[]⟩,⟨4,[],[],none,[0,1,2,3],[]⟩,⟨5,[4],[],none,[],[]⟩,⟨6,[5],[],none,[],[]⟩,⟨7,[],[],none,[0,1,2,3,4,5,6],[1]⟩,⟨8,[6],[6],none,[0,1,2,3,4,5,6,7],[]⟩]else[])
 frzNew:=[3,4,5] }
def Zbk(aU:Option Addr)(aT aV:Nat)(aB:Bool)(aN aO aP aQ aR aS:Int)(aK:Option Addr)(aL aM:Nat)(bC bD bE bF bG bH bI bJ bK:Int)(m:Mem)(R:RT):Prop:=
 ∀(b:Nat)(m':Mem),Mem.le m m'→Mem.reads m' b 0 [slice aU aT aV,Value.bool aB]→∀(b:Nat)(ab:Mem),Mem.le m' ab→Mem.reads ab b 0 [int u8 0,int u64 aN,int u64 aO,int u64 aP,int u64
 aQ,int i64 aR,int i64 aS,slice aK aL aM]→∀(b:Nat)(m':Mem),Mem.le ab m'→Mem.reads m' b 0 [int u64 bC,int u64 bD,int u64 bE,int u64 bF,int u64 bG,int u64 bH,int u64 bI,int
 u64 bJ,int u64 bK]→∀(b:Nat),∃(f:Fx),∃(R_1:RT),R_1=f 1 [agg (Array.mk [slice aU aT aV,Value.bool aB])] m'∧CX Try.prog 84 (Array.mk [agg (Array.mk [slice aU aT aV,Value.bool
 aB])]) m' [] R_1∧Zax (Shape.agg [Shape.fn,Shape.fn,Shape.fn,Shape.fn,Shape.fn,Shape.fn,Shape.fn]) R_1∧∀(g:Nat)(fi ca:List Value)(al:Nat)(am an:List Value)(ao:Nat)(ap aq:List Value) (ar:
 Nat) (au av:List Value) (aw:Nat) (ax ay:List Value) (az:Nat) (a0 a1:List Value) (a2:Nat) (a3 a4:List Value) (aa:Mem),Mem.le m' aa→R_1 (agg (Array.mk [Value.func (Fn.func g) (Array.mk fi) (Array.mk
 ca),Value.func (Fn.func al) (Array.mk am) (Array.mk an),Value.func (Fn.func ao) (Array.mk ap) (Array.mk aq),Value.func (Fn.func ar) (Array.mk au) (Array.mk av),Value.func (Fn.func aw) (Array.mk ax) (Array.mk ay),
 Value.func (Fn.func az) (Array.mk a0) (Array.mk a1),Value.func (Fn.func a2) (Array.mk a3) (Array.mk a4)])) aa []→Zaf (0:Int) 7∧∃(R_2:RT),R_2=f 7 (List.append (List.append fi [agg (Array.mk [int u8 0,
 int u64 aN,int u64 aO,int u64 aP,int u64 aQ,int i64 aR,int i64 aS,slice aK aL aM]),agg (Array.mk [int u64 bC,int u64 bD,int u64 bE,int u64 bF,int u64 bG,int u64 bH,int u64
 bI,int u64 bJ,int u64 bK])]) ca) aa∧CX Try.prog g (Array.mk (List.append (List.append fi [agg (Array.mk [int u8 0,int u64 aN,int u64 aO,int u64 aP,int u64 aQ,int i64 aR,int i64 aS,slice
 aK aL aM]),agg (Array.mk [int u64 bC,int u64 bD,int u64 bE,int u64 bF,int u64 bG,int u64 bH,int u64 bI,int u64 bJ,int u64 bK])]) ca)) aa [] R_2∧Zax (Shape.agg [Shape.int u64,
 Shape.int u64,Shape.int u64,Shape.int u64,Shape.int u64,Shape.int u64,Shape.int u64,Shape.int u64,Shape.int u64]) R_2∧∀(n ad ae af ag ah ai aj ak:Int)(ac:Mem),Mem.le aa ac→R_2 (agg (Array.mk [int u64
 n,int u64 ad,int u64 ae,int u64 af,int u64 ag,int u64 ah,int u64 ai,int u64 aj,int u64 ak])) ac []→∀(M:Mem),Mem.le m' M→Mem.le aa M→Mem.le ac M→∃(m'':Mem),Mem.le m m''∧Mem.le m'' M∧R (agg
 (Array.mk [int u64 n,int u64 ad,int u64 ae,int u64 af,int u64 ag,int u64 ah,int u64 ai,int u64 aj,int u64 ak])) m'' []
theorem Zdj(aU:Option Addr)(aT aV:Nat)(aB:Bool)(aN aO aP aQ aR aS:Int)(aK:Option Addr)(aL aM:Nat)(bC bD bE bF bG bH bI bJ bK:Int)(m:Mem)(R:RT)(h:Zbk aU aT aV aB aN aO aP aQ aR aS aK aL aM bC bD bE bF bG bH bI bJ bK m R):CX Try.prog 53 #[.agg #[.slice aU aT aV,.bool aB],.agg #[.int .u8 0,.int .u64 aN,.int .u64 aO,.int .u64 aP,.int .u64 aQ,.int .i64 aR,.int .i64 aS,.slice aK aL aM],.agg #[.int .u64 bC,.int .u64 bD,.int .u64 bE,.int .u64 bF,.int .u64 bG,.int .u64 bH,.int .u64 bI,.int .u64 bJ,.int .u64 bK]] m [] R:=
 Zad (E:=ZdJ) ZaA mix Try.func53 [.v (.agg #[.slice aU aT aV,.bool aB]),.v (.agg #[.int .u8 0,.int .u64 aN,.int .u64 aO,.int .u64 aP,.int .u64 aQ,.int .i64 aR,.int .i64 aS,.slice aK aL aM]),.v (.agg #[.int .u64 bC,.int .u64 bD,.int .u64 bE,.int .u64 bF,.int .u64 bG,.int .u64 bH,.int .u64 bI,.int .u64 bJ,.int .u64 bK])] [] (by kernel_rfl) (Eq.mp (by kernel_rfl) h)
noncomputable def ZdK:Env:={ EB with
 dr:=(fun i=>bif Nat.beq i 1 then[⟨0,[3],[],none,[],[]⟩,⟨1,[],[],none,[0],[]⟩,⟨2,[4],[],none,[],[]⟩,⟨3,[4],[],none,[2],[]⟩,⟨4,[],[],none,[0,1,2,3],[]⟩,⟨5,[4],[],none,[],[]⟩,⟨6,[5],[],none,[],[]⟩,⟨7,[],[],none,[0,1,2,3,4,5,6],[1]⟩,⟨8,[6],[6],none,[0,1,2,3,4,5,6,7],[]⟩]else[])
 frzNew:=[3,4,5] }
def Zbl(aU:Option Addr)(aT aV:Nat)(aB:Bool)(aN aO aP aQ aR aS:Int)(aK:Option Addr)(aL aM:Nat)(bC bD bE bF bG bH bI bJ bK:Int)(m:Mem)(R:RT):Prop:=
 ∀(b:Nat)(m':Mem),Mem.le m m'→Mem.reads m' b 0 [slice aU aT aV,Value.bool aB]→∀(b:Nat)(ab:Mem),Mem.le m' ab→Mem.reads ab b 0 [int u8 1,int u64 aN,int u64 aO,int u64 aP,int u64
 aQ,int i64 aR,int i64 aS,slice aK aL aM]→∀(b:Nat)(m':Mem),Mem.le ab m'→Mem.reads m' b 0 [int u64 bC,int u64 bD,int u64 bE,int u64 bF,int u64 bG,int u64 bH,int u64 bI,int
 u64 bJ,int u64 bK]→∀(b:Nat),∃(f:Fx),∃(R_1:RT),R_1=f 1 [agg (Array.mk [slice aU aT aV,Value.bool aB])] m'∧CX Try.prog 84 (Array.mk [agg (Array.mk [slice aU aT aV,Value.bool
 aB])]) m' [] R_1∧Zax (Shape.agg [Shape.fn,Shape.fn,Shape.fn,Shape.fn,Shape.fn,Shape.fn,Shape.fn]) R_1∧∀(g:Nat)(fi ca:List Value)(af:Nat)(ac ad:List Value)(ao:Nat)(ap aq:List Value) (ar:
 Nat) (au av:List Value) (aw:Nat) (ax ay:List Value) (az:Nat) (a0 a1:List Value) (a2:Nat) (a3 a4:List Value) (aa:Mem),Mem.le m' aa→R_1 (agg (Array.mk [Value.func (Fn.func g) (Array.mk fi) (Array.mk
 ca),Value.func (Fn.func af) (Array.mk ac) (Array.mk ad),Value.func (Fn.func ao) (Array.mk ap) (Array.mk aq),Value.func (Fn.func ar) (Array.mk au) (Array.mk av),Value.func (Fn.func aw) (Array.mk ax) (Array.mk ay),
 Value.func (Fn.func az) (Array.mk a0) (Array.mk a1),Value.func (Fn.func a2) (Array.mk a3) (Array.mk a4)])) aa []→Zaf (1:Int) 7∧∃(R_2:RT),R_2=f 7 (List.append (List.append ac [agg (Array.mk [int u8 1,
 int u64 aN,int u64 aO,int u64 aP,int u64 aQ,int i64 aR,int i64 aS,slice aK aL aM]),agg (Array.mk [int u64 bC,int u64 bD,int u64 bE,int u64 bF,int u64 bG,int u64 bH,int u64
 bI,int u64 bJ,int u64 bK])]) ad) aa∧CX Try.prog af (Array.mk (List.append (List.append ac [agg (Array.mk [int u8 1,int u64 aN,int u64 aO,int u64 aP,int u64 aQ,int i64 aR,int i64 aS,slice
 aK aL aM]),agg (Array.mk [int u64 bC,int u64 bD,int u64 bE,int u64 bF,int u64 bG,int u64 bH,int u64 bI,int u64 bJ,int u64 bK])]) ad)) aa [] R_2∧Zax (Shape.agg [Shape.int u64,
 Shape.int u64,Shape.int u64,Shape.int u64,Shape.int u64,Shape.int u64,Shape.int u64,Shape.int u64,Shape.int u64]) R_2∧∀(n ag ah ai aj ak al am an:Int)(ae:Mem),Mem.le aa ae→R_2 (agg (Array.mk [int u64
 n,int u64 ag,int u64 ah,int u64 ai,int u64 aj,int u64 ak,int u64 al,int u64 am,int u64 an])) ae []→∀(M:Mem),Mem.le m' M→Mem.le aa M→Mem.le ae M→∃(m'':Mem),Mem.le m m''∧Mem.le m'' M∧R (agg
 (Array.mk [int u64 n,int u64 ag,int u64 ah,int u64 ai,int u64 aj,int u64 ak,int u64 al,int u64 am,int u64 an])) m'' []
theorem Zdk(aU:Option Addr)(aT aV:Nat)(aB:Bool)(aN aO aP aQ aR aS:Int)(aK:Option Addr)(aL aM:Nat)(bC bD bE bF bG bH bI bJ bK:Int)(m:Mem)(R:RT)(h:Zbl aU aT aV aB aN aO aP aQ aR aS aK aL aM bC bD bE bF bG bH bI bJ bK m R):CX Try.prog 53 #[.agg #[.slice aU aT aV,.bool aB],.agg #[.int .u8 1,.int .u64 aN,.int .u64 aO,.int .u64 aP,.int .u64 aQ,.int .i64 aR,.int .i64 aS,.slice aK aL aM],.agg #[.int .u64 bC,.int .u64 bD,.int .u64 bE,.int .u64 bF,.int .u64 bG,.int .u64 bH,.int .u64 bI,.int .u64 bJ,.int .u64 bK]] m [] R:=
 Zad (E:=ZdK) ZaA mix Try.func53 [.v (.agg #[.slice aU aT aV,.bool aB]),.v (.agg #[.int .u8 1,.int .u64 aN,.int .u64 aO,.int .u64 aP,.int .u64 aQ,.int .i64 aR,.int .i64 aS,.slice aK aL aM]),.v (.agg #[.int .u64 bC,.int .u64 bD,.int .u64 bE,.int .u64 bF,.int .u64 bG,.int .u64 bH,.int .u64 bI,.int .u64 bJ,.int .u64 bK])] [] (by kernel_rfl) (Eq.mp (by kernel_rfl) h)
noncomputable def ZdL:Env:={ EB with
 dr:=(fun i=>bif Nat.beq i 1 then[⟨0,[3],[],none,[],[]⟩,⟨1,[],[],none,[0],[]⟩,⟨2,[4],[],none,[],[]⟩,⟨3,[4],[],none,[2],[]⟩,⟨4,[],[],none,[0,1,2,3],[]⟩,⟨5,[4],[],none,[],[]⟩,⟨6,[5],[],none,[],[]⟩,⟨7,[],[],none,[0,1,2,3,4,5,6],[1]⟩,⟨8,[6],[6],none,[0,1,2,3,4,5,6,7],[]⟩]else[])
 frzNew:=[3,4,5] }
def Zbm(aU:Option Addr)(aT aV:Nat)(aB:Bool)(aN aO aP aQ aR aS:Int)(aK:Option Addr)(aL aM:Nat)(bC bD bE bF bG bH bI bJ bK:Int)(m:Mem)(R:RT):Prop:=
 ∀(b:Nat)(m':Mem),Mem.le m m'→Mem.reads m' b 0 [slice aU aT aV,Value.bool aB]→∀(b:Nat)(ab:Mem),Mem.le m' ab→Mem.reads ab b 0 [int u8 2,int u64 aN,int u64 aO,int u64 aP,int u64
 aQ,int i64 aR,int i64 aS,slice aK aL aM]→∀(b:Nat)(m':Mem),Mem.le ab m'→Mem.reads m' b 0 [int u64 bC,int u64 bD,int u64 bE,int u64 bF,int u64 bG,int u64 bH,int u64 bI,int
 u64 bJ,int u64 bK]→∀(b:Nat),∃(f:Fx),∃(R_1:RT),R_1=f 1 [agg (Array.mk [slice aU aT aV,Value.bool aB])] m'∧CX Try.prog 84 (Array.mk [agg (Array.mk [slice aU aT aV,Value.bool
 aB])]) m' [] R_1∧Zax (Shape.agg [Shape.fn,Shape.fn,Shape.fn,Shape.fn,Shape.fn,Shape.fn,Shape.fn]) R_1∧∀(g:Nat)(fi ca:List Value)(ao:Nat)(ap aq:List Value)(af:Nat)(ac ad:List Value) (ar:
 Nat) (au av:List Value) (aw:Nat) (ax ay:List Value) (az:Nat) (a0 a1:List Value) (a2:Nat) (a3 a4:List Value) (aa:Mem),Mem.le m' aa→R_1 (agg (Array.mk [Value.func (Fn.func g) (Array.mk fi) (Array.mk
 ca),Value.func (Fn.func ao) (Array.mk ap) (Array.mk aq),Value.func (Fn.func af) (Array.mk ac) (Array.mk ad),Value.func (Fn.func ar) (Array.mk au) (Array.mk av),Value.func (Fn.func aw) (Array.mk ax) (Array.mk ay),
 Value.func (Fn.func az) (Array.mk a0) (Array.mk a1),Value.func (Fn.func a2) (Array.mk a3) (Array.mk a4)])) aa []→Zaf (2:Int) 7∧∃(R_2:RT),R_2=f 7 (List.append (List.append ac [agg (Array.mk [int u8 2,
 int u64 aN,int u64 aO,int u64 aP,int u64 aQ,int i64 aR,int i64 aS,slice aK aL aM]),agg (Array.mk [int u64 bC,int u64 bD,int u64 bE,int u64 bF,int u64 bG,int u64 bH,int u64
 bI,int u64 bJ,int u64 bK])]) ad) aa∧CX Try.prog af (Array.mk (List.append (List.append ac [agg (Array.mk [int u8 2,int u64 aN,int u64 aO,int u64 aP,int u64 aQ,int i64 aR,int i64 aS,slice
 aK aL aM]),agg (Array.mk [int u64 bC,int u64 bD,int u64 bE,int u64 bF,int u64 bG,int u64 bH,int u64 bI,int u64 bJ,int u64 bK])]) ad)) aa [] R_2∧Zax (Shape.agg [Shape.int u64,
 Shape.int u64,Shape.int u64,Shape.int u64,Shape.int u64,Shape.int u64,Shape.int u64,Shape.int u64,Shape.int u64]) R_2∧∀(n ag ah ai aj ak al am an:Int)(ae:Mem),Mem.le aa ae→R_2 (agg (Array.mk [int u64
 n,int u64 ag,int u64 ah,int u64 ai,int u64 aj,int u64 ak,int u64 al,int u64 am,int u64 an])) ae []→∀(M:Mem),Mem.le m' M→Mem.le aa M→Mem.le ae M→∃(m'':Mem),Mem.le m m''∧Mem.le m'' M∧R (agg
 (Array.mk [int u64 n,int u64 ag,int u64 ah,int u64 ai,int u64 aj,int u64 ak,int u64 al,int u64 am,int u64 an])) m'' []
theorem Zdl(aU:Option Addr)(aT aV:Nat)(aB:Bool)(aN aO aP aQ aR aS:Int)(aK:Option Addr)(aL aM:Nat)(bC bD bE bF bG bH bI bJ bK:Int)(m:Mem)(R:RT)(h:Zbm aU aT aV aB aN aO aP aQ aR aS aK aL aM bC bD bE bF bG bH bI bJ bK m R):CX Try.prog 53 #[.agg #[.slice aU aT aV,.bool aB],.agg #[.int .u8 2,.int .u64 aN,.int .u64 aO,.int .u64 aP,.int .u64 aQ,.int .i64 aR,.int .i64 aS,.slice aK aL aM],.agg #[.int .u64 bC,.int .u64 bD,.int .u64 bE,.int .u64 bF,.int .u64 bG,.int .u64 bH,.int .u64 bI,.int .u64 bJ,.int .u64 bK]] m [] R:=
 Zad (E:=ZdL) ZaA mix Try.func53 [.v (.agg #[.slice aU aT aV,.bool aB]),.v (.agg #[.int .u8 2,.int .u64 aN,.int .u64 aO,.int .u64 aP,.int .u64 aQ,.int .i64 aR,.int .i64 aS,.slice aK aL aM]),.v (.agg #[.int .u64 bC,.int .u64 bD,.int .u64 bE,.int .u64 bF,.int .u64 bG,.int .u64 bH,.int .u64 bI,.int .u64 bJ,.int .u64 bK])] [] (by kernel_rfl) (Eq.mp (by kernel_rfl) h)
noncomputable def ZdM:Env:={ EB with
 dr:=(fun i=>bif Nat.beq i 1 then[⟨0,[3],[],none,[],[]⟩,⟨1,[],[],none,[0],[]⟩,⟨2,[4],[],none,[],[]⟩,⟨3,[4],[],none,[2],[]⟩,⟨4,[],[],none,[0,1,2,3],[]⟩,⟨5,[4],[],none,[],[]⟩,⟨6,[5],[],none,[],[]⟩,⟨7,[],[],none,[0,1,2,3,4,5,6],[1]⟩,⟨8,[6],[6],none,[0,1,2,3,4,5,6,7],[]⟩]else[])
 frzNew:=[3,4,5] }
def Zbn(aU:Option Addr)(aT aV:Nat)(aB:Bool)(aN aO aP aQ aR aS:Int)(aK:Option Addr)(aL aM:Nat)(bC bD bE bF bG bH bI bJ bK:Int)(m:Mem)(R:RT):Prop:=
 ∀(b:Nat)(m':Mem),Mem.le m m'→Mem.reads m' b 0 [slice aU aT aV,Value.bool aB]→∀(b:Nat)(ab:Mem),Mem.le m' ab→Mem.reads ab b 0 [int u8 3,int u64 aN,int u64 aO,int u64 aP,int u64
 aQ,int i64 aR,int i64 aS,slice aK aL aM]→∀(b:Nat)(m':Mem),Mem.le ab m'→Mem.reads m' b 0 [int u64 bC,int u64 bD,int u64 bE,int u64 bF,int u64 bG,int u64 bH,int u64 bI,int
 u64 bJ,int u64 bK]→∀(b:Nat),∃(f:Fx),∃(R_1:RT),R_1=f 1 [agg (Array.mk [slice aU aT aV,Value.bool aB])] m'∧CX Try.prog 84 (Array.mk [agg (Array.mk [slice aU aT aV,Value.bool
 aB])]) m' [] R_1∧Zax (Shape.agg [Shape.fn,Shape.fn,Shape.fn,Shape.fn,Shape.fn,Shape.fn,Shape.fn]) R_1∧∀(g:Nat)(fi ca:List Value)(ao:Nat)(ap aq:List Value)(ar:Nat)(au av:List Value) (af:
 Nat) (ac ad:List Value) (aw:Nat) (ax ay:List Value) (az:Nat) (a0 a1:List Value) (a2:Nat) (a3 a4:List Value) (aa:Mem),Mem.le m' aa→R_1 (agg (Array.mk [Value.func (Fn.func g) (Array.mk fi) (Array.mk
 ca),Value.func (Fn.func ao) (Array.mk ap) (Array.mk aq),Value.func (Fn.func ar) (Array.mk au) (Array.mk av),Value.func (Fn.func af) (Array.mk ac) (Array.mk ad),Value.func (Fn.func aw) (Array.mk ax) (Array.mk ay),
 Value.func (Fn.func az) (Array.mk a0) (Array.mk a1),Value.func (Fn.func a2) (Array.mk a3) (Array.mk a4)])) aa []→Zaf (3:Int) 7∧∃(R_2:RT),R_2=f 7 (List.append (List.append ac [agg (Array.mk [int u8 3,
 int u64 aN,int u64 aO,int u64 aP,int u64 aQ,int i64 aR,int i64 aS,slice aK aL aM]),agg (Array.mk [int u64 bC,int u64 bD,int u64 bE,int u64 bF,int u64 bG,int u64 bH,int u64
 bI,int u64 bJ,int u64 bK])]) ad) aa∧CX Try.prog af (Array.mk (List.append (List.append ac [agg (Array.mk [int u8 3,int u64 aN,int u64 aO,int u64 aP,int u64 aQ,int i64 aR,int i64 aS,slice
 aK aL aM]),agg (Array.mk [int u64 bC,int u64 bD,int u64 bE,int u64 bF,int u64 bG,int u64 bH,int u64 bI,int u64 bJ,int u64 bK])]) ad)) aa [] R_2∧Zax (Shape.agg [Shape.int u64,
 Shape.int u64,Shape.int u64,Shape.int u64,Shape.int u64,Shape.int u64,Shape.int u64,Shape.int u64,Shape.int u64]) R_2∧∀(n ag ah ai aj ak al am an:Int)(ae:Mem),Mem.le aa ae→R_2 (agg (Array.mk [int u64
 n,int u64 ag,int u64 ah,int u64 ai,int u64 aj,int u64 ak,int u64 al,int u64 am,int u64 an])) ae []→∀(M:Mem),Mem.le m' M→Mem.le aa M→Mem.le ae M→∃(m'':Mem),Mem.le m m''∧Mem.le m'' M∧R (agg
 (Array.mk [int u64 n,int u64 ag,int u64 ah,int u64 ai,int u64 aj,int u64 ak,int u64 al,int u64 am,int u64 an])) m'' []
theorem Zdm(aU:Option Addr)(aT aV:Nat)(aB:Bool)(aN aO aP aQ aR aS:Int)(aK:Option Addr)(aL aM:Nat)(bC bD bE bF bG bH bI bJ bK:Int)(m:Mem)(R:RT)(h:Zbn aU aT aV aB aN aO aP aQ aR aS aK aL aM bC bD bE bF bG bH bI bJ bK m R):CX Try.prog 53 #[.agg #[.slice aU aT aV,.bool aB],.agg #[.int .u8 3,.int .u64 aN,.int .u64 aO,.int .u64 aP,.int .u64 aQ,.int .i64 aR,.int .i64 aS,.slice aK aL aM],.agg #[.int .u64 bC,.int .u64 bD,.int .u64 bE,.int .u64 bF,.int .u64 bG,.int .u64 bH,.int .u64 bI,.int .u64 bJ,.int .u64 bK]] m [] R:=
 Zad (E:=ZdM) ZaA mix Try.func53 [.v (.agg #[.slice aU aT aV,.bool aB]),.v (.agg #[.int .u8 3,.int .u64 aN,.int .u64 aO,.int .u64 aP,.int .u64 aQ,.int .i64 aR,.int .i64 aS,.slice aK aL aM]),.v (.agg #[.int .u64 bC,.int .u64 bD,.int .u64 bE,.int .u64 bF,.int .u64 bG,.int .u64 bH,.int .u64 bI,.int .u64 bJ,.int .u64 bK])] [] (by kernel_rfl) (Eq.mp (by kernel_rfl) h)
noncomputable def ZdN:Env:={ EB with
 dr:=(fun i=>bif Nat.beq i 1 then[⟨0,[3],[],none,[],[]⟩,⟨1,[],[],none,[0],[]⟩,⟨2,[4],[],none,[],[]⟩,⟨3,[4],[],none,[2],[]⟩,⟨4,[],[],none,[0,1,2,3],[]⟩,⟨5,[4],[],none,[],[]⟩,⟨6,[5],[],none,[],[]⟩,⟨7,[],[],none,[0,1,2,3,4,5,6],[1]⟩,⟨8,[6],[6],none,[0,1,2,3,4,5,6,7],[]⟩]else[])
 frzNew:=[3,4,5] }
def Zbo(aU:Option Addr)(aT aV:Nat)(aB:Bool)(aN aO aP aQ aR aS:Int)(aK:Option Addr)(aL aM:Nat)(bC bD bE bF bG bH bI bJ bK:Int)(m:Mem)(R:RT):Prop:=
 ∀(b:Nat)(m':Mem),Mem.le m m'→Mem.reads m' b 0 [slice aU aT aV,Value.bool aB]→∀(b:Nat)(ab:Mem),Mem.le m' ab→Mem.reads ab b 0 [int u8 4,int u64 aN,int u64 aO,int u64 aP,int u64
 aQ,int i64 aR,int i64 aS,slice aK aL aM]→∀(b:Nat)(m':Mem),Mem.le ab m'→Mem.reads m' b 0 [int u64 bC,int u64 bD,int u64 bE,int u64 bF,int u64 bG,int u64 bH,int u64 bI,int
 u64 bJ,int u64 bK]→∀(b:Nat),∃(f:Fx),∃(R_1:RT),R_1=f 1 [agg (Array.mk [slice aU aT aV,Value.bool aB])] m'∧CX Try.prog 84 (Array.mk [agg (Array.mk [slice aU aT aV,Value.bool
 aB])]) m' [] R_1∧Zax (Shape.agg [Shape.fn,Shape.fn,Shape.fn,Shape.fn,Shape.fn,Shape.fn,Shape.fn]) R_1∧∀(g:Nat)(fi ca:List Value)(ao:Nat)(ap aq:List Value)(ar:Nat)(au av:List Value) (aw:
 Nat) (ax ay:List Value) (af:Nat) (ac ad:List Value) (az:Nat) (a0 a1:List Value) (a2:Nat) (a3 a4:List Value) (aa:Mem),Mem.le m' aa→R_1 (agg (Array.mk [Value.func (Fn.func g) (Array.mk fi) (Array.mk
 ca),Value.func (Fn.func ao) (Array.mk ap) (Array.mk aq),Value.func (Fn.func ar) (Array.mk au) (Array.mk av),Value.func (Fn.func aw) (Array.mk ax) (Array.mk ay),Value.func (Fn.func af) (Array.mk ac) (Array.mk ad),
 Value.func (Fn.func az) (Array.mk a0) (Array.mk a1),Value.func (Fn.func a2) (Array.mk a3) (Array.mk a4)])) aa []→Zaf (4:Int) 7∧∃(R_2:RT),R_2=f 7 (List.append (List.append ac [agg (Array.mk [int u8 4,
 int u64 aN,int u64 aO,int u64 aP,int u64 aQ,int i64 aR,int i64 aS,slice aK aL aM]),agg (Array.mk [int u64 bC,int u64 bD,int u64 bE,int u64 bF,int u64 bG,int u64 bH,int u64
 bI,int u64 bJ,int u64 bK])]) ad) aa∧CX Try.prog af (Array.mk (List.append (List.append ac [agg (Array.mk [int u8 4,int u64 aN,int u64 aO,int u64 aP,int u64 aQ,int i64 aR,int i64 aS,slice
 aK aL aM]),agg (Array.mk [int u64 bC,int u64 bD,int u64 bE,int u64 bF,int u64 bG,int u64 bH,int u64 bI,int u64 bJ,int u64 bK])]) ad)) aa [] R_2∧Zax (Shape.agg [Shape.int u64,
 Shape.int u64,Shape.int u64,Shape.int u64,Shape.int u64,Shape.int u64,Shape.int u64,Shape.int u64,Shape.int u64]) R_2∧∀(n ag ah ai aj ak al am an:Int)(ae:Mem),Mem.le aa ae→R_2 (agg (Array.mk [int u64
 n,int u64 ag,int u64 ah,int u64 ai,int u64 aj,int u64 ak,int u64 al,int u64 am,int u64 an])) ae []→∀(M:Mem),Mem.le m' M→Mem.le aa M→Mem.le ae M→∃(m'':Mem),Mem.le m m''∧Mem.le m'' M∧R (agg
 (Array.mk [int u64 n,int u64 ag,int u64 ah,int u64 ai,int u64 aj,int u64 ak,int u64 al,int u64 am,int u64 an])) m'' []
theorem Zdn(aU:Option Addr)(aT aV:Nat)(aB:Bool)(aN aO aP aQ aR aS:Int)(aK:Option Addr)(aL aM:Nat)(bC bD bE bF bG bH bI bJ bK:Int)(m:Mem)(R:RT)(h:Zbo aU aT aV aB aN aO aP aQ aR aS aK aL aM bC bD bE bF bG bH bI bJ bK m R):CX Try.prog 53 #[.agg #[.slice aU aT aV,.bool aB],.agg #[.int .u8 4,.int .u64 aN,.int .u64 aO,.int .u64 aP,.int .u64 aQ,.int .i64 aR,.int .i64 aS,.slice aK aL aM],.agg #[.int .u64 bC,.int .u64 bD,.int .u64 bE,.int .u64 bF,.int .u64 bG,.int .u64 bH,.int .u64 bI,.int .u64 bJ,.int .u64 bK]] m [] R:=
 Zad (E:=ZdN) ZaA mix Try.func53 [.v (.agg #[.slice aU aT aV,.bool aB]),.v (.agg #[.int .u8 4,.int .u64 aN,.int .u64 aO,.int .u64 aP,.int .u64 aQ,.int .i64 aR,.int .i64 aS,.slice aK aL aM]),.v (.agg #[.int .u64 bC,.int .u64 bD,.int .u64 bE,.int .u64 bF,.int .u64 bG,.int .u64 bH,.int .u64 bI,.int .u64 bJ,.int .u64 bK])] [] (by kernel_rfl) (Eq.mp (by kernel_rfl) h)
noncomputable def ZdO:Env:={ EB with
 dr:=(fun i=>bif Nat.beq i 1 then[⟨0,[3],[],none,[],[]⟩,⟨1,[],[],none,[0],[]⟩,⟨2,[4],[],none,[],[]⟩,⟨3,[4],[],none,[2],[]⟩,⟨4,[],[],none,[0,1,2,3],[]⟩,⟨5,[4],[],none,[],[]⟩,⟨6,[5],[],none,[],[]⟩,⟨7,[],[],none,[0,1,2,3,4,5,6],[1]⟩,⟨8,[6],[6],none,[0,1,2,3,4,5,6,7],[]⟩]else[])
 frzNew:=[3,4,5] }
def Zbp(aU:Option Addr)(aT aV:Nat)(aB:Bool)(aN aO aP aQ aR aS:Int)(aK:Option Addr)(aL aM:Nat)(bC bD bE bF bG bH bI bJ bK:Int)(m:Mem)(R:RT):Prop:=
 ∀(b:Nat)(m':Mem),Mem.le m m'→Mem.reads m' b 0 [slice aU aT aV,Value.bool aB]→∀(b:Nat)(ab:Mem),Mem.le m' ab→Mem.reads ab b 0 [int u8 5,int u64 aN,int u64 aO,int u64 aP,int u64
 aQ,int i64 aR,int i64 aS,slice aK aL aM]→∀(b:Nat)(m':Mem),Mem.le ab m'→Mem.reads m' b 0 [int u64 bC,int u64 bD,int u64 bE,int u64 bF,int u64 bG,int u64 bH,int u64 bI,int
 u64 bJ,int u64 bK]→∀(b:Nat),∃(f:Fx),∃(R_1:RT),R_1=f 1 [agg (Array.mk [slice aU aT aV,Value.bool aB])] m'∧CX Try.prog 84 (Array.mk [agg (Array.mk [slice aU aT aV,Value.bool
 aB])]) m' [] R_1∧Zax (Shape.agg [Shape.fn,Shape.fn,Shape.fn,Shape.fn,Shape.fn,Shape.fn,Shape.fn]) R_1∧∀(g:Nat)(fi ca:List Value)(ao:Nat)(ap aq:List Value)(ar:Nat)(au av:List Value) (aw:
 Nat) (ax ay:List Value) (az:Nat) (a0 a1:List Value) (af:Nat) (ac ad:List Value) (a2:Nat) (a3 a4:List Value) (aa:Mem),Mem.le m' aa→R_1 (agg (Array.mk [Value.func (Fn.func g) (Array.mk fi) (Array.mk
 ca),Value.func (Fn.func ao) (Array.mk ap) (Array.mk aq),Value.func (Fn.func ar) (Array.mk au) (Array.mk av),Value.func (Fn.func aw) (Array.mk ax) (Array.mk ay),Value.func (Fn.func az) (Array.mk a0) (Array.mk a1),
 Value.func (Fn.func af) (Array.mk ac) (Array.mk ad),Value.func (Fn.func a2) (Array.mk a3) (Array.mk a4)])) aa []→Zaf (5:Int) 7∧∃(R_2:RT),R_2=f 7 (List.append (List.append ac [agg (Array.mk [int u8 5,
 int u64 aN,int u64 aO,int u64 aP,int u64 aQ,int i64 aR,int i64 aS,slice aK aL aM]),agg (Array.mk [int u64 bC,int u64 bD,int u64 bE,int u64 bF,int u64 bG,int u64 bH,int u64
 bI,int u64 bJ,int u64 bK])]) ad) aa∧CX Try.prog af (Array.mk (List.append (List.append ac [agg (Array.mk [int u8 5,int u64 aN,int u64 aO,int u64 aP,int u64 aQ,int i64 aR,int i64 aS,slice
 aK aL aM]),agg (Array.mk [int u64 bC,int u64 bD,int u64 bE,int u64 bF,int u64 bG,int u64 bH,int u64 bI,int u64 bJ,int u64 bK])]) ad)) aa [] R_2∧Zax (Shape.agg [Shape.int u64,
 Shape.int u64,Shape.int u64,Shape.int u64,Shape.int u64,Shape.int u64,Shape.int u64,Shape.int u64,Shape.int u64]) R_2∧∀(n ag ah ai aj ak al am an:Int)(ae:Mem),Mem.le aa ae→R_2 (agg (Array.mk [int u64
 n,int u64 ag,int u64 ah,int u64 ai,int u64 aj,int u64 ak,int u64 al,int u64 am,int u64 an])) ae []→∀(M:Mem),Mem.le m' M→Mem.le aa M→Mem.le ae M→∃(m'':Mem),Mem.le m m''∧Mem.le m'' M∧R (agg
 (Array.mk [int u64 n,int u64 ag,int u64 ah,int u64 ai,int u64 aj,int u64 ak,int u64 al,int u64 am,int u64 an])) m'' []
theorem Zdo(aU:Option Addr)(aT aV:Nat)(aB:Bool)(aN aO aP aQ aR aS:Int)(aK:Option Addr)(aL aM:Nat)(bC bD bE bF bG bH bI bJ bK:Int)(m:Mem)(R:RT)(h:Zbp aU aT aV aB aN aO aP aQ aR aS aK aL aM bC bD bE bF bG bH bI bJ bK m R):CX Try.prog 53 #[.agg #[.slice aU aT aV,.bool aB],.agg #[.int .u8 5,.int .u64 aN,.int .u64 aO,.int .u64 aP,.int .u64 aQ,.int .i64 aR,.int .i64 aS,.slice aK aL aM],.agg #[.int .u64 bC,.int .u64 bD,.int .u64 bE,.int .u64 bF,.int .u64 bG,.int .u64 bH,.int .u64 bI,.int .u64 bJ,.int .u64 bK]] m [] R:=
 Zad (E:=ZdO) ZaA mix Try.func53 [.v (.agg #[.slice aU aT aV,.bool aB]),.v (.agg #[.int .u8 5,.int .u64 aN,.int .u64 aO,.int .u64 aP,.int .u64 aQ,.int .i64 aR,.int .i64 aS,.slice aK aL aM]),.v (.agg #[.int .u64 bC,.int .u64 bD,.int .u64 bE,.int .u64 bF,.int .u64 bG,.int .u64 bH,.int .u64 bI,.int .u64 bJ,.int .u64 bK])] [] (by kernel_rfl) (Eq.mp (by kernel_rfl) h)
noncomputable def ZdP:Env:={ EB with
 dr:=(fun i=>bif Nat.beq i 1 then[⟨0,[3],[],none,[],[]⟩,⟨1,[],[],none,[0],[]⟩,⟨2,[4],[],none,[],[]⟩,⟨3,[4],[],none,[2],[]⟩,⟨4,[],[],none,[0,1,2,3],[]⟩,⟨5,[4],[],none,[],[]⟩,⟨6,[5],[],none,[],[]⟩,⟨7,[],[],none,[0,1,2,3,4,5,6],[1]⟩,⟨8,[6],[6],none,[0,1,2,3,4,5,6,7],[]⟩]else[])
 frzNew:=[3,4,5] }
def Zbq(aU:Option Addr)(aT aV:Nat)(aB:Bool)(aN aO aP aQ aR aS:Int)(aK:Option Addr)(aL aM:Nat)(bC bD bE bF bG bH bI bJ bK:Int)(m:Mem)(R:RT):Prop:=
 ∀(b:Nat)(m':Mem),Mem.le m m'→Mem.reads m' b 0 [slice aU aT aV,Value.bool aB]→∀(b:Nat)(ab:Mem),Mem.le m' ab→Mem.reads ab b 0 [int u8 6,int u64 aN,int u64 aO,int u64 aP,int u64
 aQ,int i64 aR,int i64 aS,slice aK aL aM]→∀(b:Nat)(m':Mem),Mem.le ab m'→Mem.reads m' b 0 [int u64 bC,int u64 bD,int u64 bE,int u64 bF,int u64 bG,int u64 bH,int u64 bI,int
 u64 bJ,int u64 bK]→∀(b:Nat),∃(f:Fx),∃(R_1:RT),R_1=f 1 [agg (Array.mk [slice aU aT aV,Value.bool aB])] m'∧CX Try.prog 84 (Array.mk [agg (Array.mk [slice aU aT aV,Value.bool
 aB])]) m' [] R_1∧Zax (Shape.agg [Shape.fn,Shape.fn,Shape.fn,Shape.fn,Shape.fn,Shape.fn,Shape.fn]) R_1∧∀(g:Nat)(fi ca:List Value)(ao:Nat)(ap aq:List Value)(ar:Nat)(au av:List Value) (aw:
 Nat) (ax ay:List Value) (az:Nat) (a0 a1:List Value) (a2:Nat) (a3 a4:List Value) (af:Nat) (ac ad:List Value) (aa:Mem),Mem.le m' aa→R_1 (agg (Array.mk [Value.func (Fn.func g) (Array.mk fi) (Array.mk
 ca),Value.func (Fn.func ao) (Array.mk ap) (Array.mk aq),Value.func (Fn.func ar) (Array.mk au) (Array.mk av),Value.func (Fn.func aw) (Array.mk ax) (Array.mk ay),Value.func (Fn.func az) (Array.mk a0) (Array.mk a1),
 Value.func (Fn.func a2) (Array.mk a3) (Array.mk a4),Value.func (Fn.func af) (Array.mk ac) (Array.mk ad)])) aa []→Zaf (6:Int) 7∧∃(R_2:RT),R_2=f 7 (List.append (List.append ac [agg (Array.mk [int u8 6,
 int u64 aN,int u64 aO,int u64 aP,int u64 aQ,int i64 aR,int i64 aS,slice aK aL aM]),agg (Array.mk [int u64 bC,int u64 bD,int u64 bE,int u64 bF,int u64 bG,int u64 bH,int u64
 bI,int u64 bJ,int u64 bK])]) ad) aa∧CX Try.prog af (Array.mk (List.append (List.append ac [agg (Array.mk [int u8 6,int u64 aN,int u64 aO,int u64 aP,int u64 aQ,int i64 aR,int i64 aS,slice
 aK aL aM]),agg (Array.mk [int u64 bC,int u64 bD,int u64 bE,int u64 bF,int u64 bG,int u64 bH,int u64 bI,int u64 bJ,int u64 bK])]) ad)) aa [] R_2∧Zax (Shape.agg [Shape.int u64,
 Shape.int u64,Shape.int u64,Shape.int u64,Shape.int u64,Shape.int u64,Shape.int u64,Shape.int u64,Shape.int u64]) R_2∧∀(n ag ah ai aj ak al am an:Int)(ae:Mem),Mem.le aa ae→R_2 (agg (Array.mk [int u64
 n,int u64 ag,int u64 ah,int u64 ai,int u64 aj,int u64 ak,int u64 al,int u64 am,int u64 an])) ae []→∀(M:Mem),Mem.le m' M→Mem.le aa M→Mem.le ae M→∃(m'':Mem),Mem.le m m''∧Mem.le m'' M∧R (agg
 (Array.mk [int u64 n,int u64 ag,int u64 ah,int u64 ai,int u64 aj,int u64 ak,int u64 al,int u64 am,int u64 an])) m'' []
theorem Zdp(aU:Option Addr)(aT aV:Nat)(aB:Bool)(aN aO aP aQ aR aS:Int)(aK:Option Addr)(aL aM:Nat)(bC bD bE bF bG bH bI bJ bK:Int)(m:Mem)(R:RT)(h:Zbq aU aT aV aB aN aO aP aQ aR aS aK aL aM bC bD bE bF bG bH bI bJ bK m R):CX Try.prog 53 #[.agg #[.slice aU aT aV,.bool aB],.agg #[.int .u8 6,.int .u64 aN,.int .u64 aO,.int .u64 aP,.int .u64 aQ,.int .i64 aR,.int .i64 aS,.slice aK aL aM],.agg #[.int .u64 bC,.int .u64 bD,.int .u64 bE,.int .u64 bF,.int .u64 bG,.int .u64 bH,.int .u64 bI,.int .u64 bJ,.int .u64 bK]] m [] R:=
 Zad (E:=ZdP) ZaA mix Try.func53 [.v (.agg #[.slice aU aT aV,.bool aB]),.v (.agg #[.int .u8 6,.int .u64 aN,.int .u64 aO,.int .u64 aP,.int .u64 aQ,.int .i64 aR,.int .i64 aS,.slice aK aL aM]),.v (.agg #[.int .u64 bC,.int .u64 bD,.int .u64 bE,.int .u64 bF,.int .u64 bG,.int .u64 bH,.int .u64 bI,.int .u64 bJ,.int .u64 bK])] [] (by kernel_rfl) (Eq.mp (by kernel_rfl) h)
end Go.Proofs.Ythiefodednaikaa
