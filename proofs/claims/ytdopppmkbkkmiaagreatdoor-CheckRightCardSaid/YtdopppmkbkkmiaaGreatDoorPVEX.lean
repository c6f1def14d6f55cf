/- Part of the proof: functions of the program. No condition. -/
import Derived.Test.YtdopppmkbkkmiaaGreatDoorPC13Q
import Derived.Test.YtdopppmkbkkmiaaGreatDoorMr
import Derived.Laws.Externs
import Derived.Shelf.Sort.Plain
import Derived.Shelf.Slices.In.SortNone
import Derived.Shelf.SlicesE.Compact
import Derived.Test.YtdopppmkbkkmiaaGreatDoorPEnv
import Derived.Test.YtdopppmkbkkmiaaGreatDoorMc
set_option linter.unusedVariables false
set_option linter.unusedSimpArgs false
set_option linter.unusedSectionVars false
noncomputable section
namespace Go.Proofs.YtdopppmkbkkmiaaGreatDoor
open Go Go.Eng Go.Rx Go.Proofs Go.RowKit
set_option maxRecDepth 100000
theorem ZxJ(t:T)(m:Mem)(hr:Rep m t):CX Tryz.prog 188 #[t.v] m [] (Ret (.bool t.right)):=by
 apply ZpX
 intro b m1 aB _
 have eX:=hr.mono aB
 refine⟨t.k != 2&&!t.setZ||(t.k != 5&&(t.mn != 0||t.mx != 0)||(decide (t.k < 3)&&decide (0 < t.subs.length))),?_,Zab (λh=>Zac aB ?_) (λh=>?_)⟩
 ·refine Zab (λh1=>?_) (λh1=>?_)
  ·refine⟨t.setZ,ZxI _ _ _ _ _ _ _ _,?_⟩
   simp only[Zur]
   (repeat' split) <;> simp_all <;> omega
  ·simp only[Zur]
   (repeat' split) <;> simp_all <;> omega
 ·simp[Ret,T.right,h]
 ·refine Zab (λh1=>Zac aB ?_) (λh1=>Zab (λh2=>⟨t.setZ,ZxI _ _ _ _ _ _ _ _,Zac aB ?_⟩) (λh2=>Zab (λh3=>?_) (λh3=>Zab (λh4=>?_) (λh4=>Zab (λh5=>?_) (λh5=>?_)))))
  ·have:t.k=1:=by simpa using h1
   show Value.bool _=Value.bool t.right;rw[T.right,h];simp[this]
  ·have:t.k=2:=by simpa using h2
   show Value.bool _=Value.bool t.right;rw[T.right,h];simp[this]
  ·have:t.k=3:=by simpa using h3
   refine⟨decide (1 < t.subs.length)&&(!t.has 1&&!t.has 3),Zab (λh4=>?_) (λh4=>?_),Zac aB ?_⟩
   ·refine Zah (Zu0 t 1 m1 eX) λm2 aO=>Zab (λh5=>?_) (λh5=>?_)
    ·refine Zah (Zu0 t 3 m2 (eX.mono aO)) λm3 aQ=>⟨rfl,Zag ?_⟩
     simp_all <;> (intros;omega)
    ·refine⟨rfl,Zag ?_⟩
     simp_all <;> (intros;omega)
   ·refine⟨rfl,Zag ?_⟩
    simp_all <;> (intros;omega)
   ·show Value.bool _=Value.bool t.right;rw[T.right,h];simp[this]
  ·have:t.k=4:=by simpa using h4
   refine⟨decide (1 < t.subs.length)&&!t.has 4,Zab (λh4=>?_) (λh4=>?_),Zac aB ?_⟩
   ·refine Zah (Zu0 t 4 m1 eX) λm2 aO=>⟨rfl,Zag ?_⟩
    simp_all <;> (intros;omega)
   ·refine⟨rfl,Zag ?_⟩
    simp_all <;> (intros;omega)
   ·show Value.bool _=Value.bool t.right;rw[T.right,h];simp[this]
  ·have:t.k=5:=by simpa using h5
   refine⟨t.subs.length == 1&&(Zks t.mn t.mx&&!t.has 1),Zab (λh4=>?_) (λh4=>?_),Zac aB ?_⟩
   ·refine Zah (ZuZ t.mn t.mx m1) λm2 aO=>Zab (λh5=>?_) (λh5=>?_)
    ·refine Zah (Zu0 t 1 m2 (eX.mono aO)) λm3 aQ=>⟨rfl,Zag ?_⟩
     have h4':((t.subs.length:Int) == 1)=true:=h4
     have:t.subs.length=1:=by have:=zA6 h4';omega
     simp_all <;> (intros;omega)
    ·refine⟨rfl,Zag ?_⟩
     simp_all <;> (intros;omega)
   ·refine⟨rfl,Zag ?_⟩
    have h4':((t.subs.length:Int) == 1)=false:=h4
    have:¬t.subs.length=1:=by have:=of_decide_eq_false h4';omega
    simp_all <;> (intros;omega)
   ·show Value.bool _=Value.bool t.right;rw[T.right,h];simp[this]
  ·refine⟨t.k == 6&&t.subs.length == 1,Zab (λh4=>⟨rfl,Zag ?_⟩) (λh4=>⟨rfl,Zag ?_⟩),Zac aB ?_⟩
   ·have:(t.k == 6)=true:=h4
    rw[this,Bool.true_and]
    show(decide ((t.subs.length:Int)=1))=decide (t.subs.length=1)
    rw[decide_eq_decide];omega
   ·have:(t.k == 6)=false:=h4
    simp[this]
   ·show Value.bool _=Value.bool t.right;rw[T.right,h]
    have e1:¬t.k=1:=by simpa using h1
    have e2:¬t.k=2:=by simpa using h2
    have e3:¬t.k=3:=by simpa using h3
    have e4:¬t.k=4:=by simpa using h4
    have e5:¬t.k=5:=by simpa using h5
    simp[e1,e2,e3,e4,e5]
theorem ZxK(t:T)(m:Mem)(hr:Rep m t):CX Tryz.prog 165 #[t.v] m [] (Ret (.bool t.clean)):=by
 apply ZpY
 intro b m1 aB _ b2
 refine Zah (Zd5 t m1 (hr.mono aB)) λm2 aO=>Zab (λh=>Zac (mLt aB aO) ?_) (λh=>?_)
 ·have:t.light=false:=by simpa using h
  simp[Ret,T.clean,this]
 have hl:t.light=true:=by simpa using h
 refine Zaj (Ziz t m2) (λv m' css h=>by obtain⟨_,rfl,_⟩:=h;rfl) ?_
 rintro g fi ca m3 aQ ⟨b3,hv,eI⟩
 obtain⟨rfl,rfl,rfl⟩:=ZcB hv
 have bG:=mLt aB (mLt aO aQ)
 refine⟨_,ZfE t m3 b3 eI (hr.mono bG),λy hy=>?_,λ_ css _ m' q=>m3.le m'/\∀x∈t.nodes.take q,x.right=true,⟨Mem.le_refl _,by simp⟩,?_,?_⟩
 ·obtain⟨z,_,rfl⟩:=List.mem_map.1 hy;exact Zrw z
 ·rintro n0 n1 n2 n3 n4 n5 n6 a n7 c cs m4 q bN hq ⟨_,ia⟩ b4
  have hq':(List.map (λz:T=>[z.v]) t.nodes)[(q:Nat)]?=some [Value.agg #[.int .u8 n0,.int .u64 n1,.int .u64 n2,.int .u64 n3,.int .u64 n4,.int .i64 n5,.int .i64 n6,.slice a n7 c]]:=hq
  rw[List.getElem?_map]at hq'
  obtain⟨z,hz,jc⟩:=Option.map_eq_some_iff.1 hq'
  have ly:z.v=Value.agg #[.int .u8 n0,.int .u64 n1,.int .u64 n2,.int .u64 n3,.int .u64 n4,.int .i64 n5,.int .i64 n6,.slice a n7 c]:=by simpa using jc
  have ue:Rep m4 z:=(Zut (hr.mono bG) (zA2 hz)).mono bN
  have gL:=ZxJ z m4 ue
  rw[ly]at gL
  refine Zah gL λm5 cE=>Zab (λh=>⟨rfl,Zac (mLt bG (mLt bN cE)) ?_⟩) (λh=>⟨rfl,mLt bN cE,λx hx=>?_⟩)
  ·have qm:z.right=false:=by simpa using h
   have:t.nodes.all T.right=false:=by
    rw[List.all_eq_false];exact⟨z,zA2 hz,by simp[qm]⟩
   simp[Ret,T.clean,this]
  ·rw[List.take_add_one,hz]at hx
   rcases List.mem_append.1 hx with hx|hx
   ·exact ia x hx
   ·simp at hx;rw[hx];simpa using h
 ·rintro cs m4 bN ⟨_,ia⟩
  refine Zac (mLt bG bN) ?_
  rw[List.length_map,List.take_length]at ia
  have:t.nodes.all T.right=true:=List.all_eq_true.2 ia
  simp[Ret,T.clean,this,hl]
theorem Ztj(t:T)(m:Mem)(hr:Rep m t):CX Tryz.prog 62 #[t.v] m [] (Ret (.int .i64 t.size)):=by
 apply ZrO
 intro b m1 aB _
 refine Zah (Zd5 t m1 (hr.mono aB)) λm2 aO=>Zab (λh=>Zac (mLt aB aO) ?_) (λh=>?_)
 ·have:t.light=false:=by simpa using h
  simp[Ret,T.size,this]
 have hl:t.light=true:=by simpa using h
 have sr:t.nodes.length<=10000:=zA6 hl
 intro b2
 refine Zaj (Ziz t m2) (λv m' css h=>by obtain⟨_,rfl,_⟩:=h;rfl) ?_
 rintro g fi ca m3 aQ ⟨b3,hv,eI⟩
 obtain⟨rfl,rfl,rfl⟩:=ZcB hv
 have bG:=mLt aB (mLt aO aQ)
 refine⟨_,ZfE t m3 b3 eI (hr.mono bG),λy hy=>?_,λ_ css _ m' q=>css=[[.int .i64 q]]/\q<=t.nodes.length,⟨rfl,by omega⟩,?_,?_⟩
 ·obtain⟨z,_,rfl⟩:=List.mem_map.1 hy;exact Zrw z
 ·rintro n0 n1 n2 n3 n4 n5 n6 a n7 c cs m4 q bN hq ⟨cF,_⟩
  obtain rfl:cs=[.int .i64 q]:=by simpa using cF
  have aH:q < t.nodes.length:=by
   have:=(zA0 (show(List.map (λz:T=>[z.v]) t.nodes)[(q:Nat)]?=some _ from hq)).1
   simpa using this
  have hw:IntKind.i64.wrap (RowKit.intOf (Value.int .i64 (q:Int))+1)=(q:Int)+1:=Zam (n:=(q:Int)+1) (by omega) (by omega)
  refine Zap rfl (Zaa rfl ?_)
  simp only[hw]
  exact⟨by trivial,by simp,by omega⟩
 ·rintro cs m4 bN ⟨cF,ia⟩
  obtain rfl:cs=[.int .i64 t.nodes.length]:=by simpa using cF
  refine Zap rfl (Zac (mLt bG bN) ?_)
  simp[Ret,T.size,hl]
theorem Zp1(t:T)(m:Mem)(hr:Rep m t):CX Tryz.prog 9 #[t.v] m [] (Ret (.int .i64 t.groups)):=by
 apply Znk
 intro b m1 aB _
 refine Zah (Zd5 t m1 (hr.mono aB)) λm2 aO=>Zab (λh=>Zac (mLt aB aO) ?_) (λh=>?_)
 ·have:t.light=false:=by simpa using h
  simp[Ret,T.groups,this]
 have hl:t.light=true:=by simpa using h
 have sr:t.nodes.length<=10000:=zA6 hl
 intro b2
 refine Zaj (Ziz t m2) (λv m' css h=>by obtain⟨_,rfl,_⟩:=h;rfl) ?_
 rintro g fi ca m3 aQ ⟨b3,hv,eI⟩
 obtain⟨rfl,rfl,rfl⟩:=ZcB hv
 have bG:=mLt aB (mLt aO aQ)
 have eW:∀q,(t.nodes.take q).countP (λx=>x.k == 6)<=10000:=λq=>by
  have h1:=List.countP_le_length (p:=λx:T=>x.k == 6) (l:=t.nodes.take q)
  have h2:(t.nodes.take q).length<=t.nodes.length:=List.length_take_le' _ _
  omega
 refine⟨_,ZfE t m3 b3 eI (hr.mono bG),λy hy=>?_,λ_ css _ m' q=>css=[[.int .i64 ((t.nodes.take q).countP λx=>x.k == 6:Nat)]]/\q<=t.nodes.length,⟨rfl,by omega⟩,?_,?_⟩
 ·obtain⟨z,_,rfl⟩:=List.mem_map.1 hy;exact Zrw z
 ·rintro n0 n1 n2 n3 n4 n5 n6 a n7 c cs m4 q bN hq ⟨cF,_⟩ b4
  obtain rfl:cs=_:=by simpa using cF
  have hq':(List.map (λz:T=>[z.v]) t.nodes)[(q:Nat)]?=some [Value.agg #[.int .u8 n0,.int .u64 n1,.int .u64 n2,.int .u64 n3,.int .u64 n4,.int .i64 n5,.int .i64 n6,.slice a n7 c]]:=hq
  rw[List.getElem?_map]at hq'
  obtain⟨z,hz,jc⟩:=Option.map_eq_some_iff.1 hq'
  have hk:z.k=n0:=by
   have:z.v=Value.agg #[.int .u8 n0,.int .u64 n1,.int .u64 n2,.int .u64 n3,.int .u64 n4,.int .i64 n5,.int .i64 n6,.slice a n7 c]:=by simpa using jc
   simp[T.v]at this;exact this.1
  have aH:=(zA0 hz).1
  have eZ:(t.nodes.take (q+1)).countP (λx=>x.k == 6)=(t.nodes.take q).countP (λx=>x.k == 6)+(if z.k == 6 then 1 else 0):=by
   rw[List.take_add_one,hz,List.countP_append];simp[List.countP_cons]
  refine Zab (λh=>?_) (λh=>?_)
  ·have hw:IntKind.i64.wrap (RowKit.intOf (Value.int .i64 ((t.nodes.take q).countP λx=>x.k == 6:Nat))+1)=(((t.nodes.take q).countP λx=>x.k == 6:Nat):Int)+1:=Zam (n:=(((t.nodes.take q).countP λx=>x.k == 6:Nat):Int)+1) (by have:=eW q;omega) (by have:=eW q;omega)
   refine Zap rfl (Zaa rfl ?_)
   simp only[hw]
   refine⟨by trivial,?_,by omega⟩
   rw[eZ,hk]
   have:(n0 == 6)=true:=h
   simp[this]
  ·refine⟨rfl,?_,by omega⟩
   rw[eZ,hk]
   have:(n0 == 6)=false:=h
   simp[this]
 ·rintro cs m4 bN ⟨cF,ia⟩
  obtain rfl:cs=_:=by simpa using cF
  refine Zap rfl (Zac (mLt bG bN) ?_)
  simp[Ret,T.groups,hl]
theorem ZhC(t:T)(m:Mem)(hr:Rep m t)(hl:t.nodes.length<=10000):CX Tryz.prog 189 #[t.v] m [] (Ret (.int .i64 t.pos)):=by
 apply Zhy
 intro b m1 aB _
 have eR:=Zv9 t
 have gQ:=Zrx t
 refine Zab (λhk=>?_) (λhk=>?_)
 all_goals
  have hk':(if t.k=2 then(1:Int)else 0)=1/\t.k=2\/(if t.k=2 then(1:Int)else 0)=0/\t.k≠2:=by split <;> simp_all
  refine⟨λxs _ _ m'' q=>∃i:Nat,i<=t.subs.length/\xs=[.int .i64 ((if t.k=2 then 1 else 0)+ZeT (t.subs.take i)),.int .i64 i]/\m1.le m''/\q=t.subs.length - i,⟨t.subs.length,0,by omega,by simp_all [ZeT],Mem.le_refl _,by omega⟩,?_⟩
  rintro n n1 m2 q aO ⟨i,hi,cN,_,hq⟩
  have cB:=Zhk (t.subs.take i)
  have eH:=Zv8 (t.subs.take i)
  have eI:(t.subs.take i).length<=i:=List.length_take_le _ _
  clear hk'
  generalize hc:(if t.k=2 then(1:Int)else 0)=c at *
  have zt:0<=c/\c<=1:=by rw[<-hc];split <;> omega
  simp only[List.cons.injEq,Value.int.injEq,true_and,and_true]at cN
  obtain⟨rfl,rfl⟩:=cN
  refine Zab (λaH=>?_) (λbL=>?_)
  ·have aS:i < t.subs.length:=by simpa using aH
   obtain⟨x,hx⟩:∃x,t.subs[i]?=some x:=⟨_,zA3 aS⟩
   have bO:x∈t.subs:=zA2 hx
   have bJ:=Zrv bO
   have ss:=Zuv bO
   obtain⟨_,h0|⟨b1,o1,ha,eN⟩⟩:=ZjL hr
   ·rw[h0]at aS;simp at aS
   obtain⟨dJ,dS⟩:=(eN.mono ((mLt aB aO))).get hx
   have wK:=ZiM x
   refine⟨b1,o1,ha,⟨by omega,by omega⟩,_,_,_,_,_,_,_,_,dJ,λb2=>Zaa rfl ?_⟩
   refine ZaB (ZhC x m2 dS (by omega)) λm3 aQ=>⟨rfl,t.subs.length - (i+1),by omega,i+1,by omega,?_,mLt aO aQ,rfl⟩
   rw[Zam (by omega) (by omega),Zam (by omega) (by omega),Zuu hx,Int.add_assoc]
   rfl
  ·have hi':i=t.subs.length:=by
    have:¬((i:Int) < (t.subs.length:Int)):=by simpa using bL
    omega
   subst hi'
   rw[List.take_length]at cB eH ⊢
   have hF:=Zv7 t.mn t.mx
   have mJ:0<=(c+ZeT t.subs)*Zw5 t.mn t.mx/\(c+ZeT t.subs)*Zw5 t.mn t.mx<=100020001*10001:=by
    constructor
    ·exact Int.mul_nonneg (by omega) hF.1
    ·exact Int.mul_le_mul (by omega) hF.2 hF.1 (by omega)
   refine Zab (λh5=>Zab (λhx=>Zac (mLt aB aO) ?_) (λhx=>Zac (mLt aB aO) ?_)) (λh5=>Zac (mLt aB aO) ?_)
   ·have e1:t.k=5:=by simpa using h5
    have e2:t.mx=-1:=by simpa using hx
    have hF':Zw5 t.mn t.mx=Zge (ZqP (ZqP t.mn 0) 1) 10001:=by simp[Zw5,e2]
    show Value.int .i64 (Zge (IntKind.i64.wrap ((c+ZeT t.subs)*Zge (ZqP (ZqP t.mn 0) 1) 10001)) 10001)=Value.int .i64 t.pos
    rw[<-hF',Zam (by omega) (by omega),gQ,ZyN,if_pos e1];rfl
   ·have e1:t.k=5:=by simpa using h5
    have e2:¬t.mx=-1:=by simpa using hx
    have hF':Zw5 t.mn t.mx=Zge (ZqP (ZqP t.mn 0) t.mx) 10001:=by simp[Zw5,e2]
    show Value.int .i64 (Zge (IntKind.i64.wrap ((c+ZeT t.subs)*Zge (ZqP (ZqP t.mn 0) t.mx) 10001)) 10001)=Value.int .i64 t.pos
    rw[<-hF',Zam (by omega) (by omega),gQ,ZyN,if_pos e1];rfl
   ·have e1:¬t.k=5:=by simpa using h5
    show Value.int .i64 (Zge (c+ZeT t.subs) 10001)=Value.int .i64 t.pos
    rw[gQ,ZyN,if_neg e1]
termination_by SizeOf.sizeOf t
decreasing_by all_goals exact bJ
theorem Znm(t:T)(m:Mem)(hr:Rep m t):CX Tryz.prog 166 #[t.v] m [] (Ret (.int .i64 t.positions)):=by
 apply Zhz
 intro b m1 aB _
 refine Zah (Zd5 t m1 (hr.mono aB)) λm2 aO=>Zab (λh=>Zac (mLt aB aO) ?_) (λh=>?_)
 ·have:t.light=false:=by simpa using h
  simp[Ret,T.positions,this]
 have hl:t.light=true:=by simpa using h
 refine ZaB (ZhC t m2 (hr.mono (mLt aB aO)) (zA6 hl)) λm3 aQ=>Zac (mLt aB (mLt aO aQ)) ?_
 simp[Ret,T.positions,hl]
def ZDx(bg en:Bool)(t:T):Value:=.agg #[.bool bg,.bool en,.int .u8 t.k,.int .u64 t.s0,.int .u64 t.s1,.int .u64 t.s2,.int .u64 t.s3,.int .i64 t.mn,.int .i64 t.mx,.slice t.a t.subs.length t.c]
theorem ZxL(bg en:Bool)(t:T)(m:Mem)(hr:Rep m t):CX Tryz.prog 132 #[ZDx bg en t] m [] (Ret (.int .i64 t.check)):=by
 apply Zp0
 intro b m1 aB _
 refine Zah (ZxK t m1 (hr.mono aB)) λm2 aO=>Zab (λh=>Zac (mLt aB aO) ?_) (λh=>?_)
 ·have:t.clean=false:=by simpa using h
  simp[Ret,T.check,this]
 have pk:=mLt aB aO
 have h1:¬t.clean=false:=by simpa using h
 refine ZaB (Ztj t m2 (hr.mono pk)) λm3 aQ=>Zab (λh=>Zac (mLt pk aQ) ?_) (λh=>?_)
 ·have h2:t.size > 120:=by simpa using h
  show Value.int .i64 81=Value.int .i64 t.check
  rw[T.check,if_neg h1,if_pos h2]
 have h2:¬t.size > 120:=by simpa using h
 have pm:=mLt pk aQ
 refine ZaB (Znm t m3 (hr.mono pm)) λm4 bN=>Zab (λh=>Zac (mLt pm bN) ?_) (λh=>?_)
 ·have h3:t.positions > 400:=by simpa using h
  show Value.int .i64 82=Value.int .i64 t.check
  rw[T.check,if_neg h1,if_neg h2,if_pos h3]
 have h3:¬t.positions > 400:=by simpa using h
 have pn:=mLt pm bN
 refine ZaB (Zp1 t m4 (hr.mono pn)) λm5 cE=>Zab (λh=>Zac (mLt pn cE) ?_) (λh=>Zac (mLt pn cE) ?_)
 ·have h4:t.groups > 9:=by simpa using h
  show Value.int .i64 83=Value.int .i64 t.check
  rw[T.check,if_neg h1,if_neg h2,if_neg h3,if_pos h4]
 ·have h4:¬t.groups > 9:=by simpa using h
  show Value.int .i64 0=Value.int .i64 t.check
  rw[T.check,if_neg h1,if_neg h2,if_neg h3,if_neg h4]
theorem Znn(l l':List T)(a a':Option Addr)(c c':Nat)(m:Mem)(hl:l.length<=1000000000000000)(hr:l=[]\/∃b o,a=some ⟨b,o,none⟩/\RepAt m b o l)(hr':l'=[]\/∃b o,a'=some ⟨b,o,none⟩/\RepAt m b o l')
  (hp:∀x∈l,∀y∈l',∀m',m.le m'->Rep m' x->Rep m' y->CX Tryz.prog 187 #[x.v,y.v] m' [] (Ret (.bool (x.same y)))):
  CX Tryz.prog 199 #[.slice a l.length c,.slice a' l'.length c',.func (.func 187) #[] #[]] m [] (Ret (.bool (ZeI l l'))):=by
 apply ZaI a l.length c a' l'.length c' _ [] []
 refine Zab (λh=>Zac (Mem.le_refl _) ?_) (λh=>?_)
 ·have:¬l.length=l'.length:=by
   intro e;rw[e]at h;simp at h
  show Value.bool false=_
  rw[Zpg this]
 have ip:l.length=l'.length:=by
  have h2:((l.length:Int) == (l'.length:Int))=true:=by simpa using h
  have:=zA6 h2;omega
 refine⟨λxs _ _ m'' q=>∃i:Nat,i<=l.length/\xs=[.int .i64 i]/\ZeI (l.take i) (l'.take i)=true/\m.le m''/\q=l.length - i,⟨l.length,0,by omega,rfl,by simp[ZeI],Mem.le_refl _,by omega⟩,?_⟩
 rintro n m' q hm ⟨i,hi,hn,dK,bG,hq⟩
 obtain rfl:n=i:=by simpa using hn
 refine Zab (λaH=>?_) (λbL=>?_)
 ·have aS:i < l.length:=by simpa using aH
  obtain⟨x,hx⟩:∃x,l[i]?=some x:=⟨_,zA3 aS⟩
  obtain⟨y,hy⟩:∃y,l'[i]?=some y:=⟨_,zA3 (by omega)⟩
  have mV:x∈l:=zA2 hx
  have nF:y∈l':=zA2 hy
  rcases hr with h0|⟨b1,o1,ha,eN⟩
  ·rw[h0]at aS;simp at aS
  rcases hr' with h0|⟨b2,o2,ha',po⟩
  ·rw[h0]at ip;simp at ip;rw[ip]at aS;simp at aS
  obtain⟨dJ,dS⟩:=(eN.mono hm).get hx
  obtain⟨iV,lz⟩:=(po.mono hm).get hy
  refine⟨b1,o1,ha,⟨by omega,by omega⟩,_,_,_,_,_,_,_,_,dJ,λb3=>Zaa rfl ⟨b2,o2,ha',⟨by omega,by omega⟩,_,_,_,_,_,_,_,_,iV,λb4=>Zaa rfl ?_⟩⟩
  refine Zah (hp x mV y nF m' hm dS lz) λm1 aB=>Zab (λeS=>?_) (λeS=>?_)
  ·have hf:x.same y=false:=by simpa using eS
   refine Zac (mLt hm aB) ?_
   show Value.bool false=_
   rw[ZsF hx hy hf]
  ·have hf:x.same y=true:=by simpa using eS
   refine⟨l.length - (i+1),by omega,i+1,by omega,by rw[Zam (by omega) (by omega)];rfl,Zl6 hx hy dK hf trivial,mLt hm aB,rfl⟩
 ·have hi':i=l.length:=by
   have:¬((i:Int) < (l.length:Int)):=by simpa using bL
   omega
  subst hi'
  refine Zac hm ?_
  rw[List.take_length,ip,List.take_length]at dK
  show Value.bool true=_
  rw[dK]
theorem Zwv(t u:T)(m:Mem)(hr:Rep m t)(hu:Rep m u):CX Tryz.prog 187 #[t.v,u.v] m [] (Ret (.bool (t.same u))):=by
 apply ZrQ
 intro b m1 aB _ b' m2 aO _
 have hm:=mLt aB aO
 refine⟨t.same u,?_,Zac hm rfl⟩
 rw[Zzs]
 refine Zab (λh1=>⟨_,ZxI _ _ _ _ _ _ _ _,Zab (λh2=>Zab (λh3=>Zab (λh4=>?_) (λh4=>⟨rfl,Zag ?_⟩)) (λh3=>⟨rfl,Zag ?_⟩)) (λh2=>⟨rfl,Zag ?_⟩)⟩) (λh1=>⟨rfl,Zag ?_⟩)
 ·have hr':=ZjL (hr.mono hm)
  have hu':=ZjL (hu.mono hm)
  refine Zah (Znn t.subs u.subs t.a u.a t.c u.c m2 hr'.1 hr'.2 hu'.2 λx hx y hy m' _ dJ iV=>?_) λm3 aQ=>⟨rfl,Zag ?_⟩
  ·have bJ:=Zrv hx
   exact Zwv x y m' dJ iV
  ·rw[h1,h2,h3,h4];rfl
 ·rw[h1,h2,h3,h4];rfl
 ·rw[h1,h2,h3];rfl
 ·rw[h1,h2];rfl
 ·rw[h1];rfl
termination_by SizeOf.sizeOf t
decreasing_by exact bJ
theorem ZAf(t u:T)(m:Mem)(hr:Rep m t)(hu:Rep m u):CX Tryz.prog 164 #[t.v,u.v] m [] (Ret (.bool (t.light&&(u.light&&t.same u)))):=by
 apply ZrR
 intro b m1 aB _ b' m2 aO _
 have hm:=mLt aB aO
 refine⟨t.light&&(u.light&&t.same u),?_,Zac hm rfl⟩
 refine Zah (Zd5 t m2 (hr.mono hm)) λm3 aQ=>Zab (λh1=>?_) (λh1=>⟨rfl,Zag ?_⟩)
 ·refine Zah (Zd5 u m3 (hu.mono (mLt hm aQ))) λm4 bN=>Zab (λh2=>?_) (λh2=>?_)
  ·have cE:=mLt (mLt hm aQ) bN
   refine Zah (Zwv t u m4 (hr.mono cE) (hu.mono cE)) λm6 ig=>⟨rfl,Zag ?_⟩
   rw[h1,h2];rfl
  ·refine⟨rfl,Zag ?_⟩
   rw[h1,h2];rfl
 ·rw[h1];rfl
end Go.Proofs.YtdopppmkbkkmiaaGreatDoor
namespace Go.Proofs.YtdopppmkbkkmiaaGreatDoor
open Go Go.Eng Go.Rx Go.Proofs Go.RowKit
theorem Zmq{b:Bool}{p q:Prop}(h:b=true)(k:p):br b p q:=by subst h;exact k
theorem ZcF{b:Bool}{p q:Prop}(h:b=false)(k:q):br b p q:=by subst h;exact k
theorem ZaM{α:Type}{l:List α}{k:Nat}(h:k < l.length):∃x,l[k]?=some x:=⟨l[k],zA3 h⟩
theorem Zbt(t:T):Rx.ZcG [t]=t.cs:=by simp[Rx.ZcG]
theorem ZdX{m:Mem}{a:Option Addr}{ts:List T}(h:rowRd m a (Rx.ZcG ts)){i:Nat}{t:T}(hi:ts[i]?=some t):∃b o,a=some ⟨b,o,none⟩/\m.reads b (o+i*8) t.cs:=by
 rcases h with h|⟨b,o,ha,h⟩
 ·have hl:(Rx.ZcG ts).length=0:=by rw[h];rfl
  rw[Zaq]at hl
  have:=(zA0 hi).1
  omega
 ·refine⟨b,o,ha,λj v hj=>?_⟩
  rw[Nat.add_assoc]
  refine h (i*8+j) v ?_
  have e:ts=ts.take i++(t::ts.drop (i+1)):=by
   have aH:=(zA0 hi).1
   have h2:=List.drop_eq_getElem_cons aH
   rw[(zA0 hi).2]at h2
   rw[<-h2,List.take_append_drop]
  have aH:=(zA0 hi).1
  have tW:=(zA0 hj).1
  rw[e,ZaK,zA4 (by rw[Zaq,List.length_take,Nat.min_eq_left (by omega)];omega),Zaq,List.length_take,Nat.min_eq_left (by omega),show i*8+j - i*8=j by omega]
  have e2:Rx.ZcG (t::ts.drop (i+1))=t.cs++Rx.ZcG (ts.drop (i+1)):=by simp[Rx.ZcG]
  rw[e2,zA5 tW];exact hj
def ZqX(mb M0:Mem)(φ:T->Prop):Value->Mem->List (List Value)->Prop:=λv M' css=>∃m0,mb.le m0/\m0.le M'/\(∀b o u,M0 b o=some u->∀o',m0 b o'=mb b o')/\Zpi φ v m0 css
theorem ZjQ{mb M0:Mem}{φ:T->Prop}{m:Mem}{K:TRK}(k:∀(t:T)(m0 m':Mem),m.le m'->mb.le m0->m0.le m'->(∀b o u,M0 b o=some u->∀o',m0 b o'=mb b o')->Rep m0 t->φ t->K t.k t.s0 t.s1 t.s2 t.s3 t.mn t.mx t.a t.subs.length t.c m'):
  ∀(n0 n1 n2 n3 n4 n5 n6:Int)(a:Option Addr)(n c:Nat)(m':Mem),m.le m'->ZqX mb M0 φ (.agg #[.int .u8 n0,.int .u64 n1,.int .u64 n2,.int .u64 n3,.int .u64 n4,.int .i64 n5,.int .i64 n6,.slice a n c]) m' []->K n0 n1 n2 n3 n4 n5 n6 a n c m':=by
 rintro n0 n1 n2 n3 n4 n5 n6 a n c m' hm ⟨m0,h1,h2,h3,t,hv,hr,hp⟩
 simp only[T.v,Value.agg.injEq,Array.mk.injEq,List.cons.injEq,Value.int.injEq,Value.slice.injEq,true_and,and_true]at hv
 obtain⟨rfl,rfl,rfl,rfl,rfl,rfl,rfl,rfl,rfl,rfl⟩:=hv
 exact k t m0 m' hm h1 h2 h3 hr hp
theorem ZdG{mb M0:Mem}{φ:T->Prop}:∀(v:Value)(m':Mem) (css:List (List Value)),ZqX mb M0 φ v m' css->Shape.fits (.agg [.int .u8,.int .u64,.int .u64,.int .u64,.int .u64,.int .i64,.int .i64,.slice]) v=true:=λv _ _ ⟨_,_,_,_,t,e,_⟩=>by rw[e];rfl
def Apart(mb:Mem)(a:Option Addr):Prop:=a=none\/∃b,a=some ⟨b,0,none⟩/\mb.free b
theorem Apart.tok{mb M:Mem}{a a':Option Addr}{n c:Nat}(h:Apart mb a)(hm:mb.le M)(ht:TokFact M a a' n c):Apart mb a':=by
 rcases ht.2 with h1|⟨b,o,h1,h2⟩
 ·exact .inl h1
 rcases h2 with h2|⟨h3,h2⟩
 ·rw[<-h2];exact h
 ·subst h3
  refine .inr ⟨b,h1,λo=>?_⟩
  cases hb:mb b o with
  | none=>rfl
  | some v=>have:=hm _ _ _ hb;rw[h2.1 o]at this;cases this
theorem Ztk{m:Mem}{a:Option Addr}{ts r:List T}(h:rowRd m a (Rx.ZcG (ts++r))):rowRd m a (Rx.ZcG ts):=by
 rw[ZaK]at h
 rcases h with h|⟨b,o,ha,h⟩
 ·exact .inl (List.append_eq_nil_iff.1 h).1
 ·refine .inr ⟨b,o,ha,λj v hj=>h j v ?_⟩
  rw[zA5 (zA0 hj).1];exact hj
theorem Ztl{m:Mem}{b:Nat}{ts:List T}{x t:T}(h:rowRd m (some ⟨b,0,none⟩) (Rx.ZcG (ts++[x]))):rowRd (m.upd b (0+ts.length*8) t.cs) (some ⟨b,0,none⟩) (Rx.ZcG (ts++[t])):=by
 refine .inr ⟨b,0,rfl,λj v hj=>?_⟩
 rw[ZaK]at hj
 rcases Nat.lt_or_ge j (ts.length*8)with aH|bL
 ·rw[zA5 (by rw[Zaq];exact aH)]at hj
  unfold Mem.upd;try dsimp only
  rw[if_neg (by omega)]
  rcases h with h|⟨b',o',ha,h⟩
  ·have hl:(Rx.ZcG (ts++[x])).length=0:=by rw[h];rfl
   rw[Zaq,zA1]at hl
   simp at hl
  ·cases ha
   refine h j v ?_
   rw[ZaK,zA5 (by rw[Zaq];exact aH)];exact hj
 ·rw[zA4 (by rw[Zaq];exact bL),Zaq,Zbt]at hj
  have h8:=(zA0 hj).1
  have h8':t.cs.length=8:=rfl
  unfold Mem.upd;try dsimp only
  rw[if_pos ⟨rfl,by omega,by omega⟩,show 0+j - (0+ts.length*8)=j - ts.length*8 by omega]
  exact hj
theorem Apart.base{mb m:Mem}{a:Option Addr}{ts:List T}(h:Apart mb a)(aC:rowRd m a (Rx.ZcG ts))(hn:ts≠[]):∃b,a=some ⟨b,0,none⟩/\mb.free b/\∃o u,m b o=some u:=by
 obtain⟨t,r,rfl⟩:∃t r,ts=t::r:=by cases ts with
  | nil=>exact absurd rfl hn
  | cons t r=>exact⟨t,r,rfl⟩
 obtain⟨b',o,ha,cC⟩:=ZdX aC (i:=0) (t:=t) rfl
 rcases h with h|⟨b,hb,hf⟩
 ·rw[h]at ha;cases ha
 ·rw[hb]at ha;cases ha
  exact⟨b',hb,hf,_,_,cC 0 (.int .u8 t.k) rfl⟩
theorem ZCJ{ts:List T}(h:1 < ts.length):∃r x y,ts=r++[x,y]:=by
 have h1:ts.length - 2 < ts.length:=by omega
 refine⟨ts.take (ts.length - 2),ts[ts.length - 2],ts[ts.length - 1],?_⟩
 have e:=(List.take_append_drop (ts.length - 2) ts).symm
 rw[List.drop_eq_getElem_cons h1,List.drop_eq_getElem_cons (by omega),List.drop_eq_nil_of_le (by omega)]at e
 simpa[show ts.length - 2+1=ts.length - 1 by omega]using e
theorem ZCK{ts:List T}(h:0 < ts.length):∃r x,ts=r++[x]:=by
 refine⟨ts.dropLast,ts.getLast (by intro e;subst e;simp at h),?_⟩
 exact(List.dropLast_concat_getLast _).symm
end Go.Proofs.YtdopppmkbkkmiaaGreatDoor
namespace Go.Proofs.YtdopppmkbkkmiaaGreatDoor
open Go Go.Eng Go.Rx Go.Proofs Go.RowKit
set_option maxRecDepth 100000
theorem Zax{p:Prop} [Decidable p]{A B:Prop}(ht:p->A)(hf:¬p->B):br (decide p) A B:=Zab (λh=>ht (zA6 h)) (λh=>hf (of_decide_eq_false h))
theorem ZfF(t:E)(m:Mem):CX Tryz.prog 114 #[t.v] m [] (λv m' _=>∃b,v=.func (.func 158) #[] #[.pointer (some ⟨b,0,none⟩)]/\m'.reads b 0 t.cs):=by
 apply ZkL
 intro b m' hm hb
 exact⟨m',hm,Mem.le_refl _,b,rfl,hb⟩
theorem Zeh(t:E)(m:Mem)(c0b:Nat)(cC:m.reads c0b 0 t.cs)(bP:RepE m t):IX Tryz.prog 158 [] [.pointer (some ⟨c0b,0,none⟩)] m (t.nodes.map λx=>[x.v]):=by
 apply Zhu 0 [] [] c0b 0
 intro l b m' hm hb
 have ju:=cC.mono hm
 refine⟨_,_,_,_,_,ju,⟨rfl,by omega,?_⟩,?_,.inr rfl⟩
 ·rw[ZbD];rfl
 refine⟨t.sl,ju 4 _ rfl,Zaa rfl ?_⟩
 refine⟨λxs _ _ m'' q=>∃i:Nat,i<=t.subs.length/\xs=[.int .i64 ((1+(Zao (t.subs.take i)).length:Nat):Int),.int .i64 i]/\m'.le m''/\q=t.subs.length - i,⟨t.subs.length,0,by omega,?_,Mem.le_refl _,by omega⟩,?_⟩
 ·simp[Zao]
 rintro y n m2 q aO ⟨i,hi,cN,jr,hq⟩
 simp only[List.cons.injEq,Value.int.injEq,true_and,and_true]at cN
 obtain⟨rfl,rfl⟩:=cN
 have aP:slN t.sl=t.subs.length:=rfl
 rw[aP]
 refine Zab (λaH=>?_) (λbL=>?_)
 ·have aS:i < t.subs.length:=by simpa using aH
  obtain⟨x,hx⟩:∃x,t.subs[i]?=some x:=⟨_,zA3 aS⟩
  have bO:x∈t.subs:=zA2 hx
  have bJ:=Zl8 bO
  obtain⟨qK,h0|⟨b1,o1,ha,eN⟩⟩:=ZeU bP
  ·rw[h0]at aS;simp at aS
  obtain⟨dJ,dS⟩:=(eN.mono' ((mLt hm jr))).get hx
  refine Zaa rfl ⟨b1,o1,ha,⟨by omega,by omega⟩,_,_,_,_,_,dJ,λb2=>Zaa rfl ?_⟩
  refine⟨_,trivial,ZfF x m2,λv m' css h=>?_,?_⟩
  ·obtain⟨b3,rfl,_⟩:=h;rfl
  rintro g fi ca m3 aQ ⟨b3,hv,eI⟩
  obtain⟨rfl,rfl,rfl⟩:=ZcB hv
  refine⟨_,Zeh x m3 b3 eI (RepE.mono' dS aQ),λy hy=>?_,?_⟩
  ·obtain⟨z,_,rfl⟩:=List.mem_map.1 hy;exact Zl9 z
  refine⟨λxs _ _ m'' q=>q<=x.nodes.length/\xs=[.int .i64 ((1+(Zao (t.subs.take i)).length+q:Nat):Int)]/\m3.le m'',⟨Nat.zero_le _,rfl,Mem.le_refl _⟩,?_,?_⟩
  ·rintro y n0 v0 s0 n3 a n7 c m4 q bN hq ⟨ia,hy,_⟩ b4
   simp only[List.cons.injEq,Value.int.injEq,true_and,and_true]at hy
   subst hy
   have hq':(List.map (λz:E=>[z.v]) x.nodes)[(q:Nat)]?=some [Value.agg #[.int .u8 n0,v0,.string s0,.int .i64 n3,.slice a n7 c]]:=hq
   rw[List.getElem?_map]at hq'
   obtain⟨z,hz,jc⟩:=Option.map_eq_some_iff.1 hq'
   have sq:q < x.nodes.length:=(zA0 hz).1
   simp only[E.v,List.cons.injEq,Value.agg.injEq,Array.mk.injEq,Value.int.injEq,Value.string.injEq,Value.slice.injEq,true_and,and_true]at jc
   obtain⟨rfl,rfl,rfl,rfl,rfl,rfl,rfl⟩:=jc
   refine Zaa rfl ⟨⟨rfl,by omega,?_⟩,⟨rfl,by omega,?_,bN⟩,rfl,.inr rfl⟩
   ·rw[zA8]
    show(t.nodes.map λx=>[x.v])[1+(Zao (t.subs.take i)).length+q]?=_
    rw[List.getElem?_map,Zuy hx hz];rfl
   ·congr 2
  ·rintro y m4 bN ⟨ia,hy,_⟩
   simp only[List.cons.injEq,Value.int.injEq,true_and,and_true]at hy
   subst hy
   refine⟨rfl,t.subs.length - (i+1),by omega,i+1,by omega,?_,mLt jr (mLt aQ bN),rfl⟩
   rw[Zam (by omega) (by omega),ZmZ hx,zA1]
   simp[E.v,Nat.add_assoc]
 ·have hi':i=t.subs.length:=by
   have:¬((i:Int) < (t.subs.length:Int)):=by simpa using bL
   omega
  subst hi'
  left
  rw[List.take_length,ZbD]
  simp
  omega
termination_by SizeOf.sizeOf t
decreasing_by exact bJ
theorem Zdm(t:E)(m:Mem)(hr:RepE m t):CX Tryz.prog 92 #[t.v] m [] (Ret (.bool t.light)):=by
 apply ZkM
 intro b m1 aB _ b2
 refine Zaj (ZfF t m1) (λv m' css h=>by obtain⟨_,rfl,_⟩:=h;rfl) ?_
 rintro g fi ca m2 aO ⟨b3,hv,eI⟩
 obtain⟨rfl,rfl,rfl⟩:=ZcB hv
 have bG:=mLt aB aO
 refine⟨_,Zeh t m2 b3 eI (RepE.mono' hr bG),λy hy=>?_,λ_ css _ m' q=>css=[[.int .i64 q]]/\q<=10000/\q<=t.nodes.length,⟨rfl,by omega,by omega⟩,?_,?_⟩
 ·obtain⟨z,_,rfl⟩:=List.mem_map.1 hy;exact Zl9 z
 ·rintro n0 v0 s0 n3 a n7 c cs m3 q aQ hq ⟨cF,ia,_⟩
  obtain rfl:cs=[.int .i64 q]:=by simpa using cF
  have aH:q < t.nodes.length:=by
   have:=(zA0 (show(List.map (λz:E=>[z.v]) t.nodes)[(q:Nat)]?=some _ from hq)).1
   simpa using this
  refine Zap rfl (Zaa rfl ?_)
  have hw:IntKind.i64.wrap (RowKit.intOf (Value.int .i64 (q:Int))+1)=(q:Int)+1:=Zam (n:=(q:Int)+1) (by omega) (by omega)
  simp only[hw]
  refine Zab (λh=>⟨by trivial,Zac (mLt bG aQ) ?_⟩) (λh=>⟨by trivial,?_,?_,by omega⟩)
  ·have:((q:Int)+1 > 10000):=by simpa using h
   simp[Ret,E.light];omega
  ·simp
  ·have:¬((q:Int)+1 > 10000):=by simpa using h
   omega
 ·rintro cs m3 aQ ⟨cF,ia,_⟩
  obtain rfl:cs=[.int .i64 t.nodes.length]:=by simpa using cF
  refine Zap rfl (Zaa rfl (Zac (mLt bG aQ) ?_))
  show Value.bool (decide ((t.nodes.length:Int)<=10000))=Value.bool t.light
  congr 1
  rw[E.light,decide_eq_decide];omega
theorem ZxM(t:E)(m:Mem)(hr:RepE m t):CX Tryz.prog 93 #[t.v] m [] (Ret (.int .i64 t.size)):=by
 apply Zm9
 intro b m1 aB _ b2
 refine Zah (Zdm t m1 (RepE.mono' hr aB)) λm2 aO=>Zab (λhl=>?_) (λh=>Zac (mLt aB aO) (by simp[Ret,E.size,h]))
 have sr:t.nodes.length<=10000:=zA6 hl
 refine Zaj (ZfF t m2) (λv m' css h=>by obtain⟨_,rfl,_⟩:=h;rfl) ?_
 rintro g fi ca m3 aQ ⟨b3,hv,eI⟩
 obtain⟨rfl,rfl,rfl⟩:=ZcB hv
 have bG:=mLt aB (mLt aO aQ)
 refine⟨_,Zeh t m3 b3 eI (RepE.mono' hr bG),λy hy=>?_,λ_ css _ m' q=>css=[[.int .i64 q]]/\q<=t.nodes.length,⟨rfl,by omega⟩,?_,?_⟩
 ·obtain⟨z,_,rfl⟩:=List.mem_map.1 hy;exact Zl9 z
 ·rintro n0 v0 s0 n3 a n7 c cs m4 q bN hq ⟨cF,_⟩
  obtain rfl:cs=[.int .i64 q]:=by simpa using cF
  have aH:q < t.nodes.length:=by
   have:=(zA0 (show(List.map (λz:E=>[z.v]) t.nodes)[(q:Nat)]?=some _ from hq)).1
   simpa using this
  have hw:IntKind.i64.wrap (RowKit.intOf (Value.int .i64 (q:Int))+1)=(q:Int)+1:=Zam (n:=(q:Int)+1) (by omega) (by omega)
  refine Zap rfl (Zaa rfl ?_)
  simp only[hw]
  exact⟨by trivial,by simp,by omega⟩
 ·rintro cs m4 bN ⟨cF,ia⟩
  obtain rfl:cs=[.int .i64 t.nodes.length]:=by simpa using cF
  refine Zap rfl (Zac (mLt bG bN) ?_)
  simp[Ret,E.size,hl]
theorem ZB2(T:TypeId)(x y:Nat):BinIs Tryz.prog .eql T (.float .f64 x) (.float .f64 y) (.bool (Op.floatEq .f64 x y)):=λox oy w=>by
 simp[eqGuard,binOp,Op.floatCmp,Op.floatEq]
theorem ZAg(T:TypeId)(x y:Nat):BinIs Tryz.prog .neq T (.float .f64 x) (.float .f64 y) (.bool (!Op.floatEq .f64 x y)):=λox oy w=>by
 simp[eqGuard,binOp,Op.floatCmp,Op.floatEq,bne]
theorem Zp2(x:Nat):Zot Tryz.prog 161 [.float .f64 x] (.int .u64 x):=λw=>by
 rw[run_callFunc_extern Tryz.func161 (by kernel_rfl) (by kernel_rfl) (by kernel_rfl) (e:=Go.Extern.MathFloatBits.float64bits) (by kernel_rfl)]
 rfl
theorem Ztm(n:Nat):Zot Tryz.prog 107 [.int .u64 n] (.float .f64 n):=λw=>by
 rw[run_callFunc_extern Tryz.func107 (by kernel_rfl) (by kernel_rfl) (by kernel_rfl) (e:=Go.Extern.MathFloatBits.float64frombits) (by kernel_rfl)]
 rfl
theorem ZB3(m:Mem):CX Tryz.prog 209 #[] m [] (Ret (.float .f64 Zzw)):=by
 apply ZkN
 exact⟨_,Ztm Zzw,Zac (Mem.le_refl _) rfl⟩
theorem Ztn(x:Nat)(m:Mem):CX Tryz.prog 202 #[.float .f64 x] m [] (Ret (.float .f64 (Zgu x))):=by
 apply Zhv
 refine⟨_,ZAg _ x x,Zab (λh=>?_) (λh=>Zac (Mem.le_refl _) ?_)⟩
 ·refine Zaj (ZB3 m) (s:=.any) (λ_ _ _ _=>rfl) ?_
  intro v m1 aB hv
  have h':Op.floatEq .f64 x x=false:=by simpa using h
  refine Zac aB ?_
  show v=_
  rw[show v=_ from hv];unfold Zgu;rw[h'];rfl
 ·have h':Op.floatEq .f64 x x=true:=by simpa using h
  show Value.float .f64 x=_
  unfold Zgu;rw[h'];rfl
theorem Zp3(x:Nat)(m:Mem):CX Tryz.prog 160 #[.float .f64 x] m [] (Ret (.bool (Zfu x))):=by
 apply Zhw
 refine⟨Zfu x,⟨_,ZB2 _ x x,Zab (λh=>?_) (λh=>⟨_,Zp2 x,Zaa rfl ?_⟩)⟩,Zac (Mem.le_refl _) rfl⟩
 ·unfold Zfu;rw[h];rfl
 ·unfold Zfu;rw[h,Bool.false_or]
  exact Zag (show decide ((x:Int)=9221120237041090561)=decide (x=Zzw) from decide_eq_decide.2 (by unfold Zzw;omega))
theorem Zto(x y:Nat)(m:Mem):CX Tryz.prog 190 #[.float .f64 x,.float .f64 y] m [] (Ret (.bool (Zuz x y))):=by
 apply ZiQ
 refine Zaj (Ztn x m) (s:=.any) (λ_ _ _ _=>rfl) ?_
 intro v m1 aB hv
 refine⟨.int .u64 (Zgu x),by rw[show v=_ from hv];exact Zp2 _,?_⟩
 refine Zaj (Ztn y m1) (s:=.any) (λ_ _ _ _=>rfl) ?_
 intro u m2 aO hu
 refine⟨.int .u64 (Zgu y),by rw[show u=_ from hu];exact Zp2 _,Zaa rfl (Zac (mLt aB aO) ?_)⟩
 show Value.bool _=_
 congr 1
 exact show decide ((Zgu x:Int)=Zgu y)=decide (Zgu x=Zgu y) from decide_eq_decide.2 (by omega)
def ZfG(l:List ByteArray):List Value:=l.map λs=>.string s
theorem ZcS{m:Mem}{a:Option Addr}{l:List ByteArray}(h:rowRd m a (ZfG l)){k:Nat}{s:ByteArray}(hk:l[k]?=some s):∃b o,a=some ⟨b,o,none⟩/\m b (o+k*1)=some (.string s):=by
 rcases h with h|⟨b,o,ha,h⟩
 ·have:l=[]:=by simpa[ZfG]using h
  rw[this]at hk;simp at hk
 ·exact⟨b,o,ha,by rw[Nat.mul_one];exact h k _ (by rw[ZfG,List.getElem?_map,hk];rfl)⟩
theorem Zu1(l:List ByteArray)(a:Option Addr)(c:Nat)(s:ByteArray)(m:Mem)(hl:l.length<=1000000000000000)(hr:rowRd m a (ZfG l)):
  CX Tryz.prog 49 #[.slice a l.length c,.string s] m [] (Ret (.int .i64 (if l.any (λy=>eqS s y)then(l.findIdx (λy=>eqS s y):Nat)else(-1:Int)))):=by
 apply Zch
 refine⟨λxs _ _ m'' q=>∃i:Nat,i<=l.length/\xs=[.int .i64 i]/\(∀x∈l.take i,eqS s x=false)/\q=l.length - i,⟨l.length,0,by omega,rfl,by simp,by omega⟩,?_⟩
 rintro n m' q hm ⟨i,hi,hn,eT,hq⟩
 obtain rfl:n=i:=by simpa using hn
 refine Zab (λaH=>?_) (λbL=>?_)
 ·have aS:i < l.length:=by simpa using aH
  obtain⟨x,hx⟩:∃x,l[i]?=some x:=⟨_,zA3 aS⟩
  have bO:x∈l:=zA2 hx
  obtain⟨b1,o1,ha,eA⟩:=ZcS (hr.mono hm) hx
  refine⟨b1,o1,ha,⟨by omega,by omega⟩,_,eA,Zaa rfl (Zab (λeS=>?_) (λeS=>?_))⟩
  ·refine Zac hm ?_
   have dT:l.any (λy=>eqS s y)=true:=List.any_eq_true.2 ⟨x,bO,eS⟩
   have eY:l.findIdx (λy=>eqS s y)=i:=by
    rw[List.findIdx_eq aS]
    refine⟨by rw[(zA0 hx).2];exact eS,λj hj=>?_⟩
    exact eT _ (List.mem_of_getElem? (i:=j) (by rw[List.getElem?_take_of_lt hj];exact zA3 (by omega)))
   simp[Ret,dT,eY]
  ·refine⟨l.length - (i+1),by omega,i+1,by omega,by rw[Zam (by omega) (by omega)];rfl,?_,rfl⟩
   intro y hy
   rw[List.take_add_one,hx]at hy
   rcases List.mem_append.1 hy with hy|hy
   ·exact eT y hy
   ·simp at hy;rw[hy];exact eS
 ·have hi':i=l.length:=by
   have:¬((i:Int) < (l.length:Int)):=by simpa using bL
   omega
  subst hi'
  refine Zac hm ?_
  have dT:l.any (λy=>eqS s y)=false:=by
   rw[List.any_eq_false]
   rw[List.take_length]at eT
   exact λx hx=>by simp[eT x hx]
  simp[Ret,dT]
theorem ZhD(l:List ByteArray)(a:Option Addr)(c:Nat)(s:ByteArray)(m:Mem)(hl:l.length<=1000000000000000)(hr:rowRd m a (ZfG l)):
  CX Tryz.prog 15 #[.slice a l.length c,.string s] m [] (Ret (.bool (l.any λy=>eqS s y))):=by
 apply ZbM
 refine ZaB (Zu1 l a c s m hl hr) λm' hm=>Zac hm ?_
 cases h:l.any (λy=>eqS s y) <;> simp[Ret]
theorem ZkT(l:List ByteArray)(a:Option Addr)(c:Nat)(g:Nat)(ca:List Value)(p:ByteArray->Bool)(m:Mem)(hl:l.length<=1000000000000000)(hr:rowRd m a (ZfG l))
  (hp:∀x∈l,∀m',m.le m'->CX Tryz.prog g (.string x::ca).toArray m' [] (Ret (.bool (p x)))):
  CX Tryz.prog 193 #[.slice a l.length c,.func (.func g) #[] ca.toArray] m [] (Ret (.int .i64 (if l.any p then(l.findIdx p:Nat)else(-1:Int)))):=by
 apply ZbH a l.length c g [] ca
 refine⟨λxs _ _ m'' q=>∃i:Nat,i<=l.length/\xs=[.int .i64 i]/\(∀x∈l.take i,p x=false)/\q=l.length - i,⟨l.length,0,by omega,rfl,by simp,by omega⟩,?_⟩
 rintro n m' q hm ⟨i,hi,hn,eT,hq⟩
 obtain rfl:n=i:=by simpa using hn
 refine Zab (λaH=>?_) (λbL=>?_)
 ·have aS:i < l.length:=by simpa using aH
  obtain⟨x,hx⟩:∃x,l[i]?=some x:=⟨_,zA3 aS⟩
  have bO:x∈l:=zA2 hx
  obtain⟨b1,o1,ha,eA⟩:=ZcS (hr.mono hm) hx
  refine⟨b1,o1,ha,⟨by omega,by omega⟩,_,eA,Zah (hp x bO m' hm) λm1 aB=>Zab (λeS=>?_) (λeS=>?_)⟩
  ·refine Zac (mLt hm aB) ?_
   have dT:l.any p=true:=List.any_eq_true.2 ⟨x,bO,eS⟩
   have eY:l.findIdx p=i:=by
    rw[List.findIdx_eq aS]
    refine⟨by rw[(zA0 hx).2];exact eS,λj hj=>?_⟩
    exact eT _ (List.mem_of_getElem? (i:=j) (by rw[List.getElem?_take_of_lt hj];exact zA3 (by omega)))
   simp[Ret,dT,eY]
  ·refine⟨l.length - (i+1),by omega,i+1,by omega,by rw[Zam (by omega) (by omega)];rfl,?_,rfl⟩
   intro y hy
   rw[List.take_add_one,hx]at hy
   rcases List.mem_append.1 hy with hy|hy
   ·exact eT y hy
   ·simp at hy;rw[hy];exact eS
 ·have hi':i=l.length:=by
   have:¬((i:Int) < (l.length:Int)):=by simpa using bL
   omega
  subst hi'
  refine Zac hm ?_
  have dT:l.any p=false:=by
   rw[List.any_eq_false]
   rw[List.take_length]at eT
   exact λx hx=>by simp[eT x hx]
  simp[Ret,dT]
theorem Zgw(l:List ByteArray)(a:Option Addr)(c:Nat)(g:Nat)(ca:List Value)(p:ByteArray->Bool)(m:Mem)(hl:l.length<=1000000000000000)(hr:rowRd m a (ZfG l))
  (hp:∀x∈l,∀m',m.le m'->CX Tryz.prog g (.string x::ca).toArray m' [] (Ret (.bool (p x)))):
  CX Tryz.prog 171 #[.slice a l.length c,.func (.func g) #[] ca.toArray] m [] (Ret (.bool (l.any p))):=by
 apply Zbn a l.length c g [] ca
 refine ZaB (ZkT l a c g ca p m hl hr hp) λm' hm=>Zac hm ?_
 cases h:l.any p <;> simp[Ret]
end Go.Proofs.YtdopppmkbkkmiaaGreatDoor
namespace Go.Proofs.YtdopppmkbkkmiaaGreatDoor
open Go Go.Eng Go.Rx Go.Proofs Go.RowKit Go.Shelf
set_option maxRecDepth 100000
def ZAh:Ren:=⟨fun|125=>106|128=>156|129=>157|189=>81|215=>179|216=>153|257=>105|294=>147|295=>148|296=>149|297=>150|298=>151|299=>152|300=>154|301=>155|328=>174|329=>175|330=>176|331=>177|332=>178|343=>194|n=>n,
 fun|0=>0|3=>3|4=>4|5=>5|9=>9|28=>88|46=>181|51=>221|53=>35|131=>155|182=>213|183=>214|218=>232|222=>236|228=>249|229=>250|n=>n,λn=>n⟩
theorem Ztp:Lays.n189 Tryz.prog ZAh:=
 {mixed:=mix
  f125:=by kernel_rfl,f128:=by kernel_rfl,f129:=by kernel_rfl,f189:=by kernel_rfl,f215:=by kernel_rfl,f216:=by kernel_rfl,f257:=by kernel_rfl,f294:=by kernel_rfl,f295:=by kernel_rfl,f296:=by kernel_rfl,f297:=by kernel_rfl
  f298:=by kernel_rfl,f299:=by kernel_rfl,f300:=by kernel_rfl,f301:=by kernel_rfl,f328:=by kernel_rfl,f329:=by kernel_rfl,f330:=by kernel_rfl,f331:=by kernel_rfl,f332:=by kernel_rfl,f343:=by kernel_rfl
  t0:=by kernel_rfl,a0:=Tryz.isAgg0,z0:=Tryz.sizeOf0,v0:=Tryz.zeroValue0
  t3:=by kernel_rfl,a3:=Tryz.isAgg3,z3:=Tryz.sizeOf3,v3:=Tryz.zeroValue3
  t4:=by kernel_rfl,a4:=Tryz.isAgg4,z4:=Tryz.sizeOf4,v4:=Tryz.zeroValue4
  t5:=by kernel_rfl,a5:=Tryz.isAgg5,z5:=Tryz.sizeOf5,v5:=Tryz.zeroValue5
  t9:=by kernel_rfl,a9:=Tryz.isAgg9,z9:=Tryz.sizeOf9,v9:=Tryz.zeroValue9
  t28:=by kernel_rfl,a28:=Tryz.isAgg88,z28:=Tryz.sizeOf88,v28:=Tryz.zeroValue88
  t46:=by kernel_rfl,a46:=Tryz.isAgg181,z46:=Tryz.sizeOf181,v46:=Tryz.zeroValue181
  t51:=by kernel_rfl,a51:=Tryz.isAgg221,z51:=Tryz.sizeOf221,v51:=Tryz.zeroValue221
  t53:=by kernel_rfl,a53:=Tryz.isAgg35,z53:=Tryz.sizeOf35,v53:=Tryz.zeroValue35
  t131:=by kernel_rfl,a131:=Tryz.isAgg155,z131:=Tryz.sizeOf155,v131:=Tryz.zeroValue155
  t182:=by kernel_rfl,a182:=Tryz.isAgg213,z182:=Tryz.sizeOf213,v182:=Tryz.zeroValue213
  t183:=by kernel_rfl,a183:=Tryz.isAgg214,z183:=Tryz.sizeOf214,v183:=Tryz.zeroValue214
  t218:=by kernel_rfl,a218:=Tryz.isAgg232,z218:=Tryz.sizeOf232,v218:=Tryz.zeroValue232
  t222:=by kernel_rfl,a222:=Tryz.isAgg236,z222:=Tryz.sizeOf236,v222:=Tryz.zeroValue236
  t228:=by kernel_rfl,a228:=Tryz.isAgg249,z228:=Tryz.sizeOf249,v228:=Tryz.zeroValue249
  t229:=by kernel_rfl,a229:=Tryz.isAgg250,z229:=Tryz.sizeOf250,v229:=Tryz.zeroValue250 }
def ZcX(l:List Int):List Value:=l.map (Value.int .i64)
abbrev Yi(v:Value):Nat->Prop:=λk=>(Tok.mk v 1).blk=some k
theorem ZkU(zs:List Int)(a:Option Addr)(c N:Nat)(m:Mem)(hr:rowRd m a (ZcX zs))(hl:zs.length<=100000)(hN:zs.length<=N):
  CXY Tryz.prog 81 #[.slice a zs.length c] m (Yi (.slice a N c)) [] [⟨.slice a N c,1⟩]
   (λv m' css tvs=>v=.tuple #[]/\css=[]/\tvs=[.slice a N c]/\rowRd m' a (ZcX (ZpK zs))):=
 ZjO (Value.int .i64) (vf:=λ_=>.tuple #[]) (Go.Eng.ZgZ Tryz.func81 (by kernel_rfl) (by kernel_rfl)) hr (ZkH zs) hN
  (λ_ w=>Any.slices_Sort_int_none Ztp a c w)
  (λ_ b o w _ _ hH hb=>Any.slices_Sort_int Ztp b o c zs w hH hb (by omega))
theorem Zno(zs:List Int)(a:Option Addr)(c:Nat)(m:Mem)(hr:rowRd m a (ZcX zs))(hl:zs.length<=100000):
  CXY Tryz.prog 81 #[.slice a zs.length c] m (Yi (.slice a zs.length c)) [] [⟨.slice a zs.length c,1⟩]
   (λv m' css tvs=>v=.tuple #[]/\css=[]/\tvs=[.slice a zs.length c]/\rowRd m' a (ZcX (ZpK zs))):=ZkU zs a c zs.length m hr hl (Nat.le_refl _)
def ZDy:Ren:=⟨fun|43=>82|n=>n,fun|0=>0|3=>3|4=>4|22=>88|23=>3|n=>n,λn=>n⟩
theorem ZjR:SlLaysE.n43 Tryz.prog ZDy:=
 {mixed:=mix,f43:=⟨Tryz.f82.name,by kernel_rfl,by kernel_rfl⟩
  t0:=by kernel_rfl,a0:=Tryz.isAgg0,z0:=Tryz.sizeOf0,v0:=Tryz.zeroValue0
  t3:=Tryz.underlying3,a3:=Tryz.isAgg3,z3:=Tryz.sizeOf3,v3:=Tryz.zeroValue3
  t4:=Tryz.underlying4,a4:=Tryz.isAgg4,z4:=Tryz.sizeOf4,v4:=Tryz.zeroValue4
  t22:=Tryz.underlying88,a22:=Tryz.isAgg88,z22:=Tryz.sizeOf88,v22:=Tryz.zeroValue88
  a23:=Tryz.isAgg3,z23:=Tryz.sizeOf3 }
section
variable {P:Program} {ρ:Ren}
set_option maxHeartbeats 1000000 in
theorem Znp(L:SlLaysE.n43 P ρ)(a:Option Addr)(cap:Nat)(w:World):Calls P (ρ.f 43) #[.slice a 0 cap] w λe w'=>e=.returned (.slice a 0 cap)/\w'=w:=by
 have mixed:=L.mixed;have t0:=L.t0;have a0:=L.a0;have z0:=L.z0;have v0:=L.v0;have t3:=L.t3;have a3:=L.a3;have z3:=L.z3;have v3:=L.v3;have t4:=L.t4;have a4:=L.a4;have z4:=L.z4;have v4:=L.v4;have t22:=L.t22;have a22:=L.a22;have z22:=L.z22;have v22:=L.v22;have a23:=L.a23;have z23:=L.z23
 obtain⟨_,_,FG⟩:=L.f43
 go_enter FG,SlBodyN.n43_ntmps ρ
 go_wp2
 go_ret
 exact⟨rfl,rfl⟩
end
theorem Zp4(zs:List Int):(Go.Lib.compact zs).length<=zs.length:=by
 unfold Go.Lib.compact Go.Lib.compactUpTo
 rw[List.length_map]
 exact Nat.le_trans (List.length_filter_le _ _) (by rw[List.length_range];exact Nat.le_refl _)
theorem Zgx(zs:List Int)(a:Option Addr)(c N:Nat)(m:Mem)(hr:rowRd m a (ZcX zs))(hl:zs.length<=100000)(hN:zs.length<=N):
  CXY Tryz.prog 82 #[.slice a zs.length c] m (Yi (.slice a N c)) [] [⟨.slice a N c,1⟩]
   (λv m' css tvs=>v=.slice a (Go.Lib.compact zs).length c/\css=[]/\tvs=[.slice a N c]/\rowRd m' a (ZcX (Go.Lib.compact zs++List.replicate (zs.length - (Go.Lib.compact zs).length) 0))):=by
 have eW:=Zp4 zs
 refine ZjO (Value.int .i64) (vf:=λa=>.slice a (Go.Lib.compact zs).length c) (Go.Eng.ZgZ Tryz.func82 (by kernel_rfl) (by kernel_rfl)) hr (by rw[zA1,List.length_replicate];omega) hN
  (λh w=>?_) (λ_ b o w ha hc hH hb=>?_)
 ·subst h;exact Znp ZjR a c w
 ·refine(AnyE.slices_Compact ZjR (Value.int .i64) (λ_=>rfl) (EqlAt.intD _ _ _) (NeqAt.intD _ _ _) 0 (λw=>Tryz.zeroValue3 w) b o c zs.toArray w hH (by simp;omega) (by simpa using hc)).mono ?_
  rintro e w' ⟨h1,q,h2⟩
  refine⟨by rw[h1,ha];rfl,q,#[],?_⟩
  rw[h2,Zw8]
  rfl
theorem ZhE(zs:List Int)(a:Option Addr)(c:Nat)(m:Mem)(hr:rowRd m a (ZcX zs))(hl:zs.length<=100000):
  CXY Tryz.prog 82 #[.slice a zs.length c] m (Yi (.slice a zs.length c)) [] [⟨.slice a zs.length c,1⟩]
   (λv m' css tvs=>v=.slice a (Go.Lib.compact zs).length c/\css=[]/\tvs=[.slice a zs.length c]/\rowRd m' a (ZcX (Go.Lib.compact zs++List.replicate (zs.length - (Go.Lib.compact zs).length) 0))):=Zgx zs a c zs.length m hr hl (Nat.le_refl _)
end Go.Proofs.YtdopppmkbkkmiaaGreatDoor
namespace Go.Proofs.YtdopppmkbkkmiaaGreatDoor
open Go Go.Eng Go.Proofs Go.RowKit
open Go.Value (int slice agg bool string tuple func)
open Go.IntKind (u8 u64 i64)
set_option maxRecDepth 100000
def Zp5:Env:={ EB with
 loops:=swI nLa [(3,⟨[(12,.int .i64)],[],[],false⟩)]
 dr:=swI [] [(5,[⟨0,[1],[],none,[],[]⟩,⟨1,[1],[],none,[0],[]⟩,dO 2 [],⟨3,[4],[],none,[],[]⟩,dO 4 [3],dO 5 [0,1,2,3,4]])]
 thaw:=true
 stAt:=swI none [(22,some 7)]
 last:=swI false [(5,true)]
 tokC:=swI none [(7,some (7,8))] }
theorem Znq(aA aE aJ aK bA aX aW:Int)(aU:Option Addr)(aR aV:Nat)(m:Mem)(R:RT)(h:
 ∀b b_1,∃R_1,CXT pG 115 (.mk [slice aU aR aV]) m 8 R_1/\ZaU .slice R_1/\∀a n c m',lX (slice a n c) λyL=>lV [int u8 aA,int u64 aE,int u64 aJ,int u64 aK,int u64 bA,int i64 aX,int i64 aW,yL]
 λxL=>m.le m'->R_1 yL m' []->∃I,inI I [int i64 0] [] [] m'/\∀(n_1:Int)(m':Mem)(n_2:Nat),lE (Int.toNat n_1*8) λyL_1=>True->I [int i64 n_1] [] [] m' n_2->br (decide (n_1 < (↑n:Int))) (atA a λb_2 o=>
 Zaf n_1 n/\∃v v_1 v_2 v_3 v_4 v_5 v_6 v_7:Value,lV [v,v_1,v_2,v_3,v_4,v_5,v_6,v_7] λxL_1=>m'.reads b_2 (o+yL_1) xL_1/\∀(b_3:Nat),chk (v.oneCell'&&(v_1.oneCell'&&(v_2.oneCell'&&(v_3.oneCell' &&
 (v_4.oneCell'&&(v_5.oneCell'&&(v_6.oneCell'&&(v_7.oneCell'&&true)))))))) (∃(f:Fx),∃R,R=f 4 [agg (.mk xL_1)] m'/\CX pG 94 (.mk [agg (.mk xL_1)]) m' [] R/\ZaU (shT) R/\∀n_3 n_4 n_5 n_6 n_7 n_8 n_9 a_5 n_10 c_1
 m'_1,lV [int u8 n_3,int u64 n_4,int u64 n_5,int u64 n_6,int u64 n_7,int i64 n_8,int i64 n_9,slice a_5 n_10 c_1] λxL_2=>m'.le m'_1->R (agg (.mk xL_2)) m'_1 []->atA a λb_4 o=>Zaf n_1 n/\∀M,m'.le M->
 m'_1.le M->yL=slice (some (Addr.mk b_4 0 none)) n c/\o+yL_1+8<=n*8/\Zae [some (Box.mk b_1 [int u8 0,int u64 0,int u64 0,int u64 0,int u64 0,int i64 0,int i64 0,slice none 0 0] 40 8 false true),some (Box.mk b
 xL 40 8 false true)]/\[some (Tok.mk yL 8)]=[some (Tok.mk yL 8)]/\nxI n_2 I [int i64 (i64.wrap (n_1+1))] [] [] (Mem.upd M b_4 (o+yL_1) xL_2))) (rtM m m' R (agg (.mk xL)))):CX Tryz.prog 94 #[.agg #[.int .u8 aA,.int .u64 aE,.int .u64 aJ,.int .u64 aK,.int .u64 bA,.int .i64 aX,.int .i64 aW,.slice aU aR aV]] m [] R:=
 Zad (E:=Zp5) Zal mix Tryz.func94 (by kernel_rfl) (Eq.mp (by kernel_rfl) h)
def Zb2:Env:={ EB with
 tokOf:=swI 0 [(2,7),(7,7)]
 tokC:=swI none [(5,some (7,8))]
 thaw:=true }
theorem ZbN(p0a:Option Addr)(p0n p0c:Nat)(m:Mem)(R:RT)(h:
 lE (0+p0n) λyL=>br (Option.isNone p0a) (slice none 0 0=slice none 0 0/\R (slice none 0 0) m []) (((0:Int)=(0:Int)/\(0:Int)<=0/\(0:Int)*(↑(80:Nat):Int)<=281474976710656/\(0:Int) <=
 9223372036854775807)/\∀(b:Nat),lX (slice (some (Addr.mk b 0 none)) 0 (Int.toNat (0:Int))) λyL_1=>m.free b->Mem.k m b=none->(Tok.mk yL_1 8=Tok.mk yL_1 8\/yL_1=slice none 0 0\/Int.toNat (0:Int) < yL)/\∃(xs
 : List Value),∃(ys:List Value),xs.length=0*8/\ys.length=p0n*8/\rowRd m (some (Addr.mk b 0 none)) xs/\rowRd m p0a ys/\(∀(u:Value),u∈ys->u.oneCell'=true)/\yL*80<=140737488355328/\yL <=
 9223372036854775807/\∀a' c' m',lE (some (Tok.mk (slice a' yL c') 8)) λyL_2=>m.le m'->rowRd m' a' (List.append xs ys)->TokFact m (some (Addr.mk b 0 none)) a' yL c'->yL_2=yL_2/\R (slice a' yL c') m' [])):CXT Tryz.prog 115 #[.slice p0a p0n p0c] m 8 R:=
 Ziu (E:=Zb2) Zal mix Tryz.func115 [.v (.slice p0a p0n p0c)] (by kernel_rfl) (Eq.mp (by kernel_rfl) h)
def Zu2:Env:={ EB with
 frzNew:=[1] }
theorem ZrS(aA aE aJ aK bA aX aW:Int)(aU:Option Addr)(aR aV:Nat)(m:Mem)(R:RT)(h:
 lV [int u8 aA,int u64 aE,int u64 aJ,int u64 aK,int u64 bA,int i64 aX,int i64 aW,slice aU aR aV] λxL=>fzM m xL λb m'=>∀(b:Nat),kB pG 37 [agg (.mk xL)] m' λb m'=>br (!b) (rtM m m' R
 (agg (.mk [int u8 0,int u64 0,int u64 0,int u64 0,int u64 0,int i64 0,int i64 0,slice none 0 0]))) (∃R_1,True/\CX pG 94 (.mk [agg (.mk xL)]) m' [] R_1/\ZaU (shT) R_1/\∀n n_1 n_2 n_3 n_4 n_5 n_6 a n_7 c m'_1,lX (agg
 (.mk [int u8 n,int u64 n_1,int u64 n_2,int u64 n_3,int u64 n_4,int i64 n_5,int i64 n_6,slice a n_7 c])) λyL=>m'.le m'_1->R_1 yL m'_1 []->rtM m m'_1 R yL)):CX Tryz.prog 64 #[.agg #[.int .u8 aA,.int .u64 aE,.int .u64 aJ,.int .u64 aK,.int .u64 bA,.int .i64 aX,.int .i64 aW,.slice aU aR aV]] m [] R:=
 Zad (E:=Zu2) Zal mix Tryz.func64 (by kernel_rfl) (Eq.mp (by kernel_rfl) h)
def Zbx:Env:={ EB with
 tokOf:=swI 0 [(2,7),(7,7)]
 tokC:=swI none [(5,some (7,5))]
 thaw:=true }
theorem Zbo(p0a:Option Addr)(p0n p0c:Nat)(m:Mem)(R:RT)(h:
 lE (0+p0n) λyL=>br (Option.isNone p0a) (slice none 0 0=slice none 0 0/\R (slice none 0 0) m []) (((0:Int)=(0:Int)/\(0:Int)<=0/\(0:Int)*(↑(64:Nat):Int)<=281474976710656/\(0:Int) <=
 9223372036854775807)/\∀(b:Nat),lX (slice (some (Addr.mk b 0 none)) 0 (Int.toNat (0:Int))) λyL_1=>m.free b->Mem.k m b=none->(Tok.mk yL_1 5=Tok.mk yL_1 5\/yL_1=slice none 0 0\/Int.toNat (0:Int) < yL)/\∃(xs
 : List Value),∃(ys:List Value),xs.length=0*5/\ys.length=p0n*5/\rowRd m (some (Addr.mk b 0 none)) xs/\rowRd m p0a ys/\(∀(u:Value),u∈ys->u.oneCell'=true)/\yL*64<=140737488355328/\yL <=
 9223372036854775807/\∀a' c' m',lE (some (Tok.mk (slice a' yL c') 5)) λyL_2=>m.le m'->rowRd m' a' (List.append xs ys)->TokFact m (some (Addr.mk b 0 none)) a' yL c'->yL_2=yL_2/\R (slice a' yL c') m' [])):CXT Tryz.prog 116 #[.slice p0a p0n p0c] m 5 R:=
 Ziu (E:=Zbx) Zal mix Tryz.func116 [.v (.slice p0a p0n p0c)] (by kernel_rfl) (Eq.mp (by kernel_rfl) h)
def ZiV:Env:={ EB with
 loops:=swI nLa [(3,⟨[(14,.int .i64)],[],[],false⟩)]
 dr:=swI [] [(5,[⟨0,[2],[],none,[],[]⟩,⟨1,[2],[],none,[0],[]⟩,dO 2 [],⟨3,[6],[],none,[],[]⟩,dO 4 [],dO 5 [3,4],dO 6 [0,1,2,3,4,5]])]
 thaw:=true
 stAt:=swI none [(25,some 9)]
 last:=swI false [(5,true)]
 tokC:=swI none [(9,some (9,5))] }
theorem ZhF(aA:Int)(aE:Value)(aJ:ByteArray)(aK:Int)(bC:Option Addr)(aY bE p1g:Nat)(p1fi p1ca:List Value)(m:Mem)(R:RT)(h:
 ∀b b_1,∃R_1,lV [func (Fn.func p1g) (Array.mk p1fi) (Array.mk p1ca)] λxL=>CXT pG 116 (.mk [slice bC aY bE]) m 5 R_1/\ZaU .slice R_1/\∀a n c m',lX (slice a n c) λyL=>lV [int u8 aA,aE,string aJ,
 int i64 aK,yL] λxL_1=>m.le m'->R_1 yL m' []->∃I,inI I [int i64 0] [] [] m'/\∀(n_1:Int)(m':Mem)(n_2:Nat),lE (Int.toNat n_1*5) λyL_1=>True->I [int i64 n_1] [] [] m' n_2->br (decide (n_1 < (↑n:Int)))
 (atA a λb_2 o=>Zaf n_1 n/\∃v v_1 v_2 v_3 v_4:Value,lV [v,v_1,v_2,v_3,v_4] λxL_2=>m'.reads b_2 (o+yL_1) xL_2/\∀(b_3:Nat),chk (v.oneCell'&&(v_1.oneCell'&&(v_2.oneCell'&&(v_3.oneCell' &&
 (v_4.oneCell'&&true))))) (∃(f:Fx),∃R,R=f 5 (agg (.mk xL_2)::xL) m'/\CX pG 95 (.mk (agg (.mk xL_2)::xL)) m' [] R/\ZaU (.agg [.int u8,.any,.str,.int i64,.slice]) R/\∀n_3 (v:Value) s n_4 a_5 n_5 c_1 m'_1,lV
 [int u8 n_3,v,string s,int i64 n_4,slice a_5 n_5 c_1] λxL=>m'.le m'_1->R (agg (.mk xL)) m'_1 []->atA a λb_4 o=>Zaf n_1 n/\∀M,m'.le M->m'_1.le M->chk (v.oneCell'&&true) (yL=slice (some (Addr.mk b_4 0
 none)) n c/\o+yL_1+5<=n*5/\Zae [some (Box.mk b_1 [int u8 0,Value.float .f64 0,string bE0,int i64 0,slice none 0 0] 52 5 false true),some (Box.mk b xL_1 52 5 false true)]/\[some (Tok.mk yL 5)]=[some (Tok.mk yL
 5)]/\nxI n_2 I [int i64 (i64.wrap (n_1+1))] [] [] (Mem.upd M b_4 (o+yL_1) xL)))) (∃R_2,True/\CX pG p1g (Array.mk (List.append (List.append p1fi [agg (.mk xL_1)]) p1ca)) m' [] R_2/\ZaU (.agg [.int u8,.any,.str,.int
 i64,.slice]) R_2/\∀n (v:Value) s n_3 a n_4 c m'_1,lX (agg (.mk [int u8 n,v,string s,int i64 n_3,slice a n_4 c])) λyL=>m'.le m'_1->R_2 yL m'_1 []->chk (v.oneCell'&&true) (rtM m m'_1 R yL))):CX Tryz.prog 95 #[.agg #[.int .u8 aA,aE,.string aJ,.int .i64 aK,.slice bC aY bE],.func (.func p1g) p1fi.toArray p1ca.toArray] m [] R:=
 Zad (E:=ZiV) Zal mix Tryz.func95 (by kernel_rfl) (Eq.mp (by kernel_rfl) h)
def ZkV:Env:={ EB with
 frzNew:=[1] }
theorem ZiW(aA:Int)(aE:Value)(aJ:ByteArray)(aK:Int)(bC:Option Addr)(aY bE:Nat)(m:Mem)(R:RT)(h:
 lV [int u8 aA,aE,string aJ,int i64 aK,slice bC aY bE] λxL=>fzM m xL λb m'=>∀(b:Nat),chk (aE.oneCell'&&true) (rtM m m' R (agg (.mk xL)))):CX Tryz.prog 96 #[.agg #[.int .u8 aA,aE,.string aJ,.int .i64 aK,.slice bC aY bE]] m [] R:=
 Zad (E:=ZkV) Zal mix Tryz.func96 (by kernel_rfl) (Eq.mp (by kernel_rfl) h)
def Zp6:Env:={ EB with
 frzNew:=[1] }
theorem Znr(aA:Int)(aE:Value)(aJ:ByteArray)(aK:Int)(bC:Option Addr)(aY bE:Nat)(m:Mem)(R:RT)(h:
 lV [int u8 aA,aE,string aJ,int i64 aK,slice bC aY bE] λxL=>fzM m xL λb m'=>∀(b:Nat),kB pG 92 [agg (.mk xL)] m' λb m'=>br (!b) (rtM m m' R (agg (.mk [int u8 0,Value.float .f64 0,string bE0,
 int i64 0,slice none 0 0]))) (∃R_1,True/\CX pG 95 (.mk [agg (.mk xL),func (Fn.func 96) (Array.mk []) (Array.mk [])]) m' [] R_1/\ZaU (.agg [.int u8,.any,.str,.int i64,.slice]) R_1/\∀n (v:Value) s n_1 a n_2 c m'_1,lX
 (agg (.mk [int u8 n,v,string s,int i64 n_1,slice a n_2 c])) λyL=>m'.le m'_1->R_1 yL m'_1 []->chk (v.oneCell'&&true) (rtM m m'_1 R yL))):CX Tryz.prog 67 #[.agg #[.int .u8 aA,aE,.string aJ,.int .i64 aK,.slice bC aY bE]] m [] R:=
 Zad (E:=Zp6) Zal mix Tryz.func67 (by kernel_rfl) (Eq.mp (by kernel_rfl) h)
def ZeX:Env:=EB
theorem ZeB(aA:Int)(aE:ByteArray)(aJ aK:Int)(bA:Value)(aX:ByteArray)(aW:Int)(aU:Option Addr)(aR aV:Nat)(m:Mem)(R:RT)(h:
 ∀(b b:Nat),∃R_1,True/\CX pG 67 (.mk [agg (.mk [int u8 aK,bA,string aX,int i64 aW,slice aU aR aV])]) m [] R_1/\ZaU (.agg [.int u8,.any,.str,.int i64,.slice]) R_1/\∀n (v:Value) s n_1 a n_2 c m',
 lV [int u8 n,v,string s,int i64 n_1,slice a n_2 c] λxL=>m.le m'->R_1 (agg (.mk xL)) m' []->chk (v.oneCell'&&true) (chk (v.oneCell'&&true) (rtM m m' R (agg (.mk (int u8 aA::string aE::int i64 aJ::xL)))))):CX Tryz.prog 69 #[.agg #[.int .u8 aA,.string aE,.int .i64 aJ,.int .u8 aK,bA,.string aX,.int .i64 aW,.slice aU aR aV]] m [] R:=
 Zad (E:=ZeX) Zal mix Tryz.func69 (by kernel_rfl) (Eq.mp (by kernel_rfl) h)
def Zco:Env:={ EB with
 loops:=swI nLa [(3,⟨[(5,.slice),(10,.int .i64)],[],[(19,8)],false⟩)]
 tokOf:=swI 0 [(19,19)]
 thaw:=true }
theorem Zci(p0a:Option Addr)(p0n p0c p1g:Nat)(p1fi p1ca:List Value)(m:Mem)(R:RT)(h:
 ∃I,inI I [slice none 0 0,int i64 0] [] [slice none 0 0] m/\∀a n c n_1 a_1 n_2 c_1 (m':Mem) (n_3:Nat),lX (slice a n c) λyL=>lE (n+1) λyL_1=>True->I [yL,int i64 n_1] [] [slice a_1 n_2 c_1] m' n_3->br (decide
 (n_1 < (↑p0n:Int))) (atA p0a λb o=>Zaf n_1 p0n/\∃v v_1 v_2 v_3 v_4 v_5 v_6 v_7:Value,lV [v,v_1,v_2,v_3,v_4,v_5,v_6,v_7] λxL=>m'.reads b (o+Int.toNat n_1*8) xL/\∀(b:Nat),chk (v.oneCell' &&
 (v_1.oneCell'&&(v_2.oneCell'&&(v_3.oneCell'&&(v_4.oneCell'&&(v_5.oneCell'&&(v_6.oneCell'&&(v_7.oneCell'&&true)))))))) (∃R,True/\CX pG p1g (Array.mk (List.append (List.append p1fi [agg (.mk xL)]) p1ca)) m' [] R/\
 ZaU (.agg [.int u8,.str,.int i64,.int u8,.any,.str,.int i64,.slice]) R/\∀n_4 s n_5 n_6 (v:Value) s_1 n_7 a_4 n_8 c_2 m'_1,lV [int u8 n_4,string s,int i64 n_5,int u8 n_6,v,string s_1,int i64 n_7,slice a_4 n_8
 c_2] λxL=>m'.le m'_1->R (agg (.mk xL)) m'_1 []->∀b,lM (m'_1.add b xL) λmL=>m'_1.free b->(Tok.mk (slice a_1 n_2 c_1) 8=Tok.mk yL 8\/yL=slice none 0 0\/c < yL_1)/\∃(xs:List Value),∃(ys:List Value),
 xs.length=n*8/\ys.length=1*8/\rowRd mL a xs/\rowRd mL (some (Addr.mk b 0 none)) ys/\(∀(u:Value),u∈ys->u.oneCell'=true)/\yL_1*96<=140737488355328/\yL_1<=9223372036854775807/\∀(a':Option Addr) (c':
 Nat) m',mL.le m'->rowRd m' a' (List.append xs ys)->TokFact mL a a' yL_1 c'->nxI n_3 I [slice a' yL_1 c',int i64 (i64.wrap (n_1+1))] [] [slice a' yL_1 c'] m')) (rtM m m' R yL)):CX Tryz.prog 68 #[.slice p0a p0n p0c,.func (.func p1g) p1fi.toArray p1ca.toArray] m [] R:=
 Zad (E:=Zco) Zal mix Tryz.func68 (by kernel_rfl) (Eq.mp (by kernel_rfl) h)
def Zgy:Env:=EB
theorem ZfH(aA:Int)(aE:ByteArray)(aG:Option Addr)(aD aN:Nat)(aK:Int)(bA:Value)(aX:ByteArray)(aW:Int)(aU:Option Addr)(aR aV:Nat)(m:Mem)(R:RT)(h:
 ∀(b b:Nat),∃R_1,True/\CX pG 67 (.mk [agg (.mk [int u8 aK,bA,string aX,int i64 aW,slice aU aR aV])]) m [] R_1/\ZaU (.agg [.int u8,.any,.str,.int i64,.slice]) R_1/\∀n (v:Value) s n_1 a n_2 c m',
 lV [int u8 n,v,string s,int i64 n_1,slice a n_2 c] λxL=>m.le m'->R_1 (agg (.mk xL)) m' []->chk (v.oneCell'&&true) (kS pG 68 [slice aG aD aN,func (Fn.func 69) (Array.mk []) (Array.mk [])] m' λa n c m'=>
 chk (v.oneCell'&&true) (rtM m m' R (agg (.mk (int u8 aA::string aE::slice a n c::xL)))))):CX Tryz.prog 66 #[.agg #[.int .u8 aA,.string aE,.slice aG aD aN,.int .u8 aK,bA,.string aX,.int .i64 aW,.slice aU aR aV]] m [] R:=
 Zad (E:=Zgy) Zal mix Tryz.func66 (by kernel_rfl) (Eq.mp (by kernel_rfl) h)
def ZbO:Env:={ EB with
 loops:=swI nLa [(3,⟨[(5,.slice),(10,.int .i64)],[],[(19,8)],false⟩)]
 tokOf:=swI 0 [(19,19)]
 thaw:=true }
theorem ZbI(p0a:Option Addr)(p0n p0c p1g:Nat)(p1fi p1ca:List Value)(m:Mem)(R:RT)(h:
 ∃I,inI I [slice none 0 0,int i64 0] [] [slice none 0 0] m/\∀a n c n_1 a_1 n_2 c_1 (m':Mem) (n_3:Nat),lX (slice a n c) λyL=>lE (n+1) λyL_1=>True->I [yL,int i64 n_1] [] [slice a_1 n_2 c_1] m' n_3->br (decide
 (n_1 < (↑p0n:Int))) (atA p0a λb o=>Zaf n_1 p0n/\∃v v_1 v_2 v_3 v_4 v_5 v_6 v_7:Value,lV [v,v_1,v_2,v_3,v_4,v_5,v_6,v_7] λxL=>m'.reads b (o+Int.toNat n_1*8) xL/\∀(b:Nat),chk (v.oneCell' &&
 (v_1.oneCell'&&(v_2.oneCell'&&(v_3.oneCell'&&(v_4.oneCell'&&(v_5.oneCell'&&(v_6.oneCell'&&(v_7.oneCell'&&true)))))))) (∃R,True/\CX pG p1g (Array.mk (List.append (List.append p1fi [agg (.mk xL)]) p1ca)) m' [] R/\
 ZaU (.agg [.int u8,.str,.slice,.int u8,.any,.str,.int i64,.slice]) R/\∀n_4 s a_4 n_5 c_2 n_6 (v:Value) s_1 n_7 a_5 n_8 c_3 m'_1,lV [int u8 n_4,string s,slice a_4 n_5 c_2,int u8 n_6,v,string s_1,int i64 n_7,
 slice a_5 n_8 c_3] λxL=>m'.le m'_1->R (agg (.mk xL)) m'_1 []->∀b,lM (m'_1.add b xL) λmL=>m'_1.free b->(Tok.mk (slice a_1 n_2 c_1) 8=Tok.mk yL 8\/yL=slice none 0 0\/c < yL_1)/\∃(xs:List Value),∃(ys:List
 Value),xs.length=n*8/\ys.length=1*8/\rowRd mL a xs/\rowRd mL (some (Addr.mk b 0 none)) ys/\(∀(u:Value),u∈ys->u.oneCell'=true)/\yL_1*112<=140737488355328/\yL_1<=9223372036854775807/\∀(a':Option Addr)
 (c':Nat) m',mL.le m'->rowRd m' a' (List.append xs ys)->TokFact mL a a' yL_1 c'->nxI n_3 I [slice a' yL_1 c',int i64 (i64.wrap (n_1+1))] [] [slice a' yL_1 c'] m')) (rtM m m' R yL)):CX Tryz.prog 65 #[.slice p0a p0n p0c,.func (.func p1g) p1fi.toArray p1ca.toArray] m [] R:=
 Zad (E:=ZbO) Zal mix Tryz.func65 (by kernel_rfl) (Eq.mp (by kernel_rfl) h)
def ZiX:Env:=EB
theorem ZhG(aA:Int)(aE aJ:Bool)(aK bA aX aW dY dZ eM:Int)(cH:Option Addr)(cI cJ:Nat)(dC:ByteArray)(cY:Int)(cR:Option Addr)(cS cU:Nat)(dN:ByteArray)(dP:Int)(m:Mem)(R:RT)(h:
 ∀(b b:Nat),∃R_1,True/\CX pG 64 (.mk [agg (.mk [int u8 aK,int u64 bA,int u64 aX,int u64 aW,int u64 dY,int i64 dZ,int i64 eM,slice cH cI cJ])]) m [] R_1/\ZaU (shT) R_1/\∀n n_1 n_2 n_3 n_4
 n_5 n_6 a n_7 c m',m.le m'->R_1 (agg (.mk [int u8 n,int u64 n_1,int u64 n_2,int u64 n_3,int u64 n_4,int i64 n_5,int i64 n_6,slice a n_7 c])) m' []->kS pG 65 [slice cR cS cU,func (Fn.func 66) (Array.mk [])
 (Array.mk [])] m' λa_3 n_8 c_1 m'=>rtM m m' R (agg (.mk [int u8 aA,bool aE,bool aJ,int u8 n,int u64 n_1,int u64 n_2,int u64 n_3,int u64 n_4,int i64 n_5,int i64 n_6,slice a n_7 c,string dC,int i64 cY,
 slice a_3 n_8 c_1,string dN,int i64 dP]))):CX Tryz.prog 41 #[.agg #[.int .u8 aA,.bool aE,.bool aJ,.int .u8 aK,.int .u64 bA,.int .u64 aX,.int .u64 aW,.int .u64 dY,.int .i64 dZ,.int .i64 eM,.slice cH cI cJ,.string dC,.int .i64 cY,.slice cR cS cU,.string dN,.int .i64 dP]] m [] R:=
 Zad (E:=ZiX) Zal mix Tryz.func41 (by kernel_rfl) (Eq.mp (by kernel_rfl) h)
def Zcp:Env:={ EB with
 loops:=swI nLa [(3,⟨[(5,.slice),(10,.int .i64)],[],[(19,16)],false⟩)]
 tokOf:=swI 0 [(19,19)]
 thaw:=true }
theorem Zcj(p0a:Option Addr)(p0n p0c p1g:Nat)(p1fi p1ca:List Value)(m:Mem)(R:RT)(h:
 ∃I,inI I [slice none 0 0,int i64 0] [] [slice none 0 0] m/\∀a n c n_1 a_1 n_2 c_1 (m':Mem) (n_3:Nat),lX (slice a n c) λyL=>lE (n+1) λyL_1=>True->I [yL,int i64 n_1] [] [slice a_1 n_2 c_1] m' n_3->br (decide
 (n_1 < (↑p0n:Int))) (atA p0a λb o=>Zaf n_1 p0n/\∃v v_1 v_2 v_3 v_4 v_5 v_6 v_7 v_8 v_9 v_10 v_11 v_12 v_13 v_14 v_15:Value,lV [v,v_1,v_2,v_3,v_4,v_5,v_6,v_7,v_8,v_9,v_10,v_11,v_12,v_13,v_14,v_15] fun
 xL=>m'.reads b (o+Int.toNat n_1*16) xL/\∀(b:Nat),chk (v.oneCell'&&(v_1.oneCell'&&(v_2.oneCell'&&(v_3.oneCell'&&(v_4.oneCell'&&(v_5.oneCell'&&(v_6.oneCell'&&(v_7.oneCell'&&(v_8.oneCell'&&(v_9.oneCell'
 && (v_10.oneCell'&&(v_11.oneCell'&&(v_12.oneCell'&&(v_13.oneCell'&&(v_14.oneCell'&&(v_15.oneCell'&&true)))))))))))))))) (∃R,True/\CX pG p1g (Array.mk (List.append (List.append p1fi [agg (.mk xL)]) p1ca)) m' [] R/\
 ZaU (.agg [.int u8,.bool,.bool,.int u8,.int u64,.int u64,.int u64,.int u64,.int i64,.int i64,.slice,.str,.int i64,.slice,.str,.int i64]) R/\∀n_4 (b b_1:Bool) n_5 n_6 n_7 n_8 n_9 n_10 n_11 a_4 n_12 c_2 s n_13
 a_5 n_14 c_3 s_1 n_15 m'_1,lV [int u8 n_4,bool b,bool b_1,int u8 n_5,int u64 n_6,int u64 n_7,int u64 n_8,int u64 n_9,int i64 n_10,int i64 n_11,slice a_4 n_12 c_2,string s,int i64 n_13,slice a_5 n_14 c_3,string s_1,
 int i64 n_15] λxL=>m'.le m'_1->R (agg (.mk xL)) m'_1 []->∀b,lM (m'_1.add b xL) λmL=>m'_1.free b->(Tok.mk (slice a_1 n_2 c_1) 16=Tok.mk yL 16\/yL=slice none 0 0\/c < yL_1)/\∃(xs:List Value),∃(ys:List
 Value),xs.length=n*16/\ys.length=1*16/\rowRd mL a xs/\rowRd mL (some (Addr.mk b 0 none)) ys/\(∀(u:Value),u∈ys->u.oneCell'=true)/\yL_1*168<=140737488355328/\yL_1<=9223372036854775807/\∀(a':Option
 Addr) (c':Nat) m',mL.le m'->rowRd m' a' (List.append xs ys)->TokFact mL a a' yL_1 c'->nxI n_3 I [slice a' yL_1 c',int i64 (i64.wrap (n_1+1))] [] [slice a' yL_1 c'] m')) (rtM m m' R yL)):CX Tryz.prog 48 #[.slice p0a p0n p0c,.func (.func p1g) p1fi.toArray p1ca.toArray] m [] R:=
 Zad (E:=Zcp) Zal mix Tryz.func48 (by kernel_rfl) (Eq.mp (by kernel_rfl) h)
def Zns:Env:={ EB with
 dr:=swI [] [(1,[⟨0,[1],[],none,[],[]⟩,⟨1,[1],[],none,[0],[]⟩,⟨2,[1],[],none,[],[]⟩,⟨3,[1],[],none,[2],[]⟩,dO 4 [2,3],dO 5 [0,1,2,3,4],⟨6,[2],[2],none,[0,1,2,3,4,5],[]⟩])]
 frzNew:=[1] }
theorem ZkW(aA:ByteArray)(aI:Option Addr)(aF aM:Nat)(m:Mem)(R:RT)(h:
 lV [slice aI aF aM,func (Fn.func 41) (Array.mk []) (Array.mk [])] λxL=>fzM m [string aA,slice aI aF aM] λb m'=>∀(b:Nat),∃(f:Fx),∃R_1,R_1=f 4 xL m'/\CX pG 48 (.mk xL) m' [] R_1/\ZaU
 .slice R_1/\∀a n c m'_1,m'.le m'_1->R_1 (slice a n c) m'_1 []->∀M,m'.le M->m'_1.le M->rtM m M R (agg (.mk [string aA,slice a n c]))):CX Tryz.prog 47 #[.agg #[.string aA,.slice aI aF aM]] m [] R:=
 Zad (E:=Zns) Zal mix Tryz.func47 (by kernel_rfl) (Eq.mp (by kernel_rfl) h)
def Zb3:Env:={ EB with
 loops:=swI nLa [(3,⟨[(5,.slice),(10,.int .i64)],[],[(19,2)],false⟩)]
 tokOf:=swI 0 [(19,19)]
 thaw:=true }
theorem ZbY(p0a:Option Addr)(p0n p0c p1g:Nat)(p1fi p1ca:List Value)(m:Mem)(R:RT)(h:
 ∃I,inI I [slice none 0 0,int i64 0] [] [slice none 0 0] m/\∀a n c n_1 a_1 n_2 c_1 (m':Mem) (n_3:Nat),lX (slice a n c) λyL=>lE (n+1) λyL_1=>True->I [yL,int i64 n_1] [] [slice a_1 n_2 c_1] m' n_3->br (decide
 (n_1 < (↑p0n:Int))) (atA p0a λb o=>Zaf n_1 p0n/\∃v v_1:Value,m'.reads b (o+Int.toNat n_1*2) [v,v_1]/\∀(b:Nat),chk (v.oneCell'&&(v_1.oneCell'&&true)) (∃R,True/\CX pG p1g (Array.mk (List.append
 (List.append p1fi [agg (.mk [v,v_1])]) p1ca)) m' [] R/\ZaU (.agg [.str,.slice]) R/\∀s a_4 n_4 c_2 m'_1,lV [string s,slice a_4 n_4 c_2] λxL=>m'.le m'_1->R (agg (.mk xL)) m'_1 []->∀b,lM (m'_1.add b xL) λmL=>
 m'_1.free b->(Tok.mk (slice a_1 n_2 c_1) 2=Tok.mk yL 2\/yL=slice none 0 0\/c < yL_1)/\∃(xs:List Value),∃(ys:List Value),xs.length=n*2/\ys.length=1*2/\rowRd mL a xs/\rowRd mL (some (Addr.mk b 0 none)) ys
 /\ (∀(u:Value),u∈ys->u.oneCell'=true)/\yL_1*40<=140737488355328/\yL_1<=9223372036854775807/\∀(a':Option Addr)(c':Nat) m',mL.le m'->rowRd m' a' (List.append xs ys)->TokFact mL a a' yL_1 c'->nxI n_3 I [slice
 a' yL_1 c',int i64 (i64.wrap (n_1+1))] [] [slice a' yL_1 c'] m')) (rtM m m' R yL)):CX Tryz.prog 46 #[.slice p0a p0n p0c,.func (.func p1g) p1fi.toArray p1ca.toArray] m [] R:=
 Zad (E:=Zb3) Zal mix Tryz.func46 (by kernel_rfl) (Eq.mp (by kernel_rfl) h)
def Zb4:Env:={ EB with
 tokOf:=swI 0 [(2,7),(7,7)]
 tokC:=swI none [(5,some (7,4))]
 thaw:=true }
theorem ZbP(p0a:Option Addr)(p0n p0c:Nat)(m:Mem)(R:RT)(h:
 lE (0+p0n) λyL=>br (Option.isNone p0a) (slice none 0 0=slice none 0 0/\R (slice none 0 0) m []) (((0:Int)=(0:Int)/\(0:Int)<=0/\(0:Int)*(↑(48:Nat):Int)<=281474976710656/\(0:Int) <=
 9223372036854775807)/\∀(b:Nat),lX (slice (some (Addr.mk b 0 none)) 0 (Int.toNat (0:Int))) λyL_1=>m.free b->Mem.k m b=none->(Tok.mk yL_1 4=Tok.mk yL_1 4\/yL_1=slice none 0 0\/Int.toNat (0:Int) < yL)/\∃(xs
 : List Value),∃(ys:List Value),xs.length=0*4/\ys.length=p0n*4/\rowRd m (some (Addr.mk b 0 none)) xs/\rowRd m p0a ys/\(∀(u:Value),u∈ys->u.oneCell'=true)/\yL*48<=140737488355328/\yL <=
 9223372036854775807/\∀a' c' m',lE (some (Tok.mk (slice a' yL c') 4)) λyL_2=>m.le m'->rowRd m' a' (List.append xs ys)->TokFact m (some (Addr.mk b 0 none)) a' yL c'->yL_2=yL_2/\R (slice a' yL c') m' [])):CXT Tryz.prog 45 #[.slice p0a p0n p0c] m 4 R:=
 Ziu (E:=Zb4) Zal mix Tryz.func45 [.v (.slice p0a p0n p0c)] (by kernel_rfl) (Eq.mp (by kernel_rfl) h)
def ZrT:Env:={ EB with
 dr:=swI [] [(3,[⟨0,[1],[],none,[],[]⟩,⟨1,[1],[],none,[0],[]⟩,⟨2,[1],[],none,[],[]⟩,⟨3,[1],[],none,[2],[]⟩,dO 4 [2,3],⟨5,[1],[],none,[],[]⟩,⟨6,[1],[],none,[5],[]⟩,⟨7,[],[],none,[2,3,4,5,6],[4]⟩,dO 8 [0,1,2,3,4,5,6,7],⟨9,[2],[2],none,[0,1,2,3,4,5,6,7,8],[]⟩])]
 frzNew:=[1] }
theorem Zp7(aA:Int)(aI:Option Addr)(aF aM:Nat)(aG:Option Addr)(aD aN:Nat)(m:Mem)(R:RT)(h:
 lX (slice aI aF aM) λyL=>lV [int i64 aA,yL,slice aG aD aN] λxL=>lV [slice aG aD aN,func (Fn.func 47) (Array.mk []) (Array.mk [])] λxL_1=>fzM m xL λb m'=>∀(b:Nat),kB pG 39
 [agg (.mk xL)] m' λb m'=>br (!b) (rtM m m' R (agg (.mk [int i64 0,slice none 0 0,slice none 0 0]))) (∃(f:Fx),∃R_1,R_1=f 4 [yL] m'/\CX pG 45 (.mk [yL]) m' [] R_1/\ZaU .slice R_1/\∀a n c m'_1,m'.le m'_1->R_1
 (slice a n c) m'_1 []->∃R_2,R_2=f 7 xL_1 m'_1/\CX pG 46 (.mk xL_1) m'_1 [] R_2/\ZaU .slice R_2/\∀a_3 n_1 c_1 m'_2,m'_1.le m'_2->R_2 (slice a_3 n_1 c_1) m'_2 []->∀M,m'.le M->m'_1.le M->m'_2.le M->rtM m M R (agg
 (.mk [int i64 aA,slice a n c,slice a_3 n_1 c_1])))):CX Tryz.prog 13 #[.agg #[.int .i64 aA,.slice aI aF aM,.slice aG aD aN]] m [] R:=
 Zad (E:=ZrT) Zal mix Tryz.func13 (by kernel_rfl) (Eq.mp (by kernel_rfl) h)
end Go.Proofs.YtdopppmkbkkmiaaGreatDoor
end
