/- Part of the proof: conditions and contracts of functions of this program. No condition of its own. -/
import Derived.Test.YtplacemlpkhmfaaPC13A
import Derived.Test.YtplacemlpkhmfaaPC13Q
set_option linter.unusedVariables false
set_option linter.unusedSimpArgs false
namespace Go.Proofs.Ytplacemlpkhmfaa
open Go Go.Eng Go.Rx Go.Proofs Go.RowKit
set_option maxRecDepth 100000
theorem Ztk(t:T)(m:Mem)(hr:Rep m t):CX Try.prog 108 #[t.v] m [] (Ret (.bool t.right)):=by
 apply ZnV
 unfold Zjv
 intro b m1 bH _
 have eB:=hr.mono bH
 refine⟨t.k != 2&&!t.setZ||(t.k != 5&&(t.mn != 0||t.mx != 0)||(decide (t.k < 3)&&decide (0 < t.subs.length))),?_,Zab (fun h=>Zah bH ?_) (fun h=>?_)⟩
 ·refine Zab (fun h1=>?_) (fun h1=>?_)
  ·refine⟨t.setZ,ZnX _ _ _ _ _ _ _ _,?_⟩
   simp only[Zre]
   (repeat' split) <;> simp_all <;> omega
  ·simp only[Zre]
   (repeat' split) <;> simp_all <;> omega
 ·simp[Ret,T.right,h]
 ·refine Zab (fun h1=>Zah bH ?_) (fun h1=>Zab (fun h2=>⟨t.setZ,ZnX _ _ _ _ _ _ _ _,Zah bH ?_⟩) (fun h2=>Zab (fun h3=>?_) (fun h3=>Zab (fun h4=>?_) (fun h4=>Zab (fun h5=>?_) (fun h5=>?_)))))
  ·have:t.k=1:=by simpa using h1
   show Value.bool _=Value.bool t.right;rw[T.right,h];simp[this]
  ·have:t.k=2:=by simpa using h2
   show Value.bool _=Value.bool t.right;rw[T.right,h];simp[this]
  ·have:t.k=3:=by simpa using h3
   refine⟨decide (1 < t.subs.length)&&(!t.has 1&&!t.has 3),Zab (fun h4=>?_) (fun h4=>?_),Zah bH ?_⟩
   ·refine Zaj (ZrA t 1 m1 eB) fun m2 bN=>Zab (fun h5=>?_) (fun h5=>?_)
    ·refine Zaj (ZrA t 3 m2 (eB.mono bN)) fun m3 cG=>⟨rfl,ZaD ?_⟩
     simp_all <;> (intros;omega)
    ·refine⟨rfl,ZaD ?_⟩
     simp_all <;> (intros;omega)
   ·refine⟨rfl,ZaD ?_⟩
    simp_all <;> (intros;omega)
   ·show Value.bool _=Value.bool t.right;rw[T.right,h];simp[this]
  ·have:t.k=4:=by simpa using h4
   refine⟨decide (1 < t.subs.length)&&!t.has 4,Zab (fun h4=>?_) (fun h4=>?_),Zah bH ?_⟩
   ·refine Zaj (ZrA t 4 m1 eB) fun m2 bN=>⟨rfl,ZaD ?_⟩
    simp_all <;> (intros;omega)
   ·refine⟨rfl,ZaD ?_⟩
    simp_all <;> (intros;omega)
   ·show Value.bool _=Value.bool t.right;rw[T.right,h];simp[this]
  ·have:t.k=5:=by simpa using h5
   refine⟨t.subs.length == 1&&(Zd0 t.mn t.mx&&!t.has 1),Zab (fun h4=>?_) (fun h4=>?_),Zah bH ?_⟩
   ·refine Zaj (Zrz t.mn t.mx m1) fun m2 bN=>Zab (fun h5=>?_) (fun h5=>?_)
    ·refine Zaj (ZrA t 1 m2 (eB.mono bN)) fun m3 cG=>⟨rfl,ZaD ?_⟩
     have h4':((t.subs.length:Int) == 1)=true:=h4
     have:t.subs.length=1:=by have:=of_decide_eq_true h4';omega
     simp_all <;> (intros;omega)
    ·refine⟨rfl,ZaD ?_⟩
     simp_all <;> (intros;omega)
   ·refine⟨rfl,ZaD ?_⟩
    have h4':((t.subs.length:Int) == 1)=false:=h4
    have:¬t.subs.length=1:=by have:=of_decide_eq_false h4';omega
    simp_all <;> (intros;omega)
   ·show Value.bool _=Value.bool t.right;rw[T.right,h];simp[this]
  ·refine⟨t.k == 6&&t.subs.length == 1,Zab (fun h4=>⟨rfl,ZaD ?_⟩) (fun h4=>⟨rfl,ZaD ?_⟩),Zah bH ?_⟩
   ·have:(t.k == 6)=true:=h4
    rw[this,Bool.true_and]
    show(decide ((t.subs.length:Int)=1))=decide (t.subs.length=1)
    rw[decide_eq_decide];omega
   ·have:(t.k == 6)=false:=h4
    simp[this]
   ·show Value.bool _=Value.bool t.right;rw[T.right,h]
    have e1:¬t.k=1:=by simpa using h1
    have e2:¬t.k=2:=by simpa using h2
    have e3:¬t.k=3:=by simpa using h3
    have e4:¬t.k=4:=by simpa using h4
    have e5:¬t.k=5:=by simpa using h5
    simp[e1,e2,e3,e4,e5]
theorem Zmv(t:T)(m:Mem)(hr:Rep m t):CX Try.prog 59 #[t.v] m [] (Ret (.bool t.clean)):=by
 apply ZnW
 unfold Zjw
 intro b m1 bH _ b2
 refine Zaj (Zim t m1 (hr.mono bH)) fun m2 bN=>Zab (fun h=>Zah (Mem.le_trans bH bN) ?_) (fun h=>?_)
 ·have:t.light=false:=by simpa using h
  simp[Ret,T.clean,this]
 have hl:t.light=true:=by simpa using h
 refine Zam (Zkv t m2) (fun v m' css h=>by obtain⟨_,rfl,_⟩:=h;rfl) ?_
 rintro g fi ca m3 cG ⟨b3,hv,gm⟩
 obtain⟨rfl,rfl,rfl⟩:=Zkb hv
 have cN:=Mem.le_trans bH (Mem.le_trans bN cG)
 refine⟨_,ZhN t m3 b3 gm (hr.mono cN),fun y hy=>?_,fun _ css _ m' q=>m3.le m'∧∀x∈t.nodes.take q,x.right=true,⟨Mem.le_refl _,by simp⟩,?_,?_⟩
 ·obtain⟨z,_,rfl⟩:=List.mem_map.1 hy;exact Zrg z
 ·rintro n0 n1 n2 n3 n4 n5 n6 a n7 c cs m4 q cY hq ⟨_,i7⟩ b4
  have hq':(List.map (fun z:T=>[z.v]) t.nodes)[(q:Nat)]?=some [Value.agg #[.int .u8 n0,.int .u64 n1,.int .u64 n2,.int .u64 n3,.int .u64 n4,.int .i64 n5,.int .i64 n6,.slice a n7 c]]:=hq
  rw[List.getElem?_map]at hq'
  obtain⟨z,hz,rm⟩:=Option.map_eq_some_iff.1 hq'
  have rp:z.v=Value.agg #[.int .u8 n0,.int .u64 n1,.int .u64 n2,.int .u64 n3,.int .u64 n4,.int .i64 n5,.int .i64 n6,.slice a n7 c]:=by simpa using rm
  have uV:Rep m4 z:=(Zno (hr.mono cN) (List.mem_of_getElem? hz)).mono cY
  have hO:=Ztk z m4 uV
  rw[rp]at hO
  refine Zaj hO fun m5 dX=>Zab (fun h=>⟨rfl,Zah (Mem.le_trans cN (Mem.le_trans cY dX)) ?_⟩) (fun h=>⟨rfl,Mem.le_trans cY dX,fun x hx=>?_⟩)
  ·have mL:z.right=false:=by simpa using h
   have:t.nodes.all T.right=false:=by
    rw[List.all_eq_false];exact⟨z,List.mem_of_getElem? hz,by simp[mL]⟩
   simp[Ret,T.clean,this]
  ·rw[List.take_add_one,hz]at hx
   rcases List.mem_append.1 hx with hx|hx
   ·exact i7 x hx
   ·simp at hx;rw[hx];simpa using h
 ·rintro cs m4 cY ⟨_,i7⟩
  refine Zah (Mem.le_trans cN cY) ?_
  rw[List.length_map,List.take_length]at i7
  have:t.nodes.all T.right=true:=List.all_eq_true.2 i7
  simp[Ret,T.clean,this,hl]
theorem Zuy(t:T)(m:Mem)(hr:Rep m t):CX Try.prog 60 #[t.v] m [] (Ret (.int .i64 t.size)):=by
 apply Zpg
 unfold Zlo
 intro b m1 bH _
 refine Zaj (Zim t m1 (hr.mono bH)) fun m2 bN=>Zab (fun h=>Zah (Mem.le_trans bH bN) ?_) (fun h=>?_)
 ·have:t.light=false:=by simpa using h
  simp[Ret,T.size,this]
 have hl:t.light=true:=by simpa using h
 have rq:t.nodes.length≤10000:=of_decide_eq_true hl
 intro b2
 refine Zam (Zkv t m2) (fun v m' css h=>by obtain⟨_,rfl,_⟩:=h;rfl) ?_
 rintro g fi ca m3 cG ⟨b3,hv,gm⟩
 obtain⟨rfl,rfl,rfl⟩:=Zkb hv
 have cN:=Mem.le_trans bH (Mem.le_trans bN cG)
 refine⟨_,ZhN t m3 b3 gm (hr.mono cN),fun y hy=>?_,fun _ css _ m' q=>css=[[.int .i64 q]]∧q≤t.nodes.length,⟨rfl,by omega⟩,?_,?_⟩
 ·obtain⟨z,_,rfl⟩:=List.mem_map.1 hy;exact Zrg z
 ·rintro n0 n1 n2 n3 n4 n5 n6 a n7 c cs m4 q cY hq ⟨cH,_⟩
  obtain rfl:cs=[.int .i64 q]:=by simpa using cH
  have bK:q < t.nodes.length:=by
   have:=(List.getElem?_eq_some_iff.1 (show(List.map (fun z:T=>[z.v]) t.nodes)[(q:Nat)]?=some _ from hq)).1
   simpa using this
  have hw:IntKind.i64.wrap (intOf (Value.int .i64 (q:Int))+1)=(q:Int)+1:=Zax (n:=(q:Int)+1) (by omega) (by omega)
  refine Zap rfl (Zaa rfl ?_)
  simp only[hw]
  exact⟨by trivial,by simp,by omega⟩
 ·rintro cs m4 cY ⟨cH,i7⟩
  obtain rfl:cs=[.int .i64 t.nodes.length]:=by simpa using cH
  refine Zap rfl (Zah (Mem.le_trans cN cY) ?_)
  simp[Ret,T.size,hl]
theorem ZhP(t:T)(m:Mem)(hr:Rep m t)(hl:t.nodes.length≤10000):CX Try.prog 93 #[t.v] m [] (Ret (.int .i64 t.pos)):=by
 apply ZhL
 unfold Ze6
 intro b m1 bH _
 have eP:=Zsm t
 have gy:=ZlX t
 refine Zab (fun hk=>?_) (fun hk=>?_)
 all_goals
  have hk':(if t.k=2 then(1:Int)else 0)=1∧t.k=2∨(if t.k=2 then(1:Int)else 0)=0∧t.k≠2:=by split <;> simp_all
  refine⟨fun xs _ _ m'' q=>∃i:Nat,i≤t.subs.length∧xs=[.int .i64 ((if t.k=2 then 1 else 0)+ZcF (t.subs.take i)),.int .i64 i]∧m1.le m''∧q=t.subs.length - i,⟨t.subs.length,0,by omega,by simp_all [ZcF],Mem.le_refl _,by omega⟩,?_⟩
  rintro n n1 m2 q bN ⟨i,hi,eM,_,hq⟩
  have fP:=Zeb (t.subs.take i)
  have ic:=Zsl (t.subs.take i)
  have gm:(t.subs.take i).length≤i:=List.length_take_le _ _
  clear hk'
  generalize hc:(if t.k=2 then(1:Int)else 0)=c at *
  have wi:0≤c∧c≤1:=by rw[←hc];split <;> omega
  simp only[List.cons.injEq,Value.int.injEq,true_and,and_true]at eM
  obtain⟨rfl,rfl⟩:=eM
  refine Zab (fun bK=>?_) (fun cS=>?_)
  ·have bJ:i < t.subs.length:=by simpa using bK
   obtain⟨x,hx⟩:∃x,t.subs[i]?=some x:=⟨_,List.getElem?_eq_getElem bJ⟩
   have cR:x∈t.subs:=List.mem_of_getElem? hx
   have cI:=ZoX cR
   have hU:=Zrj cR
   obtain⟨_,h0|⟨b1,o1,ha,gt⟩⟩:=ZdA hr
   ·rw[h0]at bJ;simp at bJ
   obtain⟨fV,gF⟩:=(gt.mono ((Mem.le_trans bH bN))).get hx
   have nh:=Zgb x
   refine⟨b1,o1,ha,⟨by omega,by omega⟩,_,_,_,_,_,_,_,_,fV,fun b2=>Zaa rfl ?_⟩
   refine ZdM (ZhP x m2 gF (by omega)) fun m3 cG=>⟨rfl,t.subs.length - (i+1),by omega,i+1,by omega,?_,Mem.le_trans bN cG,rfl⟩
   rw[Zax (by omega) (by omega),Zax (by omega) (by omega),Zri hx,Int.add_assoc]
   rfl
  ·have hi':i=t.subs.length:=by
    have:¬((i:Int) < (t.subs.length:Int)):=by simpa using cS
    omega
   subst hi'
   rw[List.take_length]at fP ic ⊢
   have hF:=Zsk t.mn t.mx
   have oh:0≤(c+ZcF t.subs)*Zs7 t.mn t.mx∧(c+ZcF t.subs)*Zs7 t.mn t.mx≤100020001*10001:=by
    constructor
    ·exact Int.mul_nonneg (by omega) hF.1
    ·exact Int.mul_le_mul (by omega) hF.2 hF.1 (by omega)
   refine Zab (fun h5=>Zab (fun hx=>Zah (Mem.le_trans bH bN) ?_) (fun hx=>Zah (Mem.le_trans bH bN) ?_)) (fun h5=>Zah (Mem.le_trans bH bN) ?_)
   ·have e1:t.k=5:=by simpa using h5
    have e2:t.mx=-1:=by simpa using hx
    have hF':Zs7 t.mn t.mx=Zlb (Zla (Zla t.mn 0) 1) 10001:=by simp[Zs7,e2]
    show Value.int .i64 (Zlb (IntKind.i64.wrap ((c+ZcF t.subs)*Zlb (Zla (Zla t.mn 0) 1) 10001)) 10001)=Value.int .i64 t.pos
    rw[←hF',Zax (by omega) (by omega),gy,Zrh,if_pos e1];rfl
   ·have e1:t.k=5:=by simpa using h5
    have e2:¬t.mx=-1:=by simpa using hx
    have hF':Zs7 t.mn t.mx=Zlb (Zla (Zla t.mn 0) t.mx) 10001:=by simp[Zs7,e2]
    show Value.int .i64 (Zlb (IntKind.i64.wrap ((c+ZcF t.subs)*Zlb (Zla (Zla t.mn 0) t.mx) 10001)) 10001)=Value.int .i64 t.pos
    rw[←hF',Zax (by omega) (by omega),gy,Zrh,if_pos e1];rfl
   ·have e1:¬t.k=5:=by simpa using h5
    show Value.int .i64 (Zlb (c+ZcF t.subs) 10001)=Value.int .i64 t.pos
    rw[gy,Zrh,if_neg e1]
termination_by SizeOf.sizeOf t
decreasing_by all_goals exact cI
theorem Zl6(t:T)(m:Mem)(hr:Rep m t):CX Try.prog 37 #[t.v] m [] (Ret (.int .i64 t.positions)):=by
 apply ZhM
 unfold Ze7
 intro b m1 bH _
 refine Zaj (Zim t m1 (hr.mono bH)) fun m2 bN=>Zab (fun h=>Zah (Mem.le_trans bH bN) ?_) (fun h=>?_)
 ·have:t.light=false:=by simpa using h
  simp[Ret,T.positions,this]
 have hl:t.light=true:=by simpa using h
 refine ZdM (ZhP t m2 (hr.mono (Mem.le_trans bH bN)) (of_decide_eq_true hl)) fun m3 cG=>Zah (Mem.le_trans bH (Mem.le_trans bN cG)) ?_
 simp[Ret,T.positions,hl]
theorem Zl7(l l':List T)(a a':Option Addr)(c c':Nat)(m:Mem)(hl:l.length≤1000000000000000)(hr:l=[]∨∃b o,a=some ⟨b,o,none⟩∧RepAt m b o l)(hr':l'=[]∨∃b o,a'=some ⟨b,o,none⟩∧RepAt m b o l')
  (hp:∀x∈l,∀y∈l',∀m',m.le m'→Rep m' x→Rep m' y→CX Try.prog 106 #[x.v,y.v] m' [] (Ret (.bool (x.same y)))):
  CX Try.prog 132 #[.slice a l.length c,.slice a' l'.length c',.func (.func 106) #[] #[]] m [] (Ret (.bool (Zg8 l l'))):=by
 apply ZaN a l.length c a' l'.length c' _ [] []
 unfold Zay
 refine Zab (fun h=>Zah (Mem.le_refl _) ?_) (fun h=>?_)
 ·have:¬l.length=l'.length:=by
   intro e;rw[e]at h;simp at h
  show Value.bool false=_
  rw[Znp this]
 have eL:l.length=l'.length:=by
  have h2:((l.length:Int) == (l'.length:Int))=true:=by simpa using h
  have:=of_decide_eq_true h2;omega
 refine⟨fun xs _ _ m'' q=>∃i:Nat,i≤l.length∧xs=[.int .i64 i]∧Zg8 (l.take i) (l'.take i)=true∧m.le m''∧q=l.length - i,⟨l.length,0,by omega,rfl,by simp[Zg8],Mem.le_refl _,by omega⟩,?_⟩
 rintro n m' q hm ⟨i,hi,hn,fC,cN,hq⟩
 obtain rfl:n=i:=by simpa using hn
 refine Zab (fun bK=>?_) (fun cS=>?_)
 ·have bJ:i < l.length:=by simpa using bK
  obtain⟨x,hx⟩:∃x,l[i]?=some x:=⟨_,List.getElem?_eq_getElem bJ⟩
  obtain⟨y,hy⟩:∃y,l'[i]?=some y:=⟨_,List.getElem?_eq_getElem (by omega)⟩
  have jt:x∈l:=List.mem_of_getElem? hx
  have uW:y∈l':=List.mem_of_getElem? hy
  rcases hr with h0|⟨b1,o1,ha,gt⟩
  ·rw[h0]at bJ;simp at bJ
  rcases hr' with h0|⟨b2,o2,ha',rr⟩
  ·rw[h0]at eL;simp at eL;rw[eL]at bJ;simp at bJ
  obtain⟨fV,gF⟩:=(gt.mono hm).get hx
  obtain⟨ku,oi⟩:=(rr.mono hm).get hy
  refine⟨b1,o1,ha,⟨by omega,by omega⟩,_,_,_,_,_,_,_,_,fV,fun b3=>Zaa rfl ⟨b2,o2,ha',⟨by omega,by omega⟩,_,_,_,_,_,_,_,_,ku,fun b4=>Zaa rfl ?_⟩⟩
  refine Zaj (hp x jt y uW m' hm gF oi) fun m1 bH=>Zab (fun ld=>?_) (fun ld=>?_)
  ·have hf:x.same y=false:=by simpa using ld
   refine Zah (Mem.le_trans hm bH) ?_
   show Value.bool false=_
   rw[Zp6 hx hy hf]
  ·have hf:x.same y=true:=by simpa using ld
   refine⟨l.length - (i+1),by omega,i+1,by omega,by rw[Zax (by omega) (by omega)];rfl,Zlc hx hy fC hf trivial,Mem.le_trans hm bH,rfl⟩
 ·have hi':i=l.length:=by
   have:¬((i:Int) < (l.length:Int)):=by simpa using cS
   omega
  subst hi'
  refine Zah hm ?_
  rw[List.take_length,eL,List.take_length]at fC
  show Value.bool true=_
  rw[fC]
theorem Zsv(t u:T)(m:Mem)(hr:Rep m t)(hu:Rep m u):CX Try.prog 106 #[t.v,u.v] m [] (Ret (.bool (t.same u))):=by
 apply Zph
 unfold Zlp
 intro b m1 bH _ b' m2 bN _
 have hm:=Mem.le_trans bH bN
 refine⟨t.same u,?_,Zah hm rfl⟩
 rw[Zuh]
 refine Zab (fun h1=>⟨_,ZnX _ _ _ _ _ _ _ _,Zab (fun h2=>Zab (fun h3=>Zab (fun h4=>?_) (fun h4=>⟨rfl,ZaD ?_⟩)) (fun h3=>⟨rfl,ZaD ?_⟩)) (fun h2=>⟨rfl,ZaD ?_⟩)⟩) (fun h1=>⟨rfl,ZaD ?_⟩)
 ·have hr':=ZdA (hr.mono hm)
  have hu':=ZdA (hu.mono hm)
  refine Zaj (Zl7 t.subs u.subs t.a u.a t.c u.c m2 hr'.1 hr'.2 hu'.2 fun x hx y hy m' _ fV ku=>?_) fun m3 cG=>⟨rfl,ZaD ?_⟩
  ·have cI:=ZoX hx
   exact Zsv x y m' fV ku
  ·rw[h1,h2,h3,h4];rfl
 ·rw[h1,h2,h3,h4];rfl
 ·rw[h1,h2,h3];rfl
 ·rw[h1,h2];rfl
 ·rw[h1];rfl
termination_by SizeOf.sizeOf t
decreasing_by exact cI
theorem Zuz(t u:T)(m:Mem)(hr:Rep m t)(hu:Rep m u):CX Try.prog 58 #[t.v,u.v] m [] (Ret (.bool (t.light&&(u.light&&t.same u)))):=by
 apply Zpi
 unfold Zlq
 intro b m1 bH _ b' m2 bN _
 have hm:=Mem.le_trans bH bN
 refine⟨t.light&&(u.light&&t.same u),?_,Zah hm rfl⟩
 refine Zaj (Zim t m2 (hr.mono hm)) fun m3 cG=>Zab (fun h1=>?_) (fun h1=>⟨rfl,ZaD ?_⟩)
 ·refine Zaj (Zim u m3 (hu.mono (Mem.le_trans hm cG))) fun m4 cY=>Zab (fun h2=>?_) (fun h2=>?_)
  ·have dX:=Mem.le_trans (Mem.le_trans hm cG) cY
   refine Zaj (Zsv t u m4 (hr.mono dX) (hu.mono dX)) fun m6 gu=>⟨rfl,ZaD ?_⟩
   rw[h1,h2];rfl
  ·refine⟨rfl,ZaD ?_⟩
   rw[h1,h2];rfl
 ·rw[h1];rfl
end Go.Proofs.Ytplacemlpkhmfaa

