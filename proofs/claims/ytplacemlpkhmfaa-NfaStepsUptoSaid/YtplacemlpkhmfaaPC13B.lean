/- Part of the proof: conditions and contracts of functions of this program. No condition of its own. -/
import Derived.Test.YtplacemlpkhmfaaPC13A
import Derived.Test.YtplacemlpkhmfaaPC13Q
set_option linter.unusedVariables false
set_option linter.unusedSimpArgs false
namespace Go.Proofs.Ytplacemlpkhmfaa
open Go Go.Eng Go.Rx Go.Proofs Go.RowKit
set_option maxRecDepth 100000
theorem ZsJ(t:T)(m:Mem)(hr:Rep m t):CX Try.prog 108 #[t.v] m [] (Ret (.bool t.right)):=by
 apply ZnC
 unfold Zjl
 intro b m1 bD _
 have dS:=hr.mono bD
 refine⟨t.k != 2&&!t.setZ||(t.k != 5&&(t.mn != 0||t.mx != 0)||(decide (t.k < 3)&&decide (0 < t.subs.length))),?_,Zab (fun h=>Zad bD ?_) (fun h=>?_)⟩
 ·refine Zab (fun h1=>?_) (fun h1=>?_)
  ·refine⟨t.setZ,ZoY _ _ _ _ _ _ _ _,?_⟩
   simp only[ZqK]
   (repeat' split) <;> simp_all <;> omega
  ·simp only[ZqK]
   (repeat' split) <;> simp_all <;> omega
 ·simp[Ret,T.right,h]
 ·refine Zab (fun h1=>Zad bD ?_) (fun h1=>Zab (fun h2=>⟨t.setZ,ZoY _ _ _ _ _ _ _ _,Zad bD ?_⟩) (fun h2=>Zab (fun h3=>?_) (fun h3=>Zab (fun h4=>?_) (fun h4=>Zab (fun h5=>?_) (fun h5=>?_)))))
  ·have:t.k=1:=by simpa using h1
   show Value.bool _=Value.bool t.right;rw[T.right,h];simp[this]
  ·have:t.k=2:=by simpa using h2
   show Value.bool _=Value.bool t.right;rw[T.right,h];simp[this]
  ·have:t.k=3:=by simpa using h3
   refine⟨decide (1 < t.subs.length)&&(!t.has 1&&!t.has 3),Zab (fun h4=>?_) (fun h4=>?_),Zad bD ?_⟩
   ·refine Zah (Zrb t 1 m1 dS) fun m2 bZ=>Zab (fun h5=>?_) (fun h5=>?_)
    ·refine Zah (Zrb t 3 m2 (dS.mono bZ)) fun m3 cD=>⟨rfl,Za9 ?_⟩
     simp_all <;> (intros;omega)
    ·refine⟨rfl,Za9 ?_⟩
     simp_all <;> (intros;omega)
   ·refine⟨rfl,Za9 ?_⟩
    simp_all <;> (intros;omega)
   ·show Value.bool _=Value.bool t.right;rw[T.right,h];simp[this]
  ·have:t.k=4:=by simpa using h4
   refine⟨decide (1 < t.subs.length)&&!t.has 4,Zab (fun h4=>?_) (fun h4=>?_),Zad bD ?_⟩
   ·refine Zah (Zrb t 4 m1 dS) fun m2 bZ=>⟨rfl,Za9 ?_⟩
    simp_all <;> (intros;omega)
   ·refine⟨rfl,Za9 ?_⟩
    simp_all <;> (intros;omega)
   ·show Value.bool _=Value.bool t.right;rw[T.right,h];simp[this]
  ·have:t.k=5:=by simpa using h5
   refine⟨t.subs.length == 1&&(ZfE t.mn t.mx&&!t.has 1),Zab (fun h4=>?_) (fun h4=>?_),Zad bD ?_⟩
   ·refine Zah (Zra t.mn t.mx m1) fun m2 bZ=>Zab (fun h5=>?_) (fun h5=>?_)
    ·refine Zah (Zrb t 1 m2 (dS.mono bZ)) fun m3 cD=>⟨rfl,Za9 ?_⟩
     have h4':((t.subs.length:Int) == 1)=true:=h4
     have:t.subs.length=1:=by have:=of_decide_eq_true h4';omega
     simp_all <;> (intros;omega)
    ·refine⟨rfl,Za9 ?_⟩
     simp_all <;> (intros;omega)
   ·refine⟨rfl,Za9 ?_⟩
    have h4':((t.subs.length:Int) == 1)=false:=h4
    have:¬t.subs.length=1:=by have:=of_decide_eq_false h4';omega
    simp_all <;> (intros;omega)
   ·show Value.bool _=Value.bool t.right;rw[T.right,h];simp[this]
  ·refine⟨t.k == 6&&t.subs.length == 1,Zab (fun h4=>⟨rfl,Za9 ?_⟩) (fun h4=>⟨rfl,Za9 ?_⟩),Zad bD ?_⟩
   ·have:(t.k == 6)=true:=h4
    rw[this,Bool.true_and]
    show(decide ((t.subs.length:Int)=1))=decide (t.subs.length=1)
    rw[decide_eq_decide];omega
   ·have:(t.k == 6)=false:=h4
    simp[this]
   ·show Value.bool _=Value.bool t.right;rw[T.right,h]
    have e1:¬t.k=1:=by simpa using h1
    have e2:¬t.k=2:=by simpa using h2
    have e3:¬t.k=3:=by simpa using h3
    have e4:¬t.k=4:=by simpa using h4
    have e5:¬t.k=5:=by simpa using h5
    simp[e1,e2,e3,e4,e5]
theorem ZsK(t:T)(m:Mem)(hr:Rep m t):CX Try.prog 59 #[t.v] m [] (Ret (.bool t.clean)):=by
 apply ZnD
 unfold Zjm
 intro b m1 bD _ b2
 refine Zah (Zh4 t m1 (hr.mono bD)) fun m2 bZ=>Zab (fun h=>Zad (Mem.le_trans bD bZ) ?_) (fun h=>?_)
 ·have:t.light=false:=by simpa using h
  simp[Ret,T.clean,this]
 have hl:t.light=true:=by simpa using h
 refine Zat (Zj6 t m2) (fun v m' css h=>by obtain⟨_,rfl,_⟩:=h;rfl) ?_
 rintro g fi ca m3 cD ⟨b3,hv,fP⟩
 obtain⟨rfl,rfl,rfl⟩:=ZjW hv
 have cQ:=Mem.le_trans bD (Mem.le_trans bZ cD)
 refine⟨_,Zhn t m3 b3 fP (hr.mono cQ),fun y hy=>?_,fun _ css _ m' q=>m3.le m'∧∀x∈t.nodes.take q,x.right=true,⟨Mem.le_refl _,by simp⟩,?_,?_⟩
 ·obtain⟨z,_,rfl⟩:=List.mem_map.1 hy;exact ZqN z
 ·rintro n0 n1 n2 n3 n4 n5 n6 a n7 c cs m4 q dC hq ⟨_,jh⟩ b4
  have hq':(List.map (fun z:T=>[z.v]) t.nodes)[(q:Nat)]?=some [Value.agg #[.int .u8 n0,.int .u64 n1,.int .u64 n2,.int .u64 n3,.int .u64 n4,.int .i64 n5,.int .i64 n6,.slice a n7 c]]:=hq
  rw[List.getElem?_map]at hq'
  obtain⟨z,hz,rA⟩:=Option.map_eq_some_iff.1 hq'
  have rC:z.v=Value.agg #[.int .u8 n0,.int .u64 n1,.int .u64 n2,.int .u64 n3,.int .u64 n4,.int .i64 n5,.int .i64 n6,.slice a n7 c]:=by simpa using rA
  have vj:Rep m4 z:=(ZqO (hr.mono cQ) (List.mem_of_getElem? hz)).mono dC
  have iC:=ZsJ z m4 vj
  rw[rC]at iC
  refine Zah iC fun m5 cX=>Zab (fun h=>⟨rfl,Zad (Mem.le_trans cQ (Mem.le_trans dC cX)) ?_⟩) (fun h=>⟨rfl,Mem.le_trans dC cX,fun x hx=>?_⟩)
  ·have qE:z.right=false:=by simpa using h
   have:t.nodes.all T.right=false:=by
    rw[List.all_eq_false];exact⟨z,List.mem_of_getElem? hz,by simp[qE]⟩
   simp[Ret,T.clean,this]
  ·rw[List.take_add_one,hz]at hx
   rcases List.mem_append.1 hx with hx|hx
   ·exact jh x hx
   ·simp at hx;rw[hx];simpa using h
 ·rintro cs m4 dC ⟨_,jh⟩
  refine Zad (Mem.le_trans cQ dC) ?_
  rw[List.length_map,List.take_length]at jh
  have:t.nodes.all T.right=true:=List.all_eq_true.2 jh
  simp[Ret,T.clean,this,hl]
theorem Zt0(t:T)(m:Mem)(hr:Rep m t):CX Try.prog 60 #[t.v] m [] (Ret (.int .i64 t.size)):=by
 apply ZoV
 unfold Zlc
 intro b m1 bD _
 refine Zah (Zh4 t m1 (hr.mono bD)) fun m2 bZ=>Zab (fun h=>Zad (Mem.le_trans bD bZ) ?_) (fun h=>?_)
 ·have:t.light=false:=by simpa using h
  simp[Ret,T.size,this]
 have hl:t.light=true:=by simpa using h
 have tF:t.nodes.length≤10000:=of_decide_eq_true hl
 intro b2
 refine Zat (Zj6 t m2) (fun v m' css h=>by obtain⟨_,rfl,_⟩:=h;rfl) ?_
 rintro g fi ca m3 cD ⟨b3,hv,fP⟩
 obtain⟨rfl,rfl,rfl⟩:=ZjW hv
 have cQ:=Mem.le_trans bD (Mem.le_trans bZ cD)
 refine⟨_,Zhn t m3 b3 fP (hr.mono cQ),fun y hy=>?_,fun _ css _ m' q=>css=[[.int .i64 q]]∧q≤t.nodes.length,⟨rfl,by omega⟩,?_,?_⟩
 ·obtain⟨z,_,rfl⟩:=List.mem_map.1 hy;exact ZqN z
 ·rintro n0 n1 n2 n3 n4 n5 n6 a n7 c cs m4 q dC hq ⟨cF,_⟩
  obtain rfl:cs=[.int .i64 q]:=by simpa using cF
  have bV:q < t.nodes.length:=by
   have:=(List.getElem?_eq_some_iff.1 (show(List.map (fun z:T=>[z.v]) t.nodes)[(q:Nat)]?=some _ from hq)).1
   simpa using this
  have hw:IntKind.i64.wrap (intOf (Value.int .i64 (q:Int))+1)=(q:Int)+1:=Zau (n:=(q:Int)+1) (by omega) (by omega)
  refine Zas rfl (Zaa rfl ?_)
  simp only[hw]
  exact⟨by trivial,by simp,by omega⟩
 ·rintro cs m4 dC ⟨cF,jh⟩
  obtain rfl:cs=[.int .i64 t.nodes.length]:=by simpa using cF
  refine Zas rfl (Zad (Mem.le_trans cQ dC) ?_)
  simp[Ret,T.size,hl]
theorem Zhq(t:T)(m:Mem)(hr:Rep m t)(hl:t.nodes.length≤10000):CX Try.prog 93 #[t.v] m [] (Ret (.int .i64 t.pos)):=by
 apply Zhl
 unfold Zet
 intro b m1 bD _
 have dL:=ZtM t
 have ib:=ZsA t
 refine Zab (fun hk=>?_) (fun hk=>?_)
 all_goals
  have hk':(if t.k=2 then(1:Int)else 0)=1∧t.k=2∨(if t.k=2 then(1:Int)else 0)=0∧t.k≠2:=by split <;> simp_all
  refine⟨fun xs _ _ m'' q=>∃i:Nat,i≤t.subs.length∧xs=[.int .i64 ((if t.k=2 then 1 else 0)+Zdp (t.subs.take i)),.int .i64 i]∧m1.le m''∧q=t.subs.length - i,⟨t.subs.length,0,by omega,by simp_all [Zdp],Mem.le_refl _,by omega⟩,?_⟩
  rintro n n1 m2 q bZ ⟨i,hi,jf,_,hq⟩
  have eI:=Zgl (t.subs.take i)
  have ir:=ZrT (t.subs.take i)
  have fP:(t.subs.take i).length≤i:=List.length_take_le _ _
  clear hk'
  generalize hc:(if t.k=2 then(1:Int)else 0)=c at *
  have wm:0≤c∧c≤1:=by rw[←hc];split <;> omega
  simp only[List.cons.injEq,Value.int.injEq,true_and,and_true]at jf
  obtain⟨rfl,rfl⟩:=jf
  refine Zab (fun bV=>?_) (fun cK=>?_)
  ·have bF:i < t.subs.length:=by simpa using bV
   obtain⟨x,hx⟩:∃x,t.subs[i]?=some x:=⟨_,List.getElem?_eq_getElem bF⟩
   have cU:x∈t.subs:=List.mem_of_getElem? hx
   have cJ:=ZqM cU
   have gq:=ZqQ cU
   obtain⟨_,h0|⟨b1,o1,ha,gm⟩⟩:=Zdd hr
   ·rw[h0]at bF;simp at bF
   obtain⟨iL,gM⟩:=(gm.mono ((Mem.le_trans bD bZ))).get hx
   have nq:=ZjX x
   refine⟨b1,o1,ha,⟨by omega,by omega⟩,_,_,_,_,_,_,_,_,iL,fun b2=>Zaa rfl ?_⟩
   refine Zdo (Zhq x m2 gM (by omega)) fun m3 cD=>⟨rfl,t.subs.length - (i+1),by omega,i+1,by omega,?_,Mem.le_trans bZ cD,rfl⟩
   rw[Zau (by omega) (by omega),Zau (by omega) (by omega),ZqP hx,Int.add_assoc]
   rfl
  ·have hi':i=t.subs.length:=by
    have:¬((i:Int) < (t.subs.length:Int)):=by simpa using cK
    omega
   subst hi'
   rw[List.take_length]at eI ir ⊢
   have hF:=ZrS t.mn t.mx
   have vk:0≤(c+Zdp t.subs)*Zus t.mn t.mx∧(c+Zdp t.subs)*Zus t.mn t.mx≤100020001*10001:=by
    constructor
    ·exact Int.mul_nonneg (by omega) hF.1
    ·exact Int.mul_le_mul (by omega) hF.2 hF.1 (by omega)
   refine Zab (fun h5=>Zab (fun hx=>Zad (Mem.le_trans bD bZ) ?_) (fun hx=>Zad (Mem.le_trans bD bZ) ?_)) (fun h5=>Zad (Mem.le_trans bD bZ) ?_)
   ·have e1:t.k=5:=by simpa using h5
    have e2:t.mx=-1:=by simpa using hx
    have hF':Zus t.mn t.mx=Zmc (ZkZ (ZkZ t.mn 0) 1) 10001:=by simp[Zus,e2]
    show Value.int .i64 (Zmc (IntKind.i64.wrap ((c+Zdp t.subs)*Zmc (ZkZ (ZkZ t.mn 0) 1) 10001)) 10001)=Value.int .i64 t.pos
    rw[←hF',Zau (by omega) (by omega),ib,Zth,if_pos e1];rfl
   ·have e1:t.k=5:=by simpa using h5
    have e2:¬t.mx=-1:=by simpa using hx
    have hF':Zus t.mn t.mx=Zmc (ZkZ (ZkZ t.mn 0) t.mx) 10001:=by simp[Zus,e2]
    show Value.int .i64 (Zmc (IntKind.i64.wrap ((c+Zdp t.subs)*Zmc (ZkZ (ZkZ t.mn 0) t.mx) 10001)) 10001)=Value.int .i64 t.pos
    rw[←hF',Zau (by omega) (by omega),ib,Zth,if_pos e1];rfl
   ·have e1:¬t.k=5:=by simpa using h5
    show Value.int .i64 (Zmc (c+Zdp t.subs) 10001)=Value.int .i64 t.pos
    rw[ib,Zth,if_neg e1]
termination_by SizeOf.sizeOf t
decreasing_by all_goals exact cJ
theorem ZlO(t:T)(m:Mem)(hr:Rep m t):CX Try.prog 37 #[t.v] m [] (Ret (.int .i64 t.positions)):=by
 apply Zhm
 unfold Zeu
 intro b m1 bD _
 refine Zah (Zh4 t m1 (hr.mono bD)) fun m2 bZ=>Zab (fun h=>Zad (Mem.le_trans bD bZ) ?_) (fun h=>?_)
 ·have:t.light=false:=by simpa using h
  simp[Ret,T.positions,this]
 have hl:t.light=true:=by simpa using h
 refine Zdo (Zhq t m2 (hr.mono (Mem.le_trans bD bZ)) (of_decide_eq_true hl)) fun m3 cD=>Zad (Mem.le_trans bD (Mem.le_trans bZ cD)) ?_
 simp[Ret,T.positions,hl]
theorem ZlP(l l':List T)(a a':Option Addr)(c c':Nat)(m:Mem)(hl:l.length≤1000000000000000)(hr:l=[]∨∃b o,a=some ⟨b,o,none⟩∧RepAt m b o l)(hr':l'=[]∨∃b o,a'=some ⟨b,o,none⟩∧RepAt m b o l')
  (hp:∀x∈l,∀y∈l',∀m',m.le m'→Rep m' x→Rep m' y→CX Try.prog 106 #[x.v,y.v] m' [] (Ret (.bool (x.same y)))):
  CX Try.prog 132 #[.slice a l.length c,.slice a' l'.length c',.func (.func 106) #[] #[]] m [] (Ret (.bool (ZgK l l'))):=by
 apply ZaI a l.length c a' l'.length c' _ [] []
 unfold Zaw
 refine Zab (fun h=>Zad (Mem.le_refl _) ?_) (fun h=>?_)
 ·have:¬l.length=l'.length:=by
   intro e;rw[e]at h;simp at h
  show Value.bool false=_
  rw[Zne this]
 have dM:l.length=l'.length:=by
  have h2:((l.length:Int) == (l'.length:Int))=true:=by simpa using h
  have:=of_decide_eq_true h2;omega
 refine⟨fun xs _ _ m'' q=>∃i:Nat,i≤l.length∧xs=[.int .i64 i]∧ZgK (l.take i) (l'.take i)=true∧m.le m''∧q=l.length - i,⟨l.length,0,by omega,rfl,by simp[ZgK],Mem.le_refl _,by omega⟩,?_⟩
 rintro n m' q hm ⟨i,hi,hn,fI,cQ,hq⟩
 obtain rfl:n=i:=by simpa using hn
 refine Zab (fun bV=>?_) (fun cK=>?_)
 ·have bF:i < l.length:=by simpa using bV
  obtain⟨x,hx⟩:∃x,l[i]?=some x:=⟨_,List.getElem?_eq_getElem bF⟩
  obtain⟨y,hy⟩:∃y,l'[i]?=some y:=⟨_,List.getElem?_eq_getElem (by omega)⟩
  have jF:x∈l:=List.mem_of_getElem? hx
  have vm:y∈l':=List.mem_of_getElem? hy
  rcases hr with h0|⟨b1,o1,ha,gm⟩
  ·rw[h0]at bF;simp at bF
  rcases hr' with h0|⟨b2,o2,ha',rD⟩
  ·rw[h0]at dM;simp at dM;rw[dM]at bF;simp at bF
  obtain⟨iL,gM⟩:=(gm.mono hm).get hx
  obtain⟨kE,oC⟩:=(rD.mono hm).get hy
  refine⟨b1,o1,ha,⟨by omega,by omega⟩,_,_,_,_,_,_,_,_,iL,fun b3=>Zaa rfl ⟨b2,o2,ha',⟨by omega,by omega⟩,_,_,_,_,_,_,_,_,kE,fun b4=>Zaa rfl ?_⟩⟩
  refine Zah (hp x jF y vm m' hm gM oC) fun m1 bD=>Zab (fun ly=>?_) (fun ly=>?_)
  ·have hf:x.same y=false:=by simpa using ly
   refine Zad (Mem.le_trans hm bD) ?_
   show Value.bool false=_
   rw[ZpD hx hy hf]
  ·have hf:x.same y=true:=by simpa using ly
   refine⟨l.length - (i+1),by omega,i+1,by omega,by rw[Zau (by omega) (by omega)];rfl,Zk0 hx hy fI hf trivial,Mem.le_trans hm bD,rfl⟩
 ·have hi':i=l.length:=by
   have:¬((i:Int) < (l.length:Int)):=by simpa using cK
   omega
  subst hi'
  refine Zad hm ?_
  rw[List.take_length,dM,List.take_length]at fI
  show Value.bool true=_
  rw[fI]
theorem ZrY(t u:T)(m:Mem)(hr:Rep m t)(hu:Rep m u):CX Try.prog 106 #[t.v,u.v] m [] (Ret (.bool (t.same u))):=by
 apply ZoW
 unfold Zld
 intro b m1 bD _ b' m2 bZ _
 have hm:=Mem.le_trans bD bZ
 refine⟨t.same u,?_,Zad hm rfl⟩
 rw[ZtK]
 refine Zab (fun h1=>⟨_,ZoY _ _ _ _ _ _ _ _,Zab (fun h2=>Zab (fun h3=>Zab (fun h4=>?_) (fun h4=>⟨rfl,Za9 ?_⟩)) (fun h3=>⟨rfl,Za9 ?_⟩)) (fun h2=>⟨rfl,Za9 ?_⟩)⟩) (fun h1=>⟨rfl,Za9 ?_⟩)
 ·have hr':=Zdd (hr.mono hm)
  have hu':=Zdd (hu.mono hm)
  refine Zah (ZlP t.subs u.subs t.a u.a t.c u.c m2 hr'.1 hr'.2 hu'.2 fun x hx y hy m' _ iL kE=>?_) fun m3 cD=>⟨rfl,Za9 ?_⟩
  ·have cJ:=ZqM hx
   exact ZrY x y m' iL kE
  ·rw[h1,h2,h3,h4];rfl
 ·rw[h1,h2,h3,h4];rfl
 ·rw[h1,h2,h3];rfl
 ·rw[h1,h2];rfl
 ·rw[h1];rfl
termination_by SizeOf.sizeOf t
decreasing_by exact cJ
theorem Zt1(t u:T)(m:Mem)(hr:Rep m t)(hu:Rep m u):CX Try.prog 58 #[t.v,u.v] m [] (Ret (.bool (t.light&&(u.light&&t.same u)))):=by
 apply ZoX
 unfold Zle
 intro b m1 bD _ b' m2 bZ _
 have hm:=Mem.le_trans bD bZ
 refine⟨t.light&&(u.light&&t.same u),?_,Zad hm rfl⟩
 refine Zah (Zh4 t m2 (hr.mono hm)) fun m3 cD=>Zab (fun h1=>?_) (fun h1=>⟨rfl,Za9 ?_⟩)
 ·refine Zah (Zh4 u m3 (hu.mono (Mem.le_trans hm cD))) fun m4 dC=>Zab (fun h2=>?_) (fun h2=>?_)
  ·have cX:=Mem.le_trans (Mem.le_trans hm cD) dC
   refine Zah (ZrY t u m4 (hr.mono cX) (hu.mono cX)) fun m6 fQ=>⟨rfl,Za9 ?_⟩
   rw[h1,h2];rfl
  ·refine⟨rfl,Za9 ?_⟩
   rw[h1,h2];rfl
 ·rw[h1];rfl
end Go.Proofs.Ytplacemlpkhmfaa

