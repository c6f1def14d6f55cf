/- Part of the proof: conditions and contracts of functions of this program. No condition of its own. -/
import Derived.Test.YtplacemlpkhmfaaPC13Q
import Derived.Test.YtplacemlpkhmfaaMr
import Derived.Test.YtplacemlpkhmfaaPEnv
import Derived.Test.YtplacemlpkhmfaaMc
import Derived.Test.YtplacemlpkhmfaaRows
set_option linter.unusedVariables false
set_option linter.unusedSimpArgs false
set_option linter.unusedSectionVars false
namespace Go.Proofs.Ytplacemlpkhmfaa
open Go Go.Eng Go.Rx Go.Proofs Go.RowKit
set_option maxRecDepth 100000
theorem Zrt(t:T)(m:Mem)(hr:Rep m t):CX Try.prog 108 #[t.v] m [] (Ret (.bool t.right)):=by
 apply Zl4
 intro b m1 aD _
 have dD:=hr.mono aD
 refine⟨t.k != 2&&!t.setZ||(t.k != 5&&(t.mn != 0||t.mx != 0)||(decide (t.k < 3)&&decide (0 < t.subs.length))),?_,Zab (λh=>Zag aD ?_) (λh=>?_)⟩
 ·refine Zab (λh1=>?_) (λh1=>?_)
  ·refine⟨t.setZ,Znp _ _ _ _ _ _ _ _,?_⟩
   simp only[Zph]
   (repeat' split) <;> simp_all <;> omega
  ·simp only[Zph]
   (repeat' split) <;> simp_all <;> omega
 ·simp[Ret,T.right,h]
 ·refine Zab (λh1=>Zag aD ?_) (λh1=>Zab (λh2=>⟨t.setZ,Znp _ _ _ _ _ _ _ _,Zag aD ?_⟩) (λh2=>Zab (λh3=>?_) (λh3=>Zab (λh4=>?_) (λh4=>Zab (λh5=>?_) (λh5=>?_)))))
  ·have:t.k=1:=by simpa using h1
   show Value.bool _=Value.bool t.right;rw[T.right,h];simp[this]
  ·have:t.k=2:=by simpa using h2
   show Value.bool _=Value.bool t.right;rw[T.right,h];simp[this]
  ·have:t.k=3:=by simpa using h3
   refine⟨decide (1 < t.subs.length)&&(!t.has 1&&!t.has 3),Zab (λh4=>?_) (λh4=>?_),Zag aD ?_⟩
   ·refine Zai (ZpI t 1 m1 dD) λm2 bN=>Zab (λh5=>?_) (λh5=>?_)
    ·refine Zai (ZpI t 3 m2 (dD.mono bN)) λm3 bW=>⟨rfl,Zaz ?_⟩
     simp_all <;> (intros;omega)
    ·refine⟨rfl,Zaz ?_⟩
     simp_all <;> (intros;omega)
   ·refine⟨rfl,Zaz ?_⟩
    simp_all <;> (intros;omega)
   ·show Value.bool _=Value.bool t.right;rw[T.right,h];simp[this]
  ·have:t.k=4:=by simpa using h4
   refine⟨decide (1 < t.subs.length)&&!t.has 4,Zab (λh4=>?_) (λh4=>?_),Zag aD ?_⟩
   ·refine Zai (ZpI t 4 m1 dD) λm2 bN=>⟨rfl,Zaz ?_⟩
    simp_all <;> (intros;omega)
   ·refine⟨rfl,Zaz ?_⟩
    simp_all <;> (intros;omega)
   ·show Value.bool _=Value.bool t.right;rw[T.right,h];simp[this]
  ·have:t.k=5:=by simpa using h5
   refine⟨t.subs.length == 1&&(Zdi t.mn t.mx&&!t.has 1),Zab (λh4=>?_) (λh4=>?_),Zag aD ?_⟩
   ·refine Zai (ZpH t.mn t.mx m1) λm2 bN=>Zab (λh5=>?_) (λh5=>?_)
    ·refine Zai (ZpI t 1 m2 (dD.mono bN)) λm3 bW=>⟨rfl,Zaz ?_⟩
     have h4':((t.subs.length:Int) == 1)=true:=h4
     have:t.subs.length=1:=by have:=zA6 h4';omega
     simp_all <;> (intros;omega)
    ·refine⟨rfl,Zaz ?_⟩
     simp_all <;> (intros;omega)
   ·refine⟨rfl,Zaz ?_⟩
    have h4':((t.subs.length:Int) == 1)=false:=h4
    have:¬t.subs.length=1:=by have:=of_decide_eq_false h4';omega
    simp_all <;> (intros;omega)
   ·show Value.bool _=Value.bool t.right;rw[T.right,h];simp[this]
  ·refine⟨t.k == 6&&t.subs.length == 1,Zab (λh4=>⟨rfl,Zaz ?_⟩) (λh4=>⟨rfl,Zaz ?_⟩),Zag aD ?_⟩
   ·have:(t.k == 6)=true:=h4
    rw[this,Bool.true_and]
    show(decide ((t.subs.length:Int)=1))=decide (t.subs.length=1)
    rw[decide_eq_decide];omega
   ·have:(t.k == 6)=false:=h4
    simp[this]
   ·show Value.bool _=Value.bool t.right;rw[T.right,h]
    have e1:¬t.k=1:=by simpa using h1
    have e2:¬t.k=2:=by simpa using h2
    have e3:¬t.k=3:=by simpa using h3
    have e4:¬t.k=4:=by simpa using h4
    have e5:¬t.k=5:=by simpa using h5
    simp[e1,e2,e3,e4,e5]
theorem Zru(t:T)(m:Mem)(hr:Rep m t):CX Try.prog 59 #[t.v] m [] (Ret (.bool t.clean)):=by
 apply Zl5
 intro b m1 aD _ b2
 refine Zai (Zg2 t m1 (hr.mono aD)) λm2 bN=>Zab (λh=>Zag (mLt aD bN) ?_) (λh=>?_)
 ·have:t.light=false:=by simpa using h
  simp[Ret,T.clean,this]
 have hl:t.light=true:=by simpa using h
 refine Zak (ZiQ t m2) (λv m' css h=>by obtain⟨_,rfl,_⟩:=h;rfl) ?_
 rintro g fi ca m3 bW ⟨b3,hv,fH⟩
 obtain⟨rfl,rfl,rfl⟩:=Ziz hv
 have cA:=mLt aD (mLt bN bW)
 refine⟨_,Zgw t m3 b3 fH (hr.mono cA),λy hy=>?_,λ_ css _ m' q=>m3.le m'/\∀x∈t.nodes.take q,x.right=true,⟨Mem.le_refl _,by simp⟩,?_,?_⟩
 ·obtain⟨z,_,rfl⟩:=List.mem_map.1 hy;exact Zpk z
 ·rintro n0 n1 n2 n3 n4 n5 n6 a n7 c cs m4 q cP hq ⟨_,iw⟩ b4
  have hq':(List.map (λz:T=>[z.v]) t.nodes)[(q:Nat)]?=some [Value.agg #[.int .u8 n0,.int .u64 n1,.int .u64 n2,.int .u64 n3,.int .u64 n4,.int .i64 n5,.int .i64 n6,.slice a n7 c]]:=hq
  rw[List.getElem?_map]at hq'
  obtain⟨z,hz,se⟩:=Option.map_eq_some_iff.1 hq'
  have si:z.v=Value.agg #[.int .u8 n0,.int .u64 n1,.int .u64 n2,.int .u64 n3,.int .u64 n4,.int .i64 n5,.int .i64 n6,.slice a n7 c]:=by simpa using se
  have vO:Rep m4 z:=(ZlB (hr.mono cA) (zA2 hz)).mono cP
  have gJ:=Zrt z m4 vO
  rw[si]at gJ
  refine Zai gJ λm5 cY=>Zab (λh=>⟨rfl,Zag (mLt cA (mLt cP cY)) ?_⟩) (λh=>⟨rfl,mLt cP cY,λx hx=>?_⟩)
  ·have rh:z.right=false:=by simpa using h
   have:t.nodes.all T.right=false:=by
    rw[List.all_eq_false];exact⟨z,zA2 hz,by simp[rh]⟩
   simp[Ret,T.clean,this]
  ·rw[List.take_add_one,hz]at hx
   rcases List.mem_append.1 hx with hx|hx
   ·exact iw x hx
   ·simp at hx;rw[hx];simpa using h
 ·rintro cs m4 cP ⟨_,iw⟩
  refine Zag (mLt cA cP) ?_
  rw[List.length_map,List.take_length]at iw
  have:t.nodes.all T.right=true:=List.all_eq_true.2 iw
  simp[Ret,T.clean,this,hl]
theorem ZsE(t:T)(m:Mem)(hr:Rep m t):CX Try.prog 60 #[t.v] m [] (Ret (.int .i64 t.size)):=by
 apply Znm
 intro b m1 aD _
 refine Zai (Zg2 t m1 (hr.mono aD)) λm2 bN=>Zab (λh=>Zag (mLt aD bN) ?_) (λh=>?_)
 ·have:t.light=false:=by simpa using h
  simp[Ret,T.size,this]
 have hl:t.light=true:=by simpa using h
 have sj:t.nodes.length<=10000:=zA6 hl
 intro b2
 refine Zak (ZiQ t m2) (λv m' css h=>by obtain⟨_,rfl,_⟩:=h;rfl) ?_
 rintro g fi ca m3 bW ⟨b3,hv,fH⟩
 obtain⟨rfl,rfl,rfl⟩:=Ziz hv
 have cA:=mLt aD (mLt bN bW)
 refine⟨_,Zgw t m3 b3 fH (hr.mono cA),λy hy=>?_,λ_ css _ m' q=>css=[[.int .i64 q]]/\q<=t.nodes.length,⟨rfl,by omega⟩,?_,?_⟩
 ·obtain⟨z,_,rfl⟩:=List.mem_map.1 hy;exact Zpk z
 ·rintro n0 n1 n2 n3 n4 n5 n6 a n7 c cs m4 q cP hq ⟨bZ,_⟩
  obtain rfl:cs=[.int .i64 q]:=by simpa using bZ
  have aH:q < t.nodes.length:=by
   have:=(zA0 (show(List.map (λz:T=>[z.v]) t.nodes)[(q:Nat)]?=some _ from hq)).1
   simpa using this
  have hw:IntKind.i64.wrap (RowKit.intOf (Value.int .i64 (q:Int))+1)=(q:Int)+1:=Zat (n:=(q:Int)+1) (by omega) (by omega)
  refine Zal rfl (Zaa rfl ?_)
  simp only[hw]
  exact⟨by trivial,by simp,by omega⟩
 ·rintro cs m4 cP ⟨bZ,iw⟩
  obtain rfl:cs=[.int .i64 t.nodes.length]:=by simpa using bZ
  refine Zal rfl (Zag (mLt cA cP) ?_)
  simp[Ret,T.size,hl]
theorem Zgy(t:T)(m:Mem)(hr:Rep m t)(hl:t.nodes.length<=10000):CX Try.prog 93 #[t.v] m [] (Ret (.int .i64 t.pos)):=by
 apply Zgu
 intro b m1 aD _
 have dM:=Zqo t
 have fU:=Zm5 t
 refine Zab (λhk=>?_) (λhk=>?_)
 all_goals
  have hk':(if t.k=2 then(1:Int)else 0)=1/\t.k=2\/(if t.k=2 then(1:Int)else 0)=0/\t.k≠2:=by split <;> simp_all
  refine⟨λxs _ _ m'' q=>∃i:Nat,i<=t.subs.length/\xs=[.int .i64 ((if t.k=2 then 1 else 0)+ZcA (t.subs.take i)),.int .i64 i]/\m1.le m''/\q=t.subs.length - i,⟨t.subs.length,0,by omega,by simp_all [ZcA],Mem.le_refl _,by omega⟩,?_⟩
  rintro n n1 m2 q bN ⟨i,hi,eJ,_,hq⟩
  have dE:=ZdV (t.subs.take i)
  have gj:=Zqn (t.subs.take i)
  have fH:(t.subs.take i).length<=i:=List.length_take_le _ _
  clear hk'
  generalize hc:(if t.k=2 then(1:Int)else 0)=c at *
  have vP:0<=c/\c<=1:=by rw[<-hc];split <;> omega
  simp only[List.cons.injEq,Value.int.injEq,true_and,and_true]at eJ
  obtain⟨rfl,rfl⟩:=eJ
  refine Zab (λaH=>?_) (λcL=>?_)
  ·have aF:i < t.subs.length:=by simpa using aH
   obtain⟨x,hx⟩:∃x,t.subs[i]?=some x:=⟨_,zA3 aF⟩
   have cD:x∈t.subs:=zA2 hx
   have bU:=Zpj cD
   have hU:=Zpm cD
   obtain⟨_,h0|⟨b1,o1,ha,eP⟩⟩:=ZcQ hr
   ·rw[h0]at aF;simp at aF
   obtain⟨gT,f5⟩:=(eP.mono ((mLt aD bN))).get hx
   have nv:=ZeY x
   refine⟨b1,o1,ha,⟨by omega,by omega⟩,_,_,_,_,_,_,_,_,gT,λb2=>Zaa rfl ?_⟩
   refine Zem (Zgy x m2 f5 (by omega)) λm3 bW=>⟨rfl,t.subs.length - (i+1),by omega,i+1,by omega,?_,mLt bN bW,rfl⟩
   rw[Zat (by omega) (by omega),Zat (by omega) (by omega),Zpl hx,Int.add_assoc]
   rfl
  ·have hi':i=t.subs.length:=by
    have:¬((i:Int) < (t.subs.length:Int)):=by simpa using cL
    omega
   subst hi'
   rw[List.take_length]at dE gj ⊢
   have hF:=Zqm t.mn t.mx
   have oH:0<=(c+ZcA t.subs)*Zri t.mn t.mx/\(c+ZcA t.subs)*Zri t.mn t.mx<=100020001*10001:=by
    constructor
    ·exact Int.mul_nonneg (by omega) hF.1
    ·exact Int.mul_le_mul (by omega) hF.2 hF.1 (by omega)
   refine Zab (λh5=>Zab (λhx=>Zag (mLt aD bN) ?_) (λhx=>Zag (mLt aD bN) ?_)) (λh5=>Zag (mLt aD bN) ?_)
   ·have e1:t.k=5:=by simpa using h5
    have e2:t.mx=-1:=by simpa using hx
    have hF':Zri t.mn t.mx=Zj6 (Zjv (Zjv t.mn 0) 1) 10001:=by simp[Zri,e2]
    show Value.int .i64 (Zj6 (IntKind.i64.wrap ((c+ZcA t.subs)*Zj6 (Zjv (Zjv t.mn 0) 1) 10001)) 10001)=Value.int .i64 t.pos
    rw[<-hF',Zat (by omega) (by omega),fU,Zrh,if_pos e1];rfl
   ·have e1:t.k=5:=by simpa using h5
    have e2:¬t.mx=-1:=by simpa using hx
    have hF':Zri t.mn t.mx=Zj6 (Zjv (Zjv t.mn 0) t.mx) 10001:=by simp[Zri,e2]
    show Value.int .i64 (Zj6 (IntKind.i64.wrap ((c+ZcA t.subs)*Zj6 (Zjv (Zjv t.mn 0) t.mx) 10001)) 10001)=Value.int .i64 t.pos
    rw[<-hF',Zat (by omega) (by omega),fU,Zrh,if_pos e1];rfl
   ·have e1:¬t.k=5:=by simpa using h5
    show Value.int .i64 (Zj6 (c+ZcA t.subs) 10001)=Value.int .i64 t.pos
    rw[fU,Zrh,if_neg e1]
termination_by SizeOf.sizeOf t
decreasing_by all_goals exact bU
theorem Zkf(t:T)(m:Mem)(hr:Rep m t):CX Try.prog 37 #[t.v] m [] (Ret (.int .i64 t.positions)):=by
 apply Zgv
 intro b m1 aD _
 refine Zai (Zg2 t m1 (hr.mono aD)) λm2 bN=>Zab (λh=>Zag (mLt aD bN) ?_) (λh=>?_)
 ·have:t.light=false:=by simpa using h
  simp[Ret,T.positions,this]
 have hl:t.light=true:=by simpa using h
 refine Zem (Zgy t m2 (hr.mono (mLt aD bN)) (zA6 hl)) λm3 bW=>Zag (mLt aD (mLt bN bW)) ?_
 simp[Ret,T.positions,hl]
theorem Zkg(l l':List T)(a a':Option Addr)(c c':Nat)(m:Mem)(hl:l.length<=1000000000000000)(hr:l=[]\/∃b o,a=some ⟨b,o,none⟩/\RepAt m b o l)(hr':l'=[]\/∃b o,a'=some ⟨b,o,none⟩/\RepAt m b o l')
  (hp:∀x∈l,∀y∈l',∀m',m.le m'->Rep m' x->Rep m' y->CX Try.prog 106 #[x.v,y.v] m' [] (Ret (.bool (x.same y)))):
  CX Try.prog 132 #[.slice a l.length c,.slice a' l'.length c',.func (.func 106) #[] #[]] m [] (Ret (.bool (ZfS l l'))):=by
 apply ZaD a l.length c a' l'.length c' _ [] []
 refine Zab (λh=>Zag (Mem.le_refl _) ?_) (λh=>?_)
 ·have:¬l.length=l'.length:=by
   intro e;rw[e]at h;simp at h
  show Value.bool false=_
  rw[ZlC this]
 have dU:l.length=l'.length:=by
  have h2:((l.length:Int) == (l'.length:Int))=true:=by simpa using h
  have:=zA6 h2;omega
 refine⟨λxs _ _ m'' q=>∃i:Nat,i<=l.length/\xs=[.int .i64 i]/\ZfS (l.take i) (l'.take i)=true/\m.le m''/\q=l.length - i,⟨l.length,0,by omega,rfl,by simp[ZfS],Mem.le_refl _,by omega⟩,?_⟩
 rintro n m' q hm ⟨i,hi,hn,fY,cA,hq⟩
 obtain rfl:n=i:=by simpa using hn
 refine Zab (λaH=>?_) (λcL=>?_)
 ·have aF:i < l.length:=by simpa using aH
  obtain⟨x,hx⟩:∃x,l[i]?=some x:=⟨_,zA3 aF⟩
  obtain⟨y,hy⟩:∃y,l'[i]?=some y:=⟨_,zA3 (by omega)⟩
  have je:x∈l:=zA2 hx
  have vQ:y∈l':=zA2 hy
  rcases hr with h0|⟨b1,o1,ha,eP⟩
  ·rw[h0]at aF;simp at aF
  rcases hr' with h0|⟨b2,o2,ha',sk⟩
  ·rw[h0]at dU;simp at dU;rw[dU]at aF;simp at aF
  obtain⟨gT,f5⟩:=(eP.mono hm).get hx
  obtain⟨kg,oI⟩:=(sk.mono hm).get hy
  refine⟨b1,o1,ha,⟨by omega,by omega⟩,_,_,_,_,_,_,_,_,gT,λb3=>Zaa rfl ⟨b2,o2,ha',⟨by omega,by omega⟩,_,_,_,_,_,_,_,_,kg,λb4=>Zaa rfl ?_⟩⟩
  refine Zai (hp x je y vQ m' hm f5 oI) λm1 aD=>Zab (λld=>?_) (λld=>?_)
  ·have hf:x.same y=false:=by simpa using ld
   refine Zag (mLt hm aD) ?_
   show Value.bool false=_
   rw[Zn9 hx hy hf]
  ·have hf:x.same y=true:=by simpa using ld
   refine⟨l.length - (i+1),by omega,i+1,by omega,by rw[Zat (by omega) (by omega)];rfl,Zjw hx hy fY hf trivial,mLt hm aD,rfl⟩
 ·have hi':i=l.length:=by
   have:¬((i:Int) < (l.length:Int)):=by simpa using cL
   omega
  subst hi'
  refine Zag hm ?_
  rw[List.take_length,dU,List.take_length]at fY
  show Value.bool true=_
  rw[fY]
theorem ZqC(t u:T)(m:Mem)(hr:Rep m t)(hu:Rep m u):CX Try.prog 106 #[t.v,u.v] m [] (Ret (.bool (t.same u))):=by
 apply Znn
 intro b m1 aD _ b' m2 bN _
 have hm:=mLt aD bN
 refine⟨t.same u,?_,Zag hm rfl⟩
 rw[Zsq]
 refine Zab (λh1=>⟨_,Znp _ _ _ _ _ _ _ _,Zab (λh2=>Zab (λh3=>Zab (λh4=>?_) (λh4=>⟨rfl,Zaz ?_⟩)) (λh3=>⟨rfl,Zaz ?_⟩)) (λh2=>⟨rfl,Zaz ?_⟩)⟩) (λh1=>⟨rfl,Zaz ?_⟩)
 ·have hr':=ZcQ (hr.mono hm)
  have hu':=ZcQ (hu.mono hm)
  refine Zai (Zkg t.subs u.subs t.a u.a t.c u.c m2 hr'.1 hr'.2 hu'.2 λx hx y hy m' _ gT kg=>?_) λm3 bW=>⟨rfl,Zaz ?_⟩
  ·have bU:=Zpj hx
   exact ZqC x y m' gT kg
  ·rw[h1,h2,h3,h4];rfl
 ·rw[h1,h2,h3,h4];rfl
 ·rw[h1,h2,h3];rfl
 ·rw[h1,h2];rfl
 ·rw[h1];rfl
termination_by SizeOf.sizeOf t
decreasing_by exact bU
theorem ZsF(t u:T)(m:Mem)(hr:Rep m t)(hu:Rep m u):CX Try.prog 58 #[t.v,u.v] m [] (Ret (.bool (t.light&&(u.light&&t.same u)))):=by
 apply Zno
 intro b m1 aD _ b' m2 bN _
 have hm:=mLt aD bN
 refine⟨t.light&&(u.light&&t.same u),?_,Zag hm rfl⟩
 refine Zai (Zg2 t m2 (hr.mono hm)) λm3 bW=>Zab (λh1=>?_) (λh1=>⟨rfl,Zaz ?_⟩)
 ·refine Zai (Zg2 u m3 (hu.mono (mLt hm bW))) λm4 cP=>Zab (λh2=>?_) (λh2=>?_)
  ·have cY:=mLt (mLt hm bW) cP
   refine Zai (ZqC t u m4 (hr.mono cY) (hu.mono cY)) λm6 gM=>⟨rfl,Zaz ?_⟩
   rw[h1,h2];rfl
  ·refine⟨rfl,Zaz ?_⟩
   rw[h1,h2];rfl
 ·rw[h1];rfl
end Go.Proofs.Ytplacemlpkhmfaa
namespace Go.Proofs.Ytplacemlpkhmfaa
open Go Go.Eng Go.Rx Go.Proofs Go.RowKit
theorem ZrY{b:Bool}{p q:Prop}(h:b=false)(k:q):br b p q:=by subst h;exact k
theorem ZjG{α:Type}{l:List α}{k:Nat}(h:k < l.length):∃x,l[k]?=some x:=⟨l[k],zA3 h⟩
theorem Za6(t:T):Rx.Zcg [t]=t.cs:=by simp[Rx.Zcg]
theorem ZeL{m:Mem}{a:Option Addr}{ts:List T}(h:rowRd m a (Rx.Zcg ts)){i:Nat}{t:T}(hi:ts[i]?=some t):∃b o,a=some ⟨b,o,none⟩/\m.reads b (o+i*8) t.cs:=by
 rcases h with h|⟨b,o,ha,h⟩
 ·have hl:(Rx.Zcg ts).length=0:=by rw[h];rfl
  rw[ZaG]at hl
  have:=(zA0 hi).1
  omega
 ·refine⟨b,o,ha,λj v hj=>?_⟩
  rw[Nat.add_assoc]
  refine h (i*8+j) v ?_
  have e:ts=ts.take i++(t::ts.drop (i+1)):=by
   have aH:=(zA0 hi).1
   have h2:=List.drop_eq_getElem_cons aH
   rw[(zA0 hi).2]at h2
   rw[<-h2,List.take_append_drop]
  have aH:=(zA0 hi).1
  have vR:=(zA0 hj).1
  rw[e,ZaH,zA4 (by rw[ZaG,List.length_take,Nat.min_eq_left (by omega)];omega),ZaG,List.length_take,Nat.min_eq_left (by omega),show i*8+j - i*8=j by omega]
  have e2:Rx.Zcg (t::ts.drop (i+1))=t.cs++Rx.Zcg (ts.drop (i+1)):=by simp[Rx.Zcg]
  rw[e2,zA5 vR];exact hj
def ZqD(mb M0:Mem)(φ:T->Prop):Value->Mem->List (List Value)->Prop:=λv M' css=>∃m0,mb.le m0/\m0.le M'/\(∀b o u,M0 b o=some u->∀o',m0 b o'=mb b o')/\Zod φ v m0 css
theorem ZjH{mb M0:Mem}{φ:T->Prop}{m:Mem}{K:TRK}(k:∀(t:T)(m0 m':Mem),m.le m'->mb.le m0->m0.le m'->(∀b o u,M0 b o=some u->∀o',m0 b o'=mb b o')->Rep m0 t->φ t->K t.k t.s0 t.s1 t.s2 t.s3 t.mn t.mx t.a t.subs.length t.c m'):
  ∀(n0 n1 n2 n3 n4 n5 n6:Int)(a:Option Addr)(n c:Nat)(m':Mem),m.le m'->ZqD mb M0 φ (.agg #[.int .u8 n0,.int .u64 n1,.int .u64 n2,.int .u64 n3,.int .u64 n4,.int .i64 n5,.int .i64 n6,.slice a n c]) m' []->K n0 n1 n2 n3 n4 n5 n6 a n c m':=by
 rintro n0 n1 n2 n3 n4 n5 n6 a n c m' hm ⟨m0,h1,h2,h3,t,hv,hr,hp⟩
 simp only[T.v,Value.agg.injEq,Array.mk.injEq,List.cons.injEq,Value.int.injEq,Value.slice.injEq,true_and,and_true]at hv
 obtain⟨rfl,rfl,rfl,rfl,rfl,rfl,rfl,rfl,rfl,rfl⟩:=hv
 exact k t m0 m' hm h1 h2 h3 hr hp
theorem ZdI{mb M0:Mem}{φ:T->Prop}:∀(v:Value)(m':Mem) (css:List (List Value)),ZqD mb M0 φ v m' css->Shape.fits (.agg [.int .u8,.int .u64,.int .u64,.int .u64,.int .u64,.int .i64,.int .i64,.slice]) v=true:=λv _ _ ⟨_,_,_,_,t,e,_⟩=>by rw[e];rfl
def Apart(mb:Mem)(a:Option Addr):Prop:=a=none\/∃b,a=some ⟨b,0,none⟩/\mb.free b
theorem Apart.tok{mb M:Mem}{a a':Option Addr}{n c:Nat}(h:Apart mb a)(hm:mb.le M)(ht:TokFact M a a' n c):Apart mb a':=by
 rcases ht.2 with h1|⟨b,o,h1,h2⟩
 ·exact .inl h1
 rcases h2 with h2|⟨h3,h2⟩
 ·rw[<-h2];exact h
 ·subst h3
  refine .inr ⟨b,h1,λo=>?_⟩
  cases hb:mb b o with
  | none=>rfl
  | some v=>have:=hm _ _ _ hb;rw[h2 o]at this;cases this
theorem Zoq{m:Mem}{a:Option Addr}{ts r:List T}(h:rowRd m a (Rx.Zcg (ts++r))):rowRd m a (Rx.Zcg ts):=by
 rw[ZaH]at h
 rcases h with h|⟨b,o,ha,h⟩
 ·exact .inl (List.append_eq_nil_iff.1 h).1
 ·refine .inr ⟨b,o,ha,λj v hj=>h j v ?_⟩
  rw[zA5 (zA0 hj).1];exact hj
theorem Zor{m:Mem}{b:Nat}{ts:List T}{x t:T}(h:rowRd m (some ⟨b,0,none⟩) (Rx.Zcg (ts++[x]))):rowRd (m.upd b (0+ts.length*8) t.cs) (some ⟨b,0,none⟩) (Rx.Zcg (ts++[t])):=by
 refine .inr ⟨b,0,rfl,λj v hj=>?_⟩
 rw[ZaH]at hj
 rcases Nat.lt_or_ge j (ts.length*8)with aH|cL
 ·rw[zA5 (by rw[ZaG];exact aH)]at hj
  unfold Mem.upd
  rw[if_neg (by omega)]
  rcases h with h|⟨b',o',ha,h⟩
  ·have hl:(Rx.Zcg (ts++[x])).length=0:=by rw[h];rfl
   rw[ZaG,zA1]at hl
   simp at hl
  ·cases ha
   refine h j v ?_
   rw[ZaH,zA5 (by rw[ZaG];exact aH)];exact hj
 ·rw[zA4 (by rw[ZaG];exact cL),ZaG,Za6]at hj
  have h8:=(zA0 hj).1
  have h8':t.cs.length=8:=rfl
  unfold Mem.upd
  rw[if_pos ⟨rfl,by omega,by omega⟩,show 0+j - (0+ts.length*8)=j - ts.length*8 by omega]
  exact hj
theorem Apart.base{mb m:Mem}{a:Option Addr}{ts:List T}(h:Apart mb a)(bQ:rowRd m a (Rx.Zcg ts))(hn:ts≠[]):∃b,a=some ⟨b,0,none⟩/\mb.free b/\∃o u,m b o=some u:=by
 obtain⟨t,r,rfl⟩:∃t r,ts=t::r:=by cases ts with
  | nil=>exact absurd rfl hn
  | cons t r=>exact⟨t,r,rfl⟩
 obtain⟨b',o,ha,cM⟩:=ZeL bQ (i:=0) (t:=t) rfl
 rcases h with h|⟨b,hb,hf⟩
 ·rw[h]at ha;cases ha
 ·rw[hb]at ha;cases ha
  exact⟨b',hb,hf,_,_,cM 0 (.int .u8 t.k) rfl⟩
theorem Zt3{ts:List T}(h:1 < ts.length):∃r x y,ts=r++[x,y]:=by
 have h1:ts.length - 2 < ts.length:=by omega
 refine⟨ts.take (ts.length - 2),ts[ts.length - 2],ts[ts.length - 1],?_⟩
 have e:=(List.take_append_drop (ts.length - 2) ts).symm
 rw[List.drop_eq_getElem_cons h1,List.drop_eq_getElem_cons (by omega),List.drop_eq_nil_of_le (by omega)]at e
 simpa[show ts.length - 2+1=ts.length - 1 by omega]using e
theorem Zt4{ts:List T}(h:0 < ts.length):∃r x,ts=r++[x]:=by
 refine⟨ts.dropLast,ts.getLast (by intro e;subst e;simp at h),?_⟩
 exact(List.dropLast_concat_getLast _).symm
end Go.Proofs.Ytplacemlpkhmfaa
namespace Go.Proofs.Ytplacemlpkhmfaa
open Go Go.Eng Go.Proofs Go.RowKit
open Go.Value (int slice agg bool string tuple func)
open Go.IntKind (u8 u64 i64)
set_option maxRecDepth 100000
noncomputable def Znq:Env:={ EB with
 frzNew:=[2] }
theorem Zl6(aI aZ bC bD p1:Int)(m:Mem)(R:RT)(h:
 lE (u8.wrap (↑(BitVec.toNat (BitVec.ofInt 8 p1&&&BitVec.ofInt 8 (63:Int))):Int)) λyL=>lV [int u64 aI,int u64 aZ,int u64 bC,int u64 bD] λxL=>fzM m xL λb m'=>(0:Int)<=6/\Zaf (Int.fdiv p1 ((2:
 Int) ^ 6)) 4/\Eng.Zp3 xL (0+Int.toNat (Int.fdiv p1 ((2:Int) ^ 6))*1) λv=>chk (Zbw u64 v&&true) ((0:Int)<=yL/\rtM m m' R (bool (u64.wrap (↑(BitVec.toNat (BitVec.ofInt 64 (Int.fdiv (RowKit.intOf v) ((2:Int) ^
 min (Int.toNat yL) 64))&&&BitVec.ofInt 64 (1:Int))):Int) == 1)))):CX Try.prog 117 #[.agg #[.int .u64 aI,.int .u64 aZ,.int .u64 bC,.int .u64 bD],.int .u8 p1] m [] R:=
 Zaj (E:=Znq) ZaB mix Try.func117 [.v (.agg #[.int .u64 aI,.int .u64 aZ,.int .u64 bC,.int .u64 bD]),.v (.int .u8 p1)] [] (by kernel_rfl) (Eq.mp (by kernel_rfl) h)
noncomputable def ZcI:Env:={ EB with
 loops:=swI nLa [(4,⟨[(13,.int .i64)],[],[],false⟩)]
 dr:=swI [] [(6,[dO 0 [],dO 1 [],dO 2 [0,1],dO 3 [0,1,2],dO 4 [],dO 5 [],dO 6 [4,5],dO 7 [4,5,6],dO 8 [0,1,2,3,4,5,6,7]])] }
theorem ZcD(p0a:Option Addr)(p0n p0c:Nat)(p1a:Option Addr)(p1n p1c:Nat)(m:Mem)(R:RT)(h:
 br (!(↑p0n:Int) == (↑p1n:Int)) (rtM m m R (bool false)) (∃I,inI I [int i64 0] [] [] m/\∀n m' (n_1:Nat),m.le m'->I [int i64 n] [] [] m' n_1->br (decide (n < (↑p0n:Int))) (atA p0a λb o=>Zaf n p0n/\∃(v:
 Value),m' b (o+Int.toNat n*1)=some v/\atA p1a λb o=>Zaf n p1n/\∃(v_1:Value),m' b (o+Int.toNat n*1)=some v_1/\chk (Zbw i64 v&&Zbw i64 v_1) (br (!RowKit.intOf v == RowKit.intOf v_1) (rtM m m' R
 (bool false)) (nxI n_1 I [int i64 (i64.wrap (n+1))] [] [] m'))) (rtM m m' R (bool true)))):CX Try.prog 23 #[.slice p0a p0n p0c,.slice p1a p1n p1c] m [] R:=
 Zaj (E:=ZcI) ZaB mix Try.func23 [.v (.slice p0a p0n p0c),.v (.slice p1a p1n p1c)] [] (by kernel_rfl) (Eq.mp (by kernel_rfl) h)
end Go.Proofs.Ytplacemlpkhmfaa
namespace Go.Proofs.Ytplacemlpkhmfaa
open Go Go.Eng Go.Rx Go.Proofs Go.RowKit
set_option maxRecDepth 100000
theorem Zt5(i:Nat):Int.tdiv (i:Int) 64=((i / 64:Nat):Int):=rfl
theorem ZsG(i:Nat):Int.tmod (i:Int) 64=((i % 64:Nat):Int):=rfl
theorem sh6:∀c:Nat,c < 256->IntKind.u8.wrap ((BitVec.ofInt 8 (c:Int)&&&BitVec.ofInt 8 63).toNat:Int)=((c % 64:Nat):Int)/\Int.fdiv (c:Int) (2 ^ 6)=((c / 64:Nat):Int):=by decide
theorem ZsH(t:T)(c:Nat)(hc:c < 256)(m:Mem)(hr:Rep m t):CX Try.prog 117 #[.agg #[.int .u64 t.s0,.int .u64 t.s1,.int .u64 t.s2,.int .u64 t.s3],.int .u8 c] m [] (Ret (.bool (t.hasB c))):=by
 apply Zl6
 intro b m1 aD _
 obtain⟨h1,h2⟩:=sh6 c hc
 simp only[h1,h2,zA8,Nat.zero_add,Nat.mul_one]
 have bX:=Zsp hr
 have hw:∃w:Int,[Value.int .u64 t.s0,.int .u64 t.s1,.int .u64 t.s2,.int .u64 t.s3][c / 64]?=some (.int .u64 w)/\0<=w/\w < 18446744073709551616/\t.hasB c=w.toNat.testBit (c % 64):=by
  have:c / 64=0\/c / 64=1\/c / 64=2\/c / 64=3:=by omega
  unfold T.hasB
  rcases this with e|e|e|e
  ·exact⟨t.s0,by rw[e];rfl,bX.s0.1,bX.s0.2,by simp[e]⟩
  ·exact⟨t.s1,by rw[e];rfl,bX.s1.1,bX.s1.2,by simp[e]⟩
  ·exact⟨t.s2,by rw[e];rfl,bX.s2.1,bX.s2.2,by simp[e]⟩
  ·exact⟨t.s3,by rw[e];rfl,bX.s3.1,bX.s3.2,by simp[e]⟩
 obtain⟨w,dR,dT,mj,vS⟩:=hw
 refine⟨by omega,⟨by omega,by omega⟩,Zal dR (Zaa rfl ⟨by omega,Zag aD ?_⟩)⟩
 rw[vS,Nat.min_eq_left (by omega)]
 obtain⟨n,rfl⟩:∃n:Nat,w=n:=⟨w.toNat,by omega⟩
 show Value.bool (IntKind.u64.wrap _ == 1)=_
 simp only[RowKit.intOf]
 rw[Zoc _ _ (by omega)]
 simp
end Go.Proofs.Ytplacemlpkhmfaa
namespace Go.Proofs.Ytplacemlpkhmfaa
open Go Go.Eng Go.Proofs Go.RowKit Go.Rx
end Go.Proofs.Ytplacemlpkhmfaa
namespace Go.Proofs.Ytplacemlpkhmfaa
open Go Go.Eng Go.Rx Go.Proofs Go.RowKit
set_option maxRecDepth 100000
abbrev txV(a:Option Addr)(s:List Nat)(c:Nat)(back:Bool):Value:=.agg #[.slice a s.length c,.bool back]
def IH(a:Option Addr)(s:List Nat)(c:Nat)(back:Bool)(t:T):Prop:=∀x∈t.subs,∀(f:Nat)(m:Mem),f < ZuE->Rep m x->Byt m a s->CX Try.prog 89 #[txV a s c back,x.v,plV f] m [] (Ret (plV (x.lead s back f)))
section
variable (t:T) (a:Option Addr) (s:List Nat) (c:Nat) (back:Bool) (f:Nat) (m:Mem) (hr:Rep m t) (hb:Byt m a s) (hs:s.length<=512) (ih:IH a s c back t) (hf:f < ZuE)
include hr hb hs ih hf
end
def T.matches(t:T)(s:List Nat):Bool:=t.wrong s.length 0 == 0&&(t.lead s false 1).testBit s.length
theorem Rgs.get{m:Mem}{a l}(h:Rgs m a l){i:Nat}{r:Rg}(hi:l[i]?=some r):(∃b o,a=some ⟨b,o,none⟩/\m.reads b (o+i*10) r.cs)/\Rep m r.t:=by
 refine⟨?_,h.2.2 r (zA2 hi)⟩
 rcases h.2.1 with h|⟨b,o,h1,h2⟩
 ·subst h;simp at hi
 ·exact⟨b,o,h1,h2 i r hi⟩
theorem Zt6{n:Int}(h1:0<=n)(h2:n < 256):IntKind.u8.wrap n=n:=by
 unfold IntKind.wrap
 simp only[IntKind.bits,IntKind.signed,Bool.false_and,Bool.false_eq_true,if_false]
 have e:(2:Int) ^ 8=256:=by decide
 rw[e];omega
theorem Zrv(t:T)(m:Mem)(hr:Rep m t):CX Try.prog 66 #[t.v] m [] (Zod (λu=>∃a c,u=Zbg 6 0 0 a c [t])):=by
 apply Zhi
 intro b m1 aD _ b1 b2 hf
 have cA:=Mem.le_add hf t.cs
 refine ZhV (mLt aD cA) ⟨Zbg 6 0 0 (some ⟨b2,0,none⟩) 1 [t],rfl,ZbB (Zoe ?_ (hr.mono (mLt aD cA))) (by omega) (by omega) (by omega),_,_,rfl⟩
 intro j v hj
 rw[Nat.zero_add,Mem.add_same];exact hj
theorem ZsI(t:T)(mn mx:Int)(h1 : -9223372036854775808<=mn/\mn<=9223372036854775807)(h2 : -9223372036854775808<=mx/\mx<=9223372036854775807)(m:Mem)(hr:Rep m t):CX Try.prog 67 #[t.v,.int .i64 mn,.int .i64 mx] m [] (Zod (λu=>∃a c,u=Zbg 5 mn mx a c [t])):=by
 apply Zka
 intro b m1 aD _ b1 b2 hf
 have cA:=Mem.le_add hf t.cs
 refine ZhV (mLt aD cA) ⟨Zbg 5 mn mx (some ⟨b2,0,none⟩) 1 [t],rfl,ZbB (Zoe ?_ (hr.mono (mLt aD cA))) (by omega) h1 h2,_,_,rfl⟩
 intro j v hj
 rw[Nat.zero_add,Mem.add_same];exact hj
def Zd2(s:ByteArray):List Nat:=s.data.toList.map λb=>b.toNat
theorem Znr(s:ByteArray):(Zd2 s).length=s.size:=by unfold Zd2;rw[List.length_map,Array.length_toList];rfl
theorem ZpJ(s:ByteArray):∀c∈Zd2 s,c < 256:=by
 intro c hc
 unfold Zd2 at hc
 obtain⟨b,_,rfl⟩:=List.mem_map.1 hc
 exact b.toBitVec.isLt
theorem Zrw{s:ByteArray}{k c:Nat}(h:(Zd2 s)[k]?=some c):ZrI s k=(c:Int):=by
 unfold Zd2 at h
 rw[List.getElem?_map]at h
 obtain⟨b,hb,rfl⟩:=Option.map_eq_some_iff.1 h
 unfold ZrI
 rw[List.getD_eq_getElem?_getD,hb];rfl
theorem Zl7(s:ByteArray)(hs:(Zd2 s).length<=100000)(m:Mem):CX Try.prog 63 #[.string s] m [] (Zod (λt=>t=ZiB (Zd2 s))):=by
 apply Zhj
 intro b b1
 have bG:=Znr s
 refine⟨λxs css tvs m' q=>∃k:Nat,k<=s.size/\xs=[.int .i64 k]/\css=[Zqr ((Zd2 s).take k)]/\q=s.size - k,⟨_,0,by omega,rfl,rfl,rfl⟩,?_⟩
 rintro n cs m1 q aD ⟨k,hk,hn,bZ,hq⟩
 obtain rfl:n=k:=by simpa using hn
 obtain rfl:cs=Zqr ((Zd2 s).take k):=by simpa using bZ
 refine Zab (λaH=>?_) (λcL=>?_)
 ·have aF:k < s.size:=by have:=zA6 aH;omega
  obtain⟨c,hc⟩:=ZjG (l:=Zd2 s) (k:=k) (by omega)
  have lf:=ZpJ s c (zA2 hc)
  have hw:IntKind.i64.wrap ((k:Int)+1)=((k+1:Nat):Int):=by rw[Zat (by omega) (by omega)];rfl
  have vT:IntKind.u8.wrap (Int.tdiv (c:Int) 64)=((c / 64:Nat):Int):=by rw[Zt5];exact Zt6 (by omega) (by omega)
  have hr:IntKind.u64.wrap (1*2 ^ min (Int.toNat (Int.tmod (c:Int) 64)) 64)=((2 ^ (c % 64):Nat):Int):=by
   rw[ZsG,zA8,Nat.min_eq_left (by omega),Int.one_mul]
   have:=ZrS (2 ^ (c % 64)) (by
    have:2 ^ (c % 64) < 2 ^ 64:=Nat.pow_lt_pow_right (by omega) (by omega)
    exact this)
   rw[<-this];push_cast;rfl
  have h2:(2:Nat) ^ (c % 64) < 18446744073709551616:=by
   have:(2:Nat) ^ (c % 64) < 2 ^ 64:=Nat.pow_lt_pow_right (by omega) (by omega)
   exact this
  have hj:c / 64 < 4:=by omega
  simp only[hw,zA8,Zrw hc,vT,hr,Nat.zero_add,Nat.mul_one]
  refine⟨⟨by omega,by omega⟩,by omega,⟨by omega,by omega⟩,Zal (Zpq _ hj) ⟨⟨by omega,by omega⟩,by omega,by rw[ZsG];omega,Zaa rfl ⟨⟨by omega,by omega⟩,Zaa (by rw[Nat.ble_eq];show c / 64+1<=4;omega) ⟨by trivial,s.size - (k+1),by omega,k+1,by omega,rfl,?_,rfl⟩⟩⟩⟩
  simp only[RowKit.intOf]
  rw[ZiA _ _ (Zqq _ _) h2,Zm6 _ rfl hj,Zgj hc]
 ·have:k=s.size:=by have:=of_decide_eq_false cL;omega
  subst this
  rw[<-bG,List.take_length]
  exact Zaa rfl (Zaa rfl (Zag aD ⟨ZiB (Zd2 s),rfl,ZlE _ m,rfl⟩))
theorem Zns(n:Nat)(hn:n < 256)(m:Mem):CX Try.prog 64 #[.int .u8 n] m [] (λv _ _=>∃s,v=.string s/\Zd2 s=ZcW n):=by
 apply ZfI
 intro b hf
 have ht:Int.tmod (n:Int) 12=((n % 12:Nat):Int):=rfl
 simp only[ht,zA8,Nat.mul_one]
 refine⟨by omega,⟨by omega,by omega⟩,?_⟩
 have h:n % 12=0\/n % 12=1\/n % 12=2\/n % 12=3\/n % 12=4\/n % 12=5\/n % 12=6\/n % 12=7\/n % 12=8\/n % 12=9\/n % 12=10\/n % 12=11:=by omega
 unfold ZcW
 rcases h with e|e|e|e|e|e|e|e|e|e|e|e <;>
 ·rw[e]
  refine Zal rfl ?_
  exact⟨_,Mem.le_add hf _,Mem.le_refl _,_,rfl,rfl⟩
theorem ZqE{m:Mem}{b:Nat}(s:List Nat)(h:∀c∈s,c < 256):Byt (m.add b (s.map λc:Nat=>Value.int .u8 c)) (some ⟨b,0,none⟩) s:=
 ⟨.inr ⟨b,0,rfl,λj v hj=>by rw[Nat.zero_add,Mem.add_same];exact hj⟩,h⟩
theorem Zes(k:Int)(t:T):Zbk k t=if t.k=k then t.subs else if k=3/\t.k=1 then[]else[t]:=rfl
theorem Zdw(l:List T):∀u∈Rx.Zcg l,u.oneCell'=true:=by
 intro u hu
 simp only[Rx.Zcg,List.mem_flatten,List.mem_map]at hu
 obtain⟨_,⟨t,_,rfl⟩,h⟩:=hu
 simp only[T.cs,List.mem_cons,List.not_mem_nil,or_false,T.sl]at h
 rcases h with rfl|rfl|rfl|rfl|rfl|rfl|rfl|rfl <;> rfl
theorem ZkF(k:Int)(t u:T)(hk:k=3\/k=4)(m:Mem)(hr:Rep m t)(hu:Rep m u)(ht:(Zbk k t).length<=10000)(vU:(Zbk k u).length<=10000):CX Try.prog 65 #[.int .u8 k,t.v,u.v] m [] (Zod (λr=>∃a c,r=ZfH k a c (Zbk k t++Zbk k u))):=by
 apply Zhk
 intro b m1 aD _ b1 m2 bN _ b2 b3 lg
 have jD:=mLt aD bN
 have eM:m.le (m2.add b3 (t.cs++u.cs)):=mLt jD (Mem.le_add lg _)
 refine⟨λxs css tvs m' q=>∃(i:Nat)(l:List T)(a:Option Addr)(c:Nat),i<=2/\xs=[.slice a l.length c,.int .i64 i]/\tvs=[.slice a l.length c]/\l=(([t,u].take i).map (Zbk k)).flatten/\rowRd m' a (Rx.Zcg l)/\q=2 - i,⟨2,0,[],none,0,by omega,rfl,rfl,rfl,.inl rfl,rfl⟩,?_⟩
 rintro a n c z a1 n1 c1 m3 q bW ⟨i,l,a',c',hi,eJ,cO,hl,bQ,hq⟩
 simp only[List.cons.injEq,Value.slice.injEq,Value.int.injEq,true_and,and_true]at eJ cO
 obtain⟨⟨rfl,rfl,rfl⟩,rfl⟩:=eJ
 obtain⟨rfl,rfl,rfl⟩:=cO
 have ik:=mLt eM bW
 have dU:l.length<=20000:=by
  rw[hl]
  have:i=0\/i=1\/i=2:=by omega
  rcases this with rfl|rfl|rfl <;> simp <;> omega
 refine Zab (λaH=>?_) (λcL=>?_)
 ·have h2:i=0\/i=1:=by have:=zA6 aH;omega
  rcases h2 with rfl|rfl
  ·
   refine⟨⟨by omega,by omega⟩,Zaa rfl λb4=>Zaa rfl (Zal (v:=.int .u8 t.k) rfl (Zaa rfl (Zab (λdG=>Zal (v:=t.sl) rfl (Zaa rfl ?_)) (λdG=>?_))))⟩
   ·have fT:t.k=k:=by simpa[RowKit.intOf]using dG
    have hj:Zbk k t=t.subs:=by rw[Zes,if_pos fT]
    have bG:=ht
    rw[hj]at bG
    refine⟨.inl rfl,Rx.Zcg l,Rx.Zcg t.subs,ZaG _,ZaG _,bQ,(ZhW (hr.subs)).mono ik,Zdw _,?_,?_,λa2 c2 m4 cP cG=>⟨by trivial,1,by omega,1,l++t.subs,a2,c2,by omega,?_,?_,?_,?_,?_⟩⟩
    ·simp only[T.sl,slN];omega
    ·simp only[T.sl,slN];omega
    ·rw[zA1];rfl
    ·rw[zA1];rfl
    ·rw[hl,<-hj];simp
    ·rw[ZaH];exact cG
    ·omega
   ·have fT:¬t.k=k:=by simpa[RowKit.intOf]using dG
    refine⟨k == 3&&t.k == 1,Zab (λh=>Zal (v:=.int .u8 t.k) rfl (Zaa rfl ⟨by trivial,by trivial,?_⟩)) (λh=>⟨by trivial,by trivial,?_⟩),Zab (λh=>⟨by trivial,1,by omega,1,l,_,_,by omega,rfl,rfl,?_,bQ,by omega⟩) (λh=>Zaa rfl λb6 ml=>?_)⟩
    ·rw[h];rfl
    ·rw[h];rfl
    ·have:k=3/\t.k=1:=by simpa using h
     have hj:Zbk k t=[]:=by rw[Zes,if_neg fT,if_pos this]
     rw[hl];simp[hj]
    ·have:¬(k=3/\t.k=1):=by simpa using h
     have hj:Zbk k t=[t]:=by rw[Zes,if_neg fT,if_neg this]
     have gG:=Mem.le_add ml t.cs
     refine⟨.inl rfl,Rx.Zcg l,t.cs,ZaG _,rfl,bQ.mono gG,.inr ⟨b6,0,rfl,λj v hj=>by rw[Nat.zero_add,Mem.add_same];exact hj⟩,by rw[<-Za6];exact Zdw _,by omega,by omega,λa2 c2 m4 cP cG=>⟨by trivial,1,by omega,1,l++[t],a2,c2,by omega,?_,?_,?_,?_,?_⟩⟩
     ·rw[zA1];rfl
     ·rw[zA1];rfl
     ·rw[hl];simp[hj]
     ·rw[ZaH,Za6];exact cG
     ·omega
  ·
   refine⟨⟨by omega,by omega⟩,Zaa rfl λb4=>Zaa rfl (Zal (v:=.int .u8 u.k) rfl (Zaa rfl (Zab (λdG=>Zal (v:=u.sl) rfl (Zaa rfl ?_)) (λdG=>?_))))⟩
   ·have fT:u.k=k:=by simpa[RowKit.intOf]using dG
    have hj:Zbk k u=u.subs:=by rw[Zes,if_pos fT]
    have bG:=vU
    rw[hj]at bG
    refine⟨.inl rfl,Rx.Zcg l,Rx.Zcg u.subs,ZaG _,ZaG _,bQ,(ZhW (hu.subs)).mono ik,Zdw _,?_,?_,λa2 c2 m4 cP cG=>⟨by trivial,0,by omega,2,l++u.subs,a2,c2,by omega,?_,?_,?_,?_,?_⟩⟩
    ·simp only[T.sl,slN];omega
    ·simp only[T.sl,slN];omega
    ·rw[zA1];rfl
    ·rw[zA1];rfl
    ·rw[hl,<-hj];simp
    ·rw[ZaH];exact cG
    ·omega
   ·have fT:¬u.k=k:=by simpa[RowKit.intOf]using dG
    refine⟨k == 3&&u.k == 1,Zab (λh=>Zal (v:=.int .u8 u.k) rfl (Zaa rfl ⟨by trivial,by trivial,?_⟩)) (λh=>⟨by trivial,by trivial,?_⟩),Zab (λh=>⟨by trivial,0,by omega,2,l,_,_,by omega,rfl,rfl,?_,bQ,by omega⟩) (λh=>Zaa rfl λb6 ml=>?_)⟩
    ·rw[h];rfl
    ·rw[h];rfl
    ·have:k=3/\u.k=1:=by simpa using h
     have hj:Zbk k u=[]:=by rw[Zes,if_neg fT,if_pos this]
     rw[hl];simp[hj]
    ·have:¬(k=3/\u.k=1):=by simpa using h
     have hj:Zbk k u=[u]:=by rw[Zes,if_neg fT,if_neg this]
     have gG:=Mem.le_add ml u.cs
     refine⟨.inl rfl,Rx.Zcg l,u.cs,ZaG _,rfl,bQ.mono gG,.inr ⟨b6,0,rfl,λj v hj=>by rw[Nat.zero_add,Mem.add_same];exact hj⟩,by rw[<-Za6];exact Zdw _,by omega,by omega,λa2 c2 m4 cP cG=>⟨by trivial,0,by omega,2,l++[u],a2,c2,by omega,?_,?_,?_,?_,?_⟩⟩
     ·rw[zA1];rfl
     ·rw[zA1];rfl
     ·rw[hl];simp[hj]
     ·rw[ZaH,Za6];exact cG
     ·omega
 ·have:i=2:=by have:=of_decide_eq_false cL;omega
  subst this
  have hl':Zbk k t++Zbk k u=l:=by rw[hl];simp
  rw[hl']
  have cJ:∀x∈l,Rep m3 x:=by
   have key:∀t:T,Rep m t->∀x∈Zbk k t,Rep m3 x:=by
    intro t hr x hx
    rw[Zes]at hx
    split at hx
    ·exact Zpo (hr.subs.mono ik) x hx
    ·split at hx
     ·simp at hx
     ·simp at hx;subst hx;exact hr.mono ik
   rw[<-hl']
   intro x hx
   rcases List.mem_append.1 hx with hx|hx
   ·exact key t hr x hx
   ·exact key u hu x hx
  refine Zab (λh0=>?_) (λh0=>Zab (λh1=>?_) (λh1=>?_))
  ·have:l=[]:=by simpa using h0
   subst this
   exact Zag ik ⟨T1,rfl,Zsu _,none,0,rfl⟩
  ·have sj:l.length=1:=by
    have:((l.length:Int) == 1)=true:=h1
    have:=zA6 this;omega
   obtain⟨x,rfl⟩:∃x,l=[x]:=by
    match l,sj with
    | [x],_=>exact⟨x,rfl⟩
   rcases bQ with bQ|⟨b6,o,ha,cM⟩
   ·simp[Rx.Zcg,T.cs]at bQ
   ·rw[Za6]at cM
    exact⟨b6,o,ha,⟨by omega,by simp⟩,_,_,_,_,_,_,_,_,cM,Zaa rfl (ZhV ik ⟨x,rfl,cJ x (by simp),none,0,rfl⟩)⟩
  ·have qv:¬l.length=0:=λe=>by rw[e]at h0;simp at h0
   have nk:¬l.length=1:=λe=>by rw[e]at h1;simp at h1
   obtain⟨x,y,r,rfl⟩:∃x y r,l=x::y::r:=by
    match l,qv,nk with
    | [],h,_=>simp at h
    | [x],_,h=>simp at h
    | x::y::r,_,_=>exact⟨x,y,r,rfl⟩
   refine ZhV ik ⟨Zbg k 0 0 _ _ (x::y::r),rfl,ZbB (Zqp bQ cJ (by omega)) (by omega) (by omega) (by omega),_,_,rfl⟩
structure Sm (m:Mem)(a:Option Addr)(l:List (Nat×Nat×Nat)):Prop where
 len:l.length<=9223372036854775807
 byte:∀s∈l,s.1 < 256/\s.2.1 < 256/\s.2.2 < 256
 at':∀i s,l[i]?=some s->∃b o,a=some ⟨b,o,none⟩/\m.reads b (o+i*3) [.int .u8 s.1,.int .u8 s.2.1,.int .u8 s.2.2]
theorem Sm.mono{m m':Mem}{a l}(h:Sm m a l)(hm:m.le m'):Sm m' a l:=
 ⟨h.len,h.byte,λi s hi=>by obtain⟨b,o,h1,h2⟩:=h.at' i s hi;exact⟨b,o,h1,h2.mono hm⟩⟩
theorem Zl8(n:Nat):(([[97],[98],[97,98],[97],[98],[99],[97,98,99],[98,99],[10],[0,255],[97],[98]][n % 12]?).getD []:List Nat).length<=100000:=by
 have h:n % 12=0\/n % 12=1\/n % 12=2\/n % 12=3\/n % 12=4\/n % 12=5\/n % 12=6\/n % 12=7\/n % 12=8\/n % 12=9\/n % 12=10\/n % 12=11:=by omega
 rcases h with e|e|e|e|e|e|e|e|e|e|e|e <;> rw[e] <;> decide
theorem ZsJ:∀L < 3,∀Mo < 4,((Mo < L\/Mo=0\/(L=1/\Mo=1))->Zdi (L:Nat) (-1)=true/\Zri (L:Nat) (-1)<=((max 1 L:Nat):Int))/\(¬(Mo < L\/Mo=0\/(L=1/\Mo=1))->Zdi (L:Nat) (Mo:Nat)=true/\Zri (L:Nat) (Mo:Nat)<=((max 1 (max L Mo):Nat):Int)):=by
 intro L hL Mo hM
 have h1:L=0\/L=1\/L=2:=by omega
 have h2:Mo=0\/Mo=1\/Mo=2\/Mo=3:=by omega
 rcases h1 with rfl|rfl|rfl <;> rcases h2 with rfl|rfl|rfl|rfl <;> exact⟨λ_=>by first|exact⟨by decide,by decide⟩|omega,λ_=>by first|exact⟨by decide,by decide⟩|omega⟩
theorem ZsK(l:List (Nat×Nat×Nat))(a:Option Addr)(c:Nat)(m:Mem)(hl:Sm m a l)(hc:l.length<=c):CX Try.prog 15 #[.slice a l.length c] m [] (Zod (λt=>t.check=0)):=by
 apply ZiL
 have bG:=hl.len
 intro b
 have hN:(if(25:Int) < (l.length:Int)then(25:Int)else(l.length:Int))=((min 25 l.length:Nat):Int):=by split <;> omega
 simp only[hN,zA8,Nat.sub_zero]
 generalize qw:min 25 l.length=N
 refine⟨⟨by omega,by omega⟩,λxs css tvs m' q=>∃(i:Nat)(ts:List T)(a:Option Addr)(c:Nat)(u g:Nat)(mb:Mem),i<=N/\xs=[.slice a ts.length c,.int .i64 u,.int .i64 g,.int .i64 i]/\tvs=[.slice a ts.length c]/\ts.length<=c/\m.le mb/\mb.le m'/\Apart mb a/\rowRd m' a (Rx.Zcg ts)/\(∀t∈ts,Rep mb t)/\J i ts u g/\q=N - i,⟨N,0,[],none,0,1,0,m,by omega,rfl,rfl,by simp,Mem.le_refl _,Mem.le_refl _,.inl rfl,.inl rfl,by simp,J.zero,by omega⟩,?_⟩
 rintro a1 n1 c1 z1 z2 z3 a2 n2 c2 m1 q _ ⟨i,ts,a',c',u,g,mb,hi,eJ,cO,cS,il,dY,dP,bQ,cJ,hJ,hq⟩
 simp only[List.cons.injEq,Value.slice.injEq,Value.int.injEq,true_and,and_true]at eJ cO
 obtain⟨⟨rfl,rfl,rfl⟩,rfl,rfl,rfl⟩:=eJ
 obtain⟨rfl,rfl,rfl⟩:=cO
 have fA:ts.length<=25:=by have:=hJ.sz;have:=Zqt ts;omega
 refine Zab (λaH=>?_) (λcL=>?_)
 ·have vV:i < N:=by have:=zA6 aH;omega
  have hi':i < l.length:=by omega
  obtain⟨s,hs⟩:=ZjG hi'
  obtain⟨bs,os,ha,cM⟩:=(hl.mono (mLt il dY)).at' i s hs
  obtain⟨s1,s2,s3⟩:=s
  obtain⟨oJ,eU,t8⟩:=hl.byte _ (zA2 hs)
  have hw:IntKind.i64.wrap ((i:Int)+1)=((i+1:Nat):Int):=by rw[Zat (by omega) (by omega)];rfl
  have sm:Int.tmod (RowKit.intOf (Value.int .u8 (s1:Nat))) 12=((s1 % 12:Nat):Int):=rfl
  simp only[hw,zA8]
  refine⟨bs,os,ha,⟨by omega,by omega⟩,_,_,_,cM,λb2=>Zaa rfl (Zaa rfl ⟨by omega,?_⟩)⟩
  simp only[sm]
  refine Zab (λh1=>?_) (λh1=>Zab (λh2=>?_) (λh2=>?_))
  ·refine Zak (Zns s2 eU m1) (λv _ _ ⟨s,e,_⟩=>by rw[e];rfl) ?_
   rintro str m2 bN ⟨s',hv,hb⟩
   cases hv
   refine Zak (Zl7 str (by rw[hb];unfold ZcW;exact Zl8 _) m2) Zgk (Zpn λt m3 bW hr ht b3 lg=>?_)
   rw[hb]at ht
   have eM:=mLt bN (mLt bW (Mem.le_add lg t.cs))
   obtain⟨k1,k2,k3,k4⟩:=Zoh s2
   refine⟨.inl trivial,Rx.Zcg ts,t.cs,ZaG _,rfl,bQ.mono (eM),.inr ⟨b3,0,rfl,λj v hj=>by rw[Nat.zero_add,Mem.add_same];exact hj⟩,by rw[<-Za6];exact Zdw _,by omega,by omega,λa4 c4 m4 cP cG bP=>⟨by trivial,N - (i+1),by omega,i+1,ts++[t],a4,c4,u,g,mb,by omega,?_,?_,by have:=bP.1;rw[zA1];exact this,il,mLt dY (mLt (eM) cP),dP.tok (mLt dY (eM)) bP,?_,?_,?_,by omega⟩⟩
   ·rw[zA1];rfl
   ·rw[zA1];rfl
   ·rw[ZaH,Za6];exact cG
   ·intro x hx
    rcases List.mem_append.1 hx with hx|hx
    ·exact cJ x hx
    ·simp at hx;subst hx;exact(by rw[ht];exact ZlE _ _)
   ·rw[ht];exact hJ.push k1 k2 k3 k4
  ·intro b3 lg
   have eM:=Mem.le_add lg T1.cs
   refine⟨.inl trivial,Rx.Zcg ts,T1.cs,ZaG _,rfl,bQ.mono (eM),.inr ⟨b3,0,rfl,λj v hj=>by rw[Nat.zero_add,Mem.add_same];exact hj⟩,by rw[<-Za6];exact Zdw _,by omega,by omega,λa4 c4 m4 cP cG bP=>⟨by trivial,N - (i+1),by omega,i+1,ts++[T1],a4,c4,u,g,mb,by omega,?_,?_,by have:=bP.1;rw[zA1];exact this,il,mLt dY (mLt (eM) cP),dP.tok (mLt dY (eM)) bP,?_,?_,?_,by omega⟩⟩
   ·rw[zA1];rfl
   ·rw[zA1];rfl
   ·rw[ZaH,Za6];exact cG
   ·intro x hx
    rcases List.mem_append.1 hx with hx|hx
    ·exact cJ x hx
    ·simp at hx;subst hx;exact Zsu _
   ·exact hJ.push Zsx.1 Zsx.2.1 Zsx.2.2.1 Zsx.2.2.2
  ·refine⟨decide (s1 % 12 < 7)&&decide (1 < ts.length),Zab (λh3=>⟨by trivial,by trivial,?_⟩) (λh3=>⟨by trivial,by trivial,?_⟩),Zab (λh3=>?_) (λh3=>?_)⟩
   ·refine Zaz ?_
    rw[Bool.eq_iff_iff];simp;have:=zA6 h3;omega
   ·refine Zaz ?_
    rw[eq_comm,Bool.and_eq_false_iff];left;have:=of_decide_eq_false h3;exact decide_eq_false (by omega)
   ·skip
    obtain⟨r,x,y,rfl⟩:=Zt3 (ts:=ts) (by simp at h3;omega)
    have gq:(r++[x,y]).length=r.length+2:=by simp
    have dT:IntKind.i64.wrap (((r++[x,y]).length:Int) - 2)=(r.length:Int):=by rw[gq,Zat (by omega) (by omega)];omega
    have dR:IntKind.i64.wrap (((r++[x,y]).length:Int) - 1)=((r.length+1:Nat):Int):=by rw[gq,Zat (by omega) (by omega)];omega
    simp only[dT,dR,zA8,Nat.sub_zero]
    obtain⟨bb,gz,jO,o',u',hu'⟩:=dP.base bQ (by simp)
    obtain⟨bx,ox,kw,jP⟩:=ZeL bQ (i:=r.length) (t:=x) (by simp)
    obtain⟨by',oy,sn,ji⟩:=ZeL bQ (i:=r.length+1) (t:=y) (by simp)
    have sq:(Zbk 3 x).length<=10000:=by
     have:=hJ.sz
     rw[ZaI,show szL [x,y]=szL ([x]++[y]) from rfl,ZaI,Zbj,Zbj]at this
     have:=ZdW (k:=3) (t:=x)
     omega
    have sr:(Zbk 3 y).length<=10000:=by
     have:=hJ.sz
     rw[ZaI,show szL [x,y]=szL ([x]++[y]) from rfl,ZaI,Zbj,Zbj]at this
     have:=ZdW (k:=3) (t:=y)
     omega
    refine⟨λ_ _ _=>ZqD mb m1 (λr=>∃a c,r=ZfH 3 a c (Zbk 3 x++Zbk 3 y)),⟨by omega,by omega⟩,⟨by omega,by omega⟩,bx,ox,kw,⟨by omega,by omega⟩,_,_,_,_,_,_,_,_,jP,by',oy,sn,⟨by omega,by omega⟩,_,_,_,_,_,_,_,_,ji,ZqD mb m1 (λr=>∃a c,r=ZfH 3 a c (Zbk 3 x++Zbk 3 y)),rfl,(ZkF 3 x y (by omega) mb (cJ x (by simp)) (cJ y (by simp)) sq sr).frame2 dY,ZdI,ZjH λt m0 m3 bW h0 jQ cF gA ht b6 ml=>?_⟩
    obtain⟨at',ct,ht⟩:=ht
    have gG:=Mem.le_add ml t.cs
    have fP:Apart m0 _:=.inr ⟨bb,gz,λo=>by rw[cF bb o' u' hu' o];exact jO o⟩
    refine⟨.inr (.inr (by omega)),Rx.Zcg r,t.cs,ZaG _,rfl,((Zoq bQ).mono bW).mono gG,.inr ⟨b6,0,rfl,λj v hj=>by rw[Nat.zero_add,Mem.add_same];exact hj⟩,by rw[<-Za6];exact Zdw _,by omega,by omega,λa4 c4 m4 cP cG bP M eB dW f6 gN=>⟨by trivial,N - (i+1),by omega,i+1,r++[t],a4,c4,u,g,m0,by omega,?_,?_,by have:=bP.1;rw[zA1];exact this,mLt il h0,mLt jQ dW,fP.tok (mLt jQ gG) bP,?_,?_,?_,by omega⟩⟩
    ·rw[zA1];rfl
    ·rw[zA1];rfl
    ·rw[ZaH,Za6];exact cG.mono gN
    ·intro z hz
     rcases List.mem_append.1 hz with hz|hz
     ·exact(cJ z (by simp[hz])).mono h0
     ·simp at hz;subst hz;exact gA
    ·rw[ht];exact hJ.join (by omega) (by omega) _ _
   ·refine⟨decide (s1 % 12 < 9)&&decide (1 < ts.length),Zab (λh4=>⟨by trivial,by trivial,?_⟩) (λh4=>⟨by trivial,by trivial,?_⟩),Zab (λh4=>?_) (λh4=>?_)⟩
    ·refine Zaz ?_
     rw[Bool.eq_iff_iff];simp;have:=zA6 h4;omega
    ·refine Zaz ?_
     rw[eq_comm,Bool.and_eq_false_iff];left;have:=of_decide_eq_false h4;exact decide_eq_false (by omega)
    ·skip
     obtain⟨r,x,y,rfl⟩:=Zt3 (ts:=ts) (by simp at h4;omega)
     have gq:(r++[x,y]).length=r.length+2:=by simp
     have dT:IntKind.i64.wrap (((r++[x,y]).length:Int) - 2)=(r.length:Int):=by rw[gq,Zat (by omega) (by omega)];omega
     have dR:IntKind.i64.wrap (((r++[x,y]).length:Int) - 1)=((r.length+1:Nat):Int):=by rw[gq,Zat (by omega) (by omega)];omega
     simp only[dT,dR,zA8,Nat.sub_zero]
     obtain⟨bb,gz,jO,o',u',hu'⟩:=dP.base bQ (by simp)
     obtain⟨bx,ox,kw,jP⟩:=ZeL bQ (i:=r.length) (t:=x) (by simp)
     obtain⟨by',oy,sn,ji⟩:=ZeL bQ (i:=r.length+1) (t:=y) (by simp)
     have sq:(Zbk 4 x).length<=10000:=by
      have:=hJ.sz
      rw[ZaI,show szL [x,y]=szL ([x]++[y]) from rfl,ZaI,Zbj,Zbj]at this
      have:=ZdW (k:=4) (t:=x)
      omega
     have sr:(Zbk 4 y).length<=10000:=by
      have:=hJ.sz
      rw[ZaI,show szL [x,y]=szL ([x]++[y]) from rfl,ZaI,Zbj,Zbj]at this
      have:=ZdW (k:=4) (t:=y)
      omega
     refine⟨λ_ _ _=>ZqD mb m1 (λr=>∃a c,r=ZfH 4 a c (Zbk 4 x++Zbk 4 y)),⟨by omega,by omega⟩,⟨by omega,by omega⟩,bx,ox,kw,⟨by omega,by omega⟩,_,_,_,_,_,_,_,_,jP,by',oy,sn,⟨by omega,by omega⟩,_,_,_,_,_,_,_,_,ji,ZqD mb m1 (λr=>∃a c,r=ZfH 4 a c (Zbk 4 x++Zbk 4 y)),rfl,(ZkF 4 x y (by omega) mb (cJ x (by simp)) (cJ y (by simp)) sq sr).frame2 dY,ZdI,ZjH λt m0 m3 bW h0 jQ cF gA ht b6 ml=>?_⟩
     obtain⟨at',ct,ht⟩:=ht
     have gG:=Mem.le_add ml t.cs
     have fP:Apart m0 _:=.inr ⟨bb,gz,λo=>by rw[cF bb o' u' hu' o];exact jO o⟩
     refine⟨.inr (.inr (by omega)),Rx.Zcg r,t.cs,ZaG _,rfl,((Zoq bQ).mono bW).mono gG,.inr ⟨b6,0,rfl,λj v hj=>by rw[Nat.zero_add,Mem.add_same];exact hj⟩,by rw[<-Za6];exact Zdw _,by omega,by omega,λa4 c4 m4 cP cG bP M eB dW f6 gN=>⟨by trivial,N - (i+1),by omega,i+1,r++[t],a4,c4,u,g,m0,by omega,?_,?_,by have:=bP.1;rw[zA1];exact this,mLt il h0,mLt jQ dW,fP.tok (mLt jQ gG) bP,?_,?_,?_,by omega⟩⟩
     ·rw[zA1];rfl
     ·rw[zA1];rfl
     ·rw[ZaH,Za6];exact cG.mono gN
     ·intro z hz
      rcases List.mem_append.1 hz with hz|hz
      ·exact(cJ z (by simp[hz])).mono h0
      ·simp at hz;subst hz;exact gA
     ·rw[ht];exact hJ.join (by omega) (by omega) _ _
    ·refine⟨decide (s1 % 12=9)&&(decide (0 < ts.length)&&decide (g < 9)),Zab (λh5=>Zab (λh6=>⟨by trivial,by trivial,?_⟩) (λh6=>⟨by trivial,by trivial,?_⟩)) (λh5=>⟨by trivial,by trivial,?_⟩),Zab (λh5=>?_) (λh5=>?_)⟩
     ·refine Zaz ?_
      have e1:=zA6 h6
      have e2:s1 % 12=9:=by have:=h5;simp at this;omega
      rw[decide_eq_true e2,decide_eq_true (show 0 < ts.length by omega),Bool.true_and,Bool.true_and,Bool.eq_iff_iff];simp;omega
     ·refine Zaz ?_
      have e1:=of_decide_eq_false h6
      rw[decide_eq_false (show ¬0 < ts.length by omega)];simp
     ·refine Zaz ?_
      have e2:¬s1 % 12=9:=by have:=h5;simp at this;omega
      rw[decide_eq_false e2];rfl
     ·
      have vW:g < 9:=by simp at h5;omega
      skip
      obtain⟨r,x,rfl⟩:=Zt4 (ts:=ts) (by simp at h5;omega)
      have gq:(r++[x]).length=r.length+1:=by simp
      have dR:IntKind.i64.wrap (((r++[x]).length:Int) - 1)=(r.length:Int):=by rw[gq,Zat (by omega) (by omega)];omega
      obtain⟨bb,gz,jO,o',u',hu'⟩:=dP.base bQ (by simp)
      subst gz
      obtain⟨bx,ox,kw,jP⟩:=ZeL bQ (i:=r.length) (t:=x) (by simp)
      cases kw
      have vX:IntKind.i64.wrap ((g:Int)+1)=((g+1:Nat):Int):=by rw[Zat (by omega) (by omega)];rfl
      simp only[dR,vX,zA8]
      refine⟨_,_,rfl,⟨by omega,by omega⟩,_,_,_,_,_,_,_,_,jP,Zak ((Zrv x mb (cJ x (by simp))).frame2 dY) (ZdI (mb:=mb) (M0:=m1)) (ZjH λt m0 m3 bW h0 jQ cF gA ht=>?_)⟩
      obtain⟨at',ct,ht⟩:=ht
      have fP:m0.free bb:=λo=>by rw[cF bb o' u' hu' o];exact jO o
      refine⟨bb,0,rfl,⟨by omega,by omega⟩,rfl,by omega,by trivial,N - (i+1),by omega,i+1,r++[t],_,_,u,g+1,m0,by omega,?_,?_,by rw[zA1];rw[gq]at cS;exact cS,mLt il h0,Mem.le_upd jQ fP _ _,.inr ⟨bb,rfl,fP⟩,Zor (bQ.mono bW),?_,?_,by omega⟩
      ·rw[gq,zA1];rfl
      ·rw[gq,zA1];rfl
      ·intro z hz
       rcases List.mem_append.1 hz with hz|hz
       ·exact(cJ z (by simp[hz])).mono h0
       ·simp at hz;subst hz;exact gA
      ·rw[ht];exact hJ.group vW _ _
     ·by_cases h0:0 < ts.length
      ·skip
       obtain⟨r,x,rfl⟩:=Zt4 (ts:=ts) (by exact h0)
       have gq:(r++[x]).length=r.length+1:=by simp
       have dR:IntKind.i64.wrap (((r++[x]).length:Int) - 1)=(r.length:Int):=by rw[gq,Zat (by omega) (by omega)];omega
       obtain⟨bb,gz,jO,o',u',hu'⟩:=dP.base bQ (by simp)
       subst gz
       obtain⟨bx,ox,kw,jP⟩:=ZeL bQ (i:=r.length) (t:=x) (by simp)
       cases kw
       have vY:IntKind.i64.wrap (Int.tmod (RowKit.intOf (Value.int .u8 (s2:Nat))) 3)=((s2 % 3:Nat):Int):=by
        rw[show Int.tmod (RowKit.intOf (Value.int .u8 (s2:Nat))) 3=((s2 % 3:Nat):Int) from rfl,Zat (by omega) (by omega)]
       have vZ:IntKind.i64.wrap (Int.tmod (RowKit.intOf (Value.int .u8 (s3:Nat))) 4)=((s3 % 4:Nat):Int):=by
        rw[show Int.tmod (RowKit.intOf (Value.int .u8 (s3:Nat))) 4=((s3 % 4:Nat):Int) from rfl,Zat (by omega) (by omega)]
       simp only[dR,vY,vZ,zA8]
       have v6:s2 % 3 < 3:=by omega
       have gN:s3 % 4 < 4:=by omega
       generalize s2 % 3=L at *
       generalize s3 % 4=Mo at *
       refine⟨decide (9 < s1 % 12)&&!(x.k == 1),Zab (λh6=>Zab (λh7=>⟨_,_,rfl,⟨by omega,by omega⟩,.int .u8 x.k,jP 0 _ rfl,Zaa rfl ⟨by trivial,by trivial,?_⟩⟩) (λh7=>absurd h7 (by simp))) (λh6=>⟨by trivial,by trivial,?_⟩),Zab (λh6=>Zaa rfl ⟨by omega,Zaa rfl ⟨by omega,?_⟩⟩) (λh6=>⟨by trivial,N - (i+1),by omega,i+1,r++[x],_,_,u,g,mb,by omega,rfl,rfl,cS,il,dY,dP,bQ,cJ,hJ.skip,by omega⟩)⟩
       ·refine Zaz ?_
        have:=zA6 h6
        rw[decide_eq_true (show 9 < s1 % 12 by omega),Bool.true_and];rfl
       ·refine Zaz ?_
        have:=of_decide_eq_false h6
        rw[decide_eq_false (show ¬9 < s1 % 12 by omega)];rfl
       ·have gK:x.k≠1:=by
         rw[zA7]at h6
         simpa using h6.2
        obtain⟨tab1,tab2⟩:=ZsJ L v6 Mo gN
        refine⟨decide (Mo < L\/Mo=0\/(L=1/\Mo=1)),Zab (λg1=>⟨by trivial,by trivial,Zaz ?_⟩) (λg1=>Zab (λg2=>⟨by trivial,by trivial,Zaz ?_⟩) (λg2=>Zab (λg3=>⟨by trivial,by trivial,Zaz ?_⟩) (λg3=>⟨by trivial,by trivial,Zaz ?_⟩))),Zab (λg4=>?_) (λg4=>?_)⟩
        ·have:=zA6 g1
         exact(decide_eq_true (by omega)).symm
        ·have:Mo=0:=by simp at g2;omega
         exact(decide_eq_true (by omega)).symm
        ·have e1:=of_decide_eq_false g1
         have e2:¬Mo=0:=by simp at g2;omega
         have e3:L=1:=by simp at g3;omega
         rw[Bool.eq_iff_iff];simp;omega
        ·have e1:=of_decide_eq_false g1
         have e2:¬Mo=0:=by simp at g2;omega
         have e3:¬L=1:=by simp at g3;omega
         exact(decide_eq_false (by omega)).symm
        ·
         have hA:(if(1:Int) > (if(-1:Int) > (L:Int)then(-1:Int)else(L:Int))then(1:Int)else(if(-1:Int) > (L:Int)then(-1:Int)else(L:Int)))=((max 1 L:Nat):Int):=by
          split <;> split <;> omega
         obtain⟨tb,tp⟩:=tab1 (zA6 g4)
         have oH:u*max 1 L<=48:=by have:=Nat.mul_le_mul hJ.u16 (show max 1 L<=3 by omega);omega
         have ss:IntKind.i64.wrap ((u:Int)*((max 1 L:Nat):Int))=((u*max 1 L:Nat):Int):=by rw[<-Int.natCast_mul];exact Zat (by omega) (by omega)
         simp only[hA,ss]
         refine Zab (λg5=>?_) (λg5=>⟨by trivial,N - (i+1),by omega,i+1,r++[x],_,_,u,g,mb,by omega,rfl,rfl,cS,il,dY,dP,bQ,cJ,hJ.skip,by omega⟩)
         have mo:u*max 1 L<=16:=by have:=zA6 g5;omega
         refine⟨_,_,rfl,⟨by omega,by omega⟩,_,_,_,_,_,_,_,_,jP,Zak ((ZsI x (L:Nat) (-1:Int) ⟨by omega,by omega⟩ ⟨by omega,by omega⟩ mb (cJ x (by simp))).frame2 dY) (ZdI (mb:=mb) (M0:=m1)) (ZjH λt m0 m3 bW h0 jQ cF gA ht=>?_)⟩
         obtain⟨at',ct,ht⟩:=ht
         have fP:m0.free bb:=λo=>by rw[cF bb o' u' hu' o];exact jO o
         refine⟨bb,0,rfl,⟨by omega,by omega⟩,rfl,by omega,by trivial,N - (i+1),by omega,i+1,r++[t],_,_,u*max 1 L,g,m0,by omega,?_,?_,by rw[zA1];rw[gq]at cS;exact cS,mLt il h0,Mem.le_upd jQ fP _ _,.inr ⟨bb,rfl,fP⟩,Zor (bQ.mono bW),?_,?_,by omega⟩
         ·rw[gq,zA1];rfl
         ·rw[gq,zA1];rfl
         ·intro z hz
          rcases List.mem_append.1 hz with hz|hz
          ·exact(cJ z (by simp[hz])).mono h0
          ·simp at hz;subst hz;exact gA
         ·rw[ht];exact hJ.rep gK tb tp (by omega) mo _ _
        ·
         have hA:(if(1:Int) > (if((Mo:Int)) > (L:Int)then((Mo:Int))else(L:Int))then(1:Int)else(if((Mo:Int)) > (L:Int)then((Mo:Int))else(L:Int)))=((max 1 (max L Mo):Nat):Int):=by
          split <;> split <;> omega
         obtain⟨tb,tp⟩:=tab2 (of_decide_eq_false g4)
         have oH:u*max 1 (max L Mo)<=48:=by have:=Nat.mul_le_mul hJ.u16 (show max 1 (max L Mo)<=3 by omega);omega
         have ss:IntKind.i64.wrap ((u:Int)*((max 1 (max L Mo):Nat):Int))=((u*max 1 (max L Mo):Nat):Int):=by rw[<-Int.natCast_mul];exact Zat (by omega) (by omega)
         simp only[hA,ss]
         refine Zab (λg5=>?_) (λg5=>⟨by trivial,N - (i+1),by omega,i+1,r++[x],_,_,u,g,mb,by omega,rfl,rfl,cS,il,dY,dP,bQ,cJ,hJ.skip,by omega⟩)
         have mo:u*max 1 (max L Mo)<=16:=by have:=zA6 g5;omega
         refine⟨_,_,rfl,⟨by omega,by omega⟩,_,_,_,_,_,_,_,_,jP,Zak ((ZsI x (L:Nat) ((Mo:Int)) ⟨by omega,by omega⟩ ⟨by omega,by omega⟩ mb (cJ x (by simp))).frame2 dY) (ZdI (mb:=mb) (M0:=m1)) (ZjH λt m0 m3 bW h0 jQ cF gA ht=>?_)⟩
         obtain⟨at',ct,ht⟩:=ht
         have fP:m0.free bb:=λo=>by rw[cF bb o' u' hu' o];exact jO o
         refine⟨bb,0,rfl,⟨by omega,by omega⟩,rfl,by omega,by trivial,N - (i+1),by omega,i+1,r++[t],_,_,u*max 1 (max L Mo),g,m0,by omega,?_,?_,by rw[zA1];rw[gq]at cS;exact cS,mLt il h0,Mem.le_upd jQ fP _ _,.inr ⟨bb,rfl,fP⟩,Zor (bQ.mono bW),?_,?_,by omega⟩
         ·rw[gq,zA1];rfl
         ·rw[gq,zA1];rfl
         ·intro z hz
          rcases List.mem_append.1 hz with hz|hz
          ·exact(cJ z (by simp[hz])).mono h0
          ·simp at hz;subst hz;exact gA
         ·rw[ht];exact hJ.rep gK tb tp (by omega) mo _ _
      ·refine⟨false,Zab (λh6=>Zab (λh7=>absurd (zA6 h7) (by omega)) (λh7=>⟨by trivial,by trivial,rfl⟩)) (λh6=>⟨by trivial,by trivial,rfl⟩),ZrY rfl ⟨by trivial,N - (i+1),by omega,i+1,ts,_,_,u,g,mb,by omega,rfl,rfl,cS,il,dY,dP,bQ,cJ,hJ.skip,by omega⟩⟩
 ·have vV:i=N:=by have:=of_decide_eq_false cL;omega
  have aD:=mLt il dY
  refine Zab (λh0=>?_) (λh0=>?_)
  ·have su:(Zd2 ⟨#[97]⟩)=ZcW 0:=by rfl
   refine Zak (Zl7 ⟨#[97]⟩ (by decide) m1) Zgk (Zpn λt m2 bN hr ht=>ZhV (mLt aD bN) ⟨t,rfl,hr,?_⟩)
   rw[su]at ht
   obtain⟨k1,k2,k3,k4⟩:=Zoh 0
   rw[<-ht]at k1 k2 k3 k4
   exact F.done (l:=[]) ⟨k1,by simp,by simp[szL,Zap,k2],by simp[ZcA];omega,by simp[grL,Zap,k4]⟩
  ·obtain⟨t0,rest,rfl⟩:∃t r,ts=t::r:=by cases ts with
    | nil=>simp at h0
    | cons t r=>exact⟨t,r,rfl⟩
   have hF:=F.start hJ (by omega)
   obtain⟨bb,gz,jO,o',u',hu'⟩:=dP.base bQ (by simp)
   subst gz
   obtain⟨bx,ox,kw,jP⟩:=ZeL bQ (i:=0) (t:=t0) rfl
   cases kw
   rw[List.length_cons]at fA cS
   refine⟨_,_,rfl,⟨by omega,by simp⟩,_,_,_,_,_,_,_,_,jP,λb2=>Zaa rfl ⟨⟨by omega,by rw[List.length_cons];omega⟩,?_⟩⟩
   refine⟨λxs css tvs m' q=>∃(k:Nat)(t:T),k<=rest.length/\xs=[.int .i64 k]/\css=[t.cs]/\m1.le m'/\Rep m' t/\F t (rest.drop k)/\q=rest.length - k,⟨rest.length,0,t0,by omega,rfl,rfl,Mem.le_refl _,(cJ t0 (by simp)).mono dY,hF,by omega⟩,?_⟩
   rintro z cs m2 q2 _ ⟨k,t,hk,hz,bZ,bN,gA,qx,nL⟩
   obtain rfl:z=k:=by simpa using hz
   obtain rfl:cs=t.cs:=by simpa using bZ
   have ue:((t0::rest).length - Int.toNat 1)=rest.length:=by simp
   simp only[ue]
   refine Zab (λaH=>?_) (λim=>Zaa rfl (ZhV (mLt aD bN) ⟨t,rfl,gA,qx.done⟩))
   have aF:k < rest.length:=by have:=zA6 aH;omega
   obtain⟨x,hx⟩:=ZjG aF
   obtain⟨b3,o3,v7,rD⟩:=ZeL (bQ.mono bN) (i:=k+1) (t:=x) (by simpa using hx)
   cases v7
   have gL:IntKind.i64.wrap ((k:Int)+1)=((k+1:Nat):Int):=by rw[Zat (by omega) (by omega)];rfl
   simp only[gL,zA8]
   rw[Zcb hx]at qx
   have bU:=qx.sz
   rw[ZiC]at bU
   have ud:=ZdW (k:=4) (t:=t)
   have ui:=ZdW (k:=4) (t:=x)
   have gP:Zbq (some (⟨bb,0,none⟩:Addr)) (Int.toNat 1) c2 8=some ⟨bb,0+8,none⟩:=by
    unfold Zbq
    have:Nat.beq c2 1=false:=by
     cases hb:Nat.beq c2 1 with
     | false=>rfl
     | true=>have:=Nat.eq_of_beq_eq_true hb;omega
    show(bif Nat.beq c2 1 then _ else some (Addr.add _ (1*8)))=_
    rw[this,Zbz];rfl
   refine⟨_,_,gP,⟨by omega,by omega⟩,_,_,_,_,_,_,_,_,by rw[show 0+8+k*8=0+(k+1)*8 by omega];exact rD,λb4=>Zaa rfl (Zak (ZkF 4 t x (.inr rfl) m2 gA ((cJ x (by simp[zA2 hx])).mono (mLt dY bN)) (by omega) (by omega)) Zgk (Zpn λt' m3 bW hr' ht'=>⟨by trivial,by trivial,rest.length - (k+1),by omega,k+1,t',by omega,rfl,rfl,mLt bN bW,hr',?_,by omega⟩))⟩
   obtain⟨a3,c3,ht'⟩:=ht'
   rw[ht'];exact qx.step _ _
end Go.Proofs.Ytplacemlpkhmfaa
namespace Go.Proofs.Ytplacemlpkhmfaa
open Go Go.Eng Go.Rx Go.Proofs Go.RowKit Go.ChangeShapes Go.WideShapes Go.ChangeAt
set_option maxRecDepth 100000
theorem ZtD:ownKnob Try.prog.godebug=none:=by kernel_rfl
theorem ZsL:laidOutB Try.prog=true:=by kernel_rfl
theorem ZsM{n:Int}(h:(Lit.int .u8 n).wf=true):0<=n/\n < 256:=by
 have:0<=n/\n<=255:=by simpa[Lit.wf,IntKind.min,IntKind.max,IntKind.signed,IntKind.bits]using h
 omega
theorem Zl9{w:World}{a:Addr}{v:Value}(h:w.cell? ((a.add (0*3)).add 0)=some v):∃b o,a=⟨b,o,none⟩:=by
 obtain⟨b,o,sp⟩:=a
 cases sp with
 | none=>exact⟨b,o,rfl⟩
 | some s=>
  exfalso
  have e:(Addr.add (Addr.add ⟨b,o,some s⟩ (0*3)) 0)=⟨b,o,some s⟩:=rfl
  rw[e]at h
  unfold World.cell? at h
  split at h
  ·simp at h
  ·cases h
theorem ZqF:Try.prog.cellsOf 32=1/\Try.prog.cellsOf 106=3:=⟨by kernel_rfl,by kernel_rfl⟩
theorem ZpK{H:Type}{enc:TypeId×Value->H}{w:World}{base:Nat}{sp:Nat->Bool}{eV:Bool}{n:Nat}{cs:List Value}{x:DataW H×List MemPlace}(h:DataW.trod enc Try.prog w base sp eV n 106 cs=some x):
  ∃s:Nat×Nat×Nat,cs=[.int .u8 s.1,.int .u8 s.2.1,.int .u8 s.2.2]/\s.1 < 256/\s.2.1 < 256/\s.2.2 < 256:=by
 obtain⟨xs,k,rfl,rfl,bG,eJ,hx⟩:=DataW.trod_struct (fs:=(Try.prog.fieldsOf 106)) (by kernel_rfl) h
 rw[ZqF.2]at bG
 have hf:(Try.prog.fieldsOf 106)=#[⟨ "Kind",5,0,false, "", "",0⟩,⟨ "N",5,1,false, "", "",1⟩,⟨ "M",5,2,false, "", "",2⟩]:=by kernel_rfl
 rw[hf]at hx eJ
 have hc:Try.prog.cellsOf 5=1:=by kernel_rfl
 obtain⟨c0,c1,c2,rfl⟩:∃a b c,cs=[a,b,c]:=by
  match cs,bG with
  | [a,b,c],_=>exact⟨a,b,c,rfl⟩
 have get:∀i,i < 3->∃z,xs[i]?=some z:=λi hi=>⟨xs[i]'(by rw[eJ];exact hi),zA3 _⟩
 have h0:DataW.trod enc Try.prog w base sp eV k 5 (List.take (Try.prog.cellsOf 5) (List.drop 0 [c0,c1,c2]))=xs[0]?:=hx 0 _ rfl
 have h1:DataW.trod enc Try.prog w base sp eV k 5 (List.take (Try.prog.cellsOf 5) (List.drop 1 [c0,c1,c2]))=xs[1]?:=hx 1 _ rfl
 have h2:DataW.trod enc Try.prog w base sp eV k 5 (List.take (Try.prog.cellsOf 5) (List.drop 2 [c0,c1,c2]))=xs[2]?:=hx 2 _ rfl
 obtain⟨z0,e0⟩:=get 0 (by omega)
 obtain⟨z1,e1⟩:=get 1 (by omega)
 obtain⟨z2,e2⟩:=get 2 (by omega)
 rw[e0,hc]at h0
 rw[e1,hc]at h1
 rw[e2,hc]at h2
 have g0:DataW.trod enc Try.prog w base sp eV k 5 [c0]=some z0:=h0
 have g1:DataW.trod enc Try.prog w base sp eV k 5 [c1]=some z1:=h1
 have g2:DataW.trod enc Try.prog w base sp eV k 5 [c2]=some z2:=h2
 obtain⟨n0,k0,_,w0⟩:=DataW.trod_int Try.underlying5 g0
 obtain⟨n1,k1,_,w1⟩:=DataW.trod_int Try.underlying5 g1
 obtain⟨n2,k2,_,w2⟩:=DataW.trod_int Try.underlying5 g2
 simp at k0 k1 k2
 have:=ZsM w0
 have:=ZsM w1
 have:=ZsM w2
 obtain⟨m0,rfl⟩:∃k:Nat,n0=k:=⟨n0.toNat,by omega⟩
 obtain⟨m1,rfl⟩:∃k:Nat,n1=k:=⟨n1.toNat,by omega⟩
 obtain⟨m2,rfl⟩:∃k:Nat,n2=k:=⟨n2.toNat,by omega⟩
 exact⟨(m0,m1,m2),by rw[k0,k1,k2],by simp;omega,by simp;omega,by simp;omega⟩
theorem Zma{H:Type}{enc:TypeId×Value->H}{W:World}{eV:Bool}{n:Nat}{cs:List Value}{x:DataW H×List MemPlace}(h:DataW.trod enc Try.prog W 0 (λ_=>true) eV n 32 cs=some x):
  ∃l a c,cs=[.slice a l.length c]/\Sm (ZrR W) a l/\l.length<=c:=by
 rcases Go.Deep.open_slice Try.underlying32 h with⟨bZ,_⟩|⟨a,len,m,m',n',D,Pl,bZ,hb,hl,hm,eR,_,hx⟩
 ·exact⟨[],none,0,bZ,⟨by simp,by simp,λi s hi=>by simp at hi⟩,Nat.le_refl _⟩
 ·simp only[if_true]at eR
  subst eR
  rw[ZqF.2]at hx
  obtain⟨F,hF⟩:=Go.Deep.choose_lt (α:=Nat×Nat×Nat) (n:=m') (p:=λi s=>(∀j v,[Value.int .u8 (s.1:Nat),.int .u8 (s.2.1:Nat),.int .u8 (s.2.2:Nat)][j]?=some v->W.cell? ((a.add (i*3)).add j)=some v)/\s.1 < 256/\s.2.1 < 256/\s.2.2 < 256) (λi hi=>by
   obtain⟨cs,h1,h2⟩:=hx i hi
   obtain⟨s,rfl,hs⟩:=ZpK h2
   obtain⟨_,_,hc⟩:=World.cells?_some h1
   refine⟨s,λj v hj=>?_,hs⟩
   have aH:=(zA0 hj).1
   rw[hc j (by simpa using aH)];exact hj)
  refine⟨(List.range len).map F,some a,m',by rw[bZ];simp,⟨by simp[maxLen]at hm ⊢;omega,?_,?_⟩,by simpa using hl⟩
  ·intro s hs
   obtain⟨i,hi,rfl⟩:=List.mem_map.1 hs
   exact(hF i (by have:=List.mem_range.1 hi;omega)).2
  ·intro i s hi
   rw[List.getElem?_map]at hi
   obtain⟨i',hi',rfl⟩:=Option.map_eq_some_iff.1 hi
   have aH:i < len:=by have:=(zA0 hi').1;simpa using this
   have e:i'=i:=by rw[List.getElem?_range aH]at hi';exact(Option.some.inj hi').symm
   subst e
   obtain⟨h1,_⟩:=hF i' (by omega)
   obtain⟨b,o,rfl⟩:=Zl9 ((hF 0 (by omega)).1 0 _ rfl)
   refine⟨b,o,rfl,λj v hj=>?_⟩
   have:=h1 j v hj
   rw[Zbz,Zbz]at this
   exact this
theorem Zh3(a:Option Addr)(n c:Nat):(Value.slice a n c).cells.toList=[.slice a n c]:=rfl
theorem Zmb{H:Type}{enc:TypeId×Value->H}{W:World}{eV:Bool}{v:Value}{d:DataW H}{ps:List MemPlace}{r:Reach}{b0:Nat}(gt:Value.okWide Try.prog W r b0 32 v)(h:DataW.Trod enc Try.prog W 0 (λ_=>true) eV 32 v d ps):
  ∃l a c,v=.slice a l.length c/\Sm (ZrR W) a l/\l.length<=c:=by
 obtain⟨n,h⟩:=h
 obtain⟨a0,len0,cap0,rfl⟩:=okWide_slice Try.underlying32 gt
 rw[Zh3]at h
 obtain⟨l,a,c,bZ,h1,h2⟩:=Zma h
 exact⟨l,a,c,by simpa using bZ,h1,h2⟩
theorem ZtE:Try.prog.cellsOf 5=1:=by kernel_rfl
theorem ZqG{H:Type}{enc:TypeId×Value->H}{W:World}{eV:Bool}{v:Value}{d:DataW H}{ps:List MemPlace}{r:Reach}{b0:Nat}(gt:Value.okWide Try.prog W r b0 30 v)(h:DataW.Trod enc Try.prog W 0 (λ_=>true) eV 30 v d ps):
  ∃s a c,v=.slice a s.length c/\Byt (ZrR W) a s/\s.length<=c/\s.length<=9223372036854775807:=by
 obtain⟨n,h⟩:=h
 obtain⟨a0,len0,cap0,rfl⟩:=okWide_slice Try.underlying30 gt
 rw[Zh3]at h
 rcases Go.Deep.open_slice1 Try.underlying30 ZtE h with⟨bZ,_⟩|⟨a,len,m,m',n',V,D,Pl,bZ,hb,hl,hm,eR,_,hx⟩
 ·exact⟨[],none,0,by simpa using bZ,⟨.inl rfl,by simp⟩,Nat.le_refl _,by simp⟩
 ·simp only[if_true]at eR
  subst eR
  have hm':m'<=9223372036854775807:=by simp[maxLen]at hm;omega
  obtain⟨F,hF⟩:=Go.Deep.choose_lt (α:=Nat) (n:=m') (p:=λi s=>W.cell? (a.add i)=some (.int .u8 (s:Nat))/\s < 256) (λi hi=>by
   obtain⟨h1,h2⟩:=hx i hi
   obtain⟨k,hk,_,hw⟩:=DataW.trod_int Try.underlying5 h2
   have:=ZsM hw
   obtain⟨k',rfl⟩:∃k':Nat,k=k':=⟨k.toNat,by omega⟩
   simp at hk
   exact⟨k',by rw[h1,hk],by omega⟩)
  refine⟨(List.range len).map F,some a,m',by have:=bZ;simp at this ⊢;exact this,⟨?_,?_⟩,by simpa using hl,by simp;omega⟩
  ·by_cases h0:len=0
   ·left;subst h0;rfl
   ·right
    obtain⟨b,o,rfl⟩:=Zl9 (a:=a) (v:=.int .u8 (F 0:Nat)) (by
     have:=(hF 0 (by omega)).1
     exact this)
    refine⟨b,o,rfl,λj v hj=>?_⟩
    rw[List.map_map,List.getElem?_map]at hj
    obtain⟨i',hi',rfl⟩:=Option.map_eq_some_iff.1 hj
    have aH:j < len:=by have:=(zA0 hi').1;simpa using this
    have e:i'=j:=by rw[List.getElem?_range aH]at hi';exact(Option.some.inj hi').symm
    subst e
    have:=(hF i' (by omega)).1
    rw[Zbz]at this
    exact this
  ·intro c hc
   obtain⟨i,hi,rfl⟩:=List.mem_map.1 hc
   exact(hF i (by have:=List.mem_range.1 hi;omega)).2
end Go.Proofs.Ytplacemlpkhmfaa