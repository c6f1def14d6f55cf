/- Part of the proof: functions of the program. No condition. -/
import Derived.Test.YtojlhhphofhaoaaGreatDoorPVA
import Derived.Test.YtojlhhphofhaoaaGreatDoorMr
import Derived.Test.YtojlhhphofhaoaaGreatDoorPEnv
import Derived.Test.YtojlhhphofhaoaaGreatDoorMc
import Derived.Laws.StructEq
import Derived.Laws.Tables
import Derived.Laws.Cover2
import Derived.Laws.Externs
set_option linter.unusedVariables false
set_option linter.unusedSimpArgs false
set_option linter.unusedSectionVars false
namespace Go.Proofs.YtojlhhphofhaoaaGreatDoor
open Go Go.Eng Go.Rx Go.Proofs Go.RowKit
set_option maxRecDepth 100000
theorem Zit(t:T)(m:Mem):CX Tryz.prog 94 #[t.v] m [] (λv m' _=>∃b,v=.func (.func 122) #[] #[.pointer (some ⟨b,0,none⟩)]/\m'.reads b 0 t.cs):=by
 apply ZpF
 intro b m' hm hb
 exact⟨m',hm,Mem.le_refl _,b,rfl,hb⟩
theorem ZfO(t:T)(m:Mem)(c0b:Nat)(cG:m.reads c0b 0 t.cs)(dO:Rep m t):IX Tryz.prog 122 [] [.pointer (some ⟨c0b,0,none⟩)] m (t.nodes.map λx=>[x.v]):=by
 apply Zk6 0 [] [] c0b 0
 intro l b m' hm hb
 have ky:=cG.mono hm
 refine⟨_,_,_,_,_,_,_,_,ky,⟨rfl,by omega,?_⟩,?_,.inr rfl⟩
 ·rw[ZcD];rfl
 refine⟨t.sl,ky 7 _ rfl,Zab rfl ?_⟩
 refine⟨λxs _ _ m'' q=>∃i:Nat,i<=t.subs.length/\xs=[.int .i64 ((1+(ZaA (t.subs.take i)).length:Nat):Int),.int .i64 i]/\m'.le m''/\q=t.subs.length - i,⟨t.subs.length,0,by omega,?_,Mem.le_refl _,by omega⟩,?_⟩
 ·simp[ZaA]
 rintro y n m2 q aN ⟨i,hi,dG,iR,hq⟩
 simp only[List.cons.injEq,Value.int.injEq,true_and,and_true]at dG
 obtain⟨rfl,rfl⟩:=dG
 have aX:slN t.sl=t.subs.length:=rfl
 rw[aX]
 refine Zaa (λaP=>?_) (λbX=>?_)
 ·have aV:i < t.subs.length:=by simpa using aP
  obtain⟨x,hx⟩:∃x,t.subs[i]?=some x:=⟨_,List.getElem?_eq_getElem aV⟩
  have bZ:x∈t.subs:=List.mem_of_getElem? hx
  have bU:=Zq3 bZ
  obtain⟨ph,h0|⟨b1,o1,ha,fR⟩⟩:=ZjM dO
  ·rw[h0]at aV;simp at aV
  obtain⟨dM,eH⟩:=(fR.mono ((mLt hm iR))).get hx
  refine Zab rfl ⟨b1,o1,ha,⟨by omega,by omega⟩,_,_,_,_,_,_,_,_,dM,λb2=>Zab rfl ?_⟩
  refine⟨_,trivial,Zit x m2,λv m' css h=>?_,?_⟩
  ·obtain⟨b3,rfl,_⟩:=h;rfl
  rintro g fi ca m3 aW ⟨b3,hv,eY⟩
  obtain⟨rfl,rfl,rfl⟩:=Zcj hv
  refine⟨_,ZfO x m3 b3 eY (eH.mono aW),λy hy=>?_,?_⟩
  ·obtain⟨z,_,rfl⟩:=List.mem_map.1 hy;exact Zq4 z
  refine⟨λxs _ _ m'' q=>q<=x.nodes.length/\xs=[.int .i64 ((1+(ZaA (t.subs.take i)).length+q:Nat):Int)]/\m3.le m'',⟨Nat.zero_le _,rfl,Mem.le_refl _⟩,?_,?_⟩
  ·rintro y n0 n1 n2 n3 n4 n5 n6 a n7 c m4 q bV hq ⟨gQ,hy,_⟩ b4
   simp only[List.cons.injEq,Value.int.injEq,true_and,and_true]at hy
   subst hy
   have hq':(List.map (λz:T=>[z.v]) x.nodes)[(q:Nat)]?=some [Value.agg #[.int .u8 n0,.int .u64 n1,.int .u64 n2,.int .u64 n3,.int .u64 n4,.int .i64 n5,.int .i64 n6,.slice a n7 c]]:=hq
   rw[List.getElem?_map]at hq'
   obtain⟨z,hz,i9⟩:=Option.map_eq_some_iff.1 hq'
   have tZ:q < x.nodes.length:=(List.getElem?_eq_some_iff.1 hz).1
   refine⟨⟨rfl,by omega,?_⟩,⟨rfl,by omega,?_,bV⟩,rfl,.inr rfl⟩
   ·rw[Int.toNat_natCast]
    show(t.nodes.map λx=>[x.v])[1+(ZaA (t.subs.take i)).length+q]?=_
    rw[List.getElem?_map,Zv6 hx hz,<-i9];rfl
   ·congr 2
  ·rintro y m4 bV ⟨gQ,hy,_⟩
   simp only[List.cons.injEq,Value.int.injEq,true_and,and_true]at hy
   subst hy
   refine⟨rfl,t.subs.length - (i+1),by omega,i+1,by omega,?_,mLt iR (mLt aW bV),rfl⟩
   rw[Zan (by omega) (by omega),ZoV hx,List.length_append]
   simp[T.v,Nat.add_assoc]
 ·have hi':i=t.subs.length:=by
   have:¬((i:Int) < (t.subs.length:Int)):=by simpa using bX
   omega
  subst hi'
  left
  rw[List.take_length,ZcD]
  simp
  omega
termination_by SizeOf.sizeOf t
decreasing_by exact bU
theorem Zt6(least most:Int)(m:Mem):CX Tryz.prog 207 #[.int .i64 least,.int .i64 most] m [] (Ret (.bool (Zkm least most))):=by
 apply Znk
 refine⟨decide (least < 0)||decide (least > 16)||(least == 1&&most == 1),?_,Zaa (λh=>Zac (Mem.le_refl _) ?_) (λh=>⟨most == -1||(decide (most ≥ 1)&&decide (most<=16)&&decide (most ≥ least)),?_,Zac (Mem.le_refl _) ?_⟩)⟩
 ·simp only[Zty];(repeat' split) <;> simp_all <;> omega
 ·simp[Ret,Zkm,h]
 ·simp only[Zty];(repeat' split) <;> simp_all <;> omega
 ·simp[Ret,Zkm,h]
theorem Znm(l:List T)(a:Option Addr)(c:Nat)(g:Nat)(ca:List Value)(p:T->Bool)(m:Mem)(hl:l.length<=1000000000000000)(hr:l=[]\/∃b o,a=some ⟨b,o,none⟩/\RepAt m b o l)
  (hp:∀x∈l,∀m',m.le m'->Rep m' x->CX Tryz.prog g (x.v::ca).toArray m' [] (Ret (.bool (p x)))):
  CX Tryz.prog 217 #[.slice a l.length c,.func (.func g) #[] ca.toArray] m [] (Ret (.int .i64 (if l.any p then(l.findIdx p:Nat)else(-1:Int)))):=by
 apply Zbv a l.length c g [] ca
 refine⟨λxs _ _ m'' q=>∃i:Nat,i<=l.length/\xs=[.int .i64 i]/\(∀x∈l.take i,p x=false)/\m.le m''/\q=l.length - i,⟨l.length,0,by omega,rfl,by simp,Mem.le_refl _,by omega⟩,?_⟩
 rintro n m' q hm ⟨i,hi,hn,eX,bM,hq⟩
 obtain rfl:n=i:=by simpa using hn
 refine Zaa (λaP=>?_) (λbX=>?_)
 ·have aV:i < l.length:=by simpa using aP
  obtain⟨x,hx⟩:∃x,l[i]?=some x:=⟨_,List.getElem?_eq_getElem aV⟩
  have bZ:x∈l:=List.mem_of_getElem? hx
  rcases hr with h0|⟨b1,o1,ha,fR⟩
  ·rw[h0]at aV;simp at aV
  obtain⟨dM,eH⟩:=(fR.mono hm).get hx
  refine⟨b1,o1,ha,⟨by omega,by omega⟩,_,_,_,_,_,_,_,_,dM,Zah (hp x bZ m' hm eH) λm1 aB=>Zaa (λfV=>?_) (λfV=>?_)⟩
  ·refine Zac (mLt hm aB) ?_
   have eZ:l.any p=true:=List.any_eq_true.2 ⟨x,bZ,fV⟩
   have gq:l.findIdx p=i:=by
    rw[List.findIdx_eq aV]
    refine⟨by rw[(List.getElem?_eq_some_iff.1 hx).2];exact fV,λj hj=>?_⟩
    exact eX _ (List.mem_of_getElem? (i:=j) (by rw[List.getElem?_take_of_lt hj];exact List.getElem?_eq_getElem (by omega)))
   simp[Ret,eZ,gq]
  ·refine⟨l.length - (i+1),by omega,i+1,by omega,by rw[Zan (by omega) (by omega)];rfl,?_,mLt hm aB,rfl⟩
   intro y hy
   rw[List.take_add_one,hx]at hy
   rcases List.mem_append.1 hy with hy|hy
   ·exact eX y hy
   ·simp at hy;rw[hy];exact fV
 ·have hi':i=l.length:=by
   have:¬((i:Int) < (l.length:Int)):=by simpa using bX
   omega
  subst hi'
  refine Zac hm ?_
  have eZ:l.any p=false:=by
   rw[List.any_eq_false]
   rw[List.take_length]at eX
   exact λx hx=>by simp[eX x hx]
  simp[Ret,eZ]
theorem ZhP(l:List T)(a:Option Addr)(c:Nat)(g:Nat)(ca:List Value)(p:T->Bool)(m:Mem)(hl:l.length<=1000000000000000)(hr:l=[]\/∃b o,a=some ⟨b,o,none⟩/\RepAt m b o l)
  (hp:∀x∈l,∀m',m.le m'->Rep m' x->CX Tryz.prog g (x.v::ca).toArray m' [] (Ret (.bool (p x)))):
  CX Tryz.prog 211 #[.slice a l.length c,.func (.func g) #[] ca.toArray] m [] (Ret (.bool (l.any p))):=by
 apply Zbe a l.length c g [] ca
 refine Zav (Znm l a c g ca p m hl hr hp) λm' hm=>Zac hm ?_
 cases h:l.any p <;> simp[Ret]
theorem Zyy(t:T)(k:Int)(b:Nat)(m:Mem)(hb:m.reads b 0 [.int .u8 k]):CX Tryz.prog 212 #[t.v,.pointer (some ⟨b,0,none⟩)] m [] (Ret (.bool (t.k == k))):=by
 apply ZpI (c0b:=b) (c0o:=0)
 intro b' m' hm _
 exact⟨_,hm _ _ _ (hb 0 _ rfl),Zab rfl (Zac hm rfl)⟩
theorem Zt7(t:T)(k:Int)(m:Mem)(hr:Rep m t):CX Tryz.prog 206 #[t.v,.int .u8 k] m [] (Ret (.bool (t.has k))):=by
 apply Zt2
 intro b m1 aB _ b2 m2 aN eU
 have hr':=ZjM (hr.mono (mLt aB aN))
 exact Zah (ZhP t.subs t.a t.c _ [.pointer (some ⟨b2,0,none⟩)] (λx=>x.k == k) m2 hr'.1 hr'.2 λx _ m' hm' _=>Zyy x k b2 m' (eU.mono hm')) λm3 aW=>Zac (mLt aB (mLt aN aW)) rfl
theorem Zd3(t:T)(m:Mem)(hr:Rep m t):CX Tryz.prog 69 #[t.v] m [] (Ret (.bool t.light)):=by
 apply ZpG
 intro b m1 aB _ b2
 refine Zai (Zit t m1) (λv m' css h=>by obtain⟨_,rfl,_⟩:=h;rfl) ?_
 rintro g fi ca m2 aN ⟨b3,hv,eY⟩
 obtain⟨rfl,rfl,rfl⟩:=Zcj hv
 have bM:=mLt aB aN
 refine⟨_,ZfO t m2 b3 eY (hr.mono bM),λy hy=>?_,λ_ css _ m' q=>css=[[.int .i64 q]]/\q<=10000/\q<=t.nodes.length,⟨rfl,by omega,by omega⟩,?_,?_⟩
 ·obtain⟨z,_,rfl⟩:=List.mem_map.1 hy;exact Zq4 z
 ·rintro n0 n1 n2 n3 n4 n5 n6 a n7 c cs m3 q aW hq ⟨cN,gQ,_⟩
  obtain rfl:cs=[.int .i64 q]:=by simpa using cN
  have aP:q < t.nodes.length:=by
   have:=(List.getElem?_eq_some_iff.1 (show(List.map (λz:T=>[z.v]) t.nodes)[(q:Nat)]?=some _ from hq)).1
   simpa using this
  refine Zaq rfl (Zab rfl ?_)
  have hw:IntKind.i64.wrap (intOf (Value.int .i64 (q:Int))+1)=(q:Int)+1:=Zan (n:=(q:Int)+1) (by omega) (by omega)
  simp only[hw]
  refine Zaa (λh=>⟨by trivial,Zac (mLt bM aW) ?_⟩) (λh=>⟨by trivial,?_,?_,by omega⟩)
  ·have:((q:Int)+1 > 10000):=by simpa using h
   simp[Ret,T.light];omega
  ·simp
  ·have:¬((q:Int)+1 > 10000):=by simpa using h
   omega
 ·rintro cs m3 aW ⟨cN,gQ,_⟩
  obtain rfl:cs=[.int .i64 t.nodes.length]:=by simpa using cN
  refine Zaq rfl (Zab rfl (Zac (mLt bM aW) ?_))
  show Value.bool (decide ((t.nodes.length:Int)<=10000))=Value.bool t.light
  congr 1
  rw[T.light,decide_eq_decide];omega
end Go.Proofs.YtojlhhphofhaoaaGreatDoor
namespace Go.Proofs.YtojlhhphofhaoaaGreatDoor
open Go Go.Eng Go.Proofs Go.RowKit
theorem ZhQ{P:Program}{T:TypeId}(hg:P.eqGuardType P.depth T=false)(op:BinOp)(ox oy:Operand)(xs ys:Array Value)(w:World):(eqGuard op T ox oy (.agg xs) (.agg ys)).run P w=.ok () w:=by
 unfold eqGuard
 have h1:(P.eqGuardType P.depth T)=true->False:=λh=>by rw[hg]at h;cases h
 split
 ·simp[go_sem];exact λh=>(h1 h).elim
 ·simp[go_sem];exact λh=>(h1 h).elim
 ·simp
theorem Zwr(a b c d a' b' c' d':Int):EqIs Tryz.prog 49 (.agg #[.int .u64 a,.int .u64 b,.int .u64 c,.int .u64 d]) (.agg #[.int .u64 a',.int .u64 b',.int .u64 c',.int .u64 d']) (a == a'&&b == b'&&c == c'&&d == d'):=by
 refine⟨λw=>?_,λop ox oy w=>ZhQ (by kernel_rfl) op ox oy _ _ w⟩
 have u3:=Tryz.underlying47
 have a3:=Tryz.isAgg47
 have z3:=Tryz.sizeOf47
 rw[Op.equal,Op.maxDepth,show(10000:Nat)=9999+1 from rfl,Op.equalIn]
 simp only[Sem.run_bind,run_underlying Tryz.underlying49,Result.andThen_ok]
 simp only[Std.Legacy.Range.forIn_eq_forIn_range',Std.Legacy.Range.size,Nat.sub_zero,Nat.add_sub_cancel,Nat.div_one,List.range'_succ,List.range'_zero,List.forIn_cons,List.forIn_nil]
 go_simp
 by_cases h1:a=a' <;> by_cases h2:b=b' <;> by_cases h3:c=c' <;> by_cases h4:d=d' <;> simp[h1,h2,h3,h4]
end Go.Proofs.YtojlhhphofhaoaaGreatDoor
namespace Go.Proofs.YtojlhhphofhaoaaGreatDoor
open Go Go.Eng Go.Rx Go.Proofs Go.RowKit
set_option maxRecDepth 100000
theorem Zws(t:T)(m:Mem)(hr:Rep m t):CX Tryz.prog 198 #[t.v] m [] (Ret (.bool t.right)):=by
 apply ZpJ
 intro b m1 aB _
 have eV:=hr.mono aB
 refine⟨t.k != 2&&!t.setZ||(t.k != 5&&(t.mn != 0||t.mx != 0)||(decide (t.k < 3)&&decide (0 < t.subs.length))),?_,Zaa (λh=>Zac aB ?_) (λh=>?_)⟩
 ·refine Zaa (λh1=>?_) (λh1=>?_)
  ·refine⟨t.setZ,Zwr _ _ _ _ _ _ _ _,?_⟩
   simp only[Zty]
   (repeat' split) <;> simp_all <;> omega
  ·simp only[Zty]
   (repeat' split) <;> simp_all <;> omega
 ·simp[Ret,T.right,h]
 ·refine Zaa (λh1=>Zac aB ?_) (λh1=>Zaa (λh2=>⟨t.setZ,Zwr _ _ _ _ _ _ _ _,Zac aB ?_⟩) (λh2=>Zaa (λh3=>?_) (λh3=>Zaa (λh4=>?_) (λh4=>Zaa (λh5=>?_) (λh5=>?_)))))
  ·have:t.k=1:=by simpa using h1
   show Value.bool _=Value.bool t.right;rw[T.right,h];simp[this]
  ·have:t.k=2:=by simpa using h2
   show Value.bool _=Value.bool t.right;rw[T.right,h];simp[this]
  ·have:t.k=3:=by simpa using h3
   refine⟨decide (1 < t.subs.length)&&(!t.has 1&&!t.has 3),Zaa (λh4=>?_) (λh4=>?_),Zac aB ?_⟩
   ·refine Zah (Zt7 t 1 m1 eV) λm2 aN=>Zaa (λh5=>?_) (λh5=>?_)
    ·refine Zah (Zt7 t 3 m2 (eV.mono aN)) λm3 aW=>⟨rfl,Zaf ?_⟩
     simp_all <;> (intros;omega)
    ·refine⟨rfl,Zaf ?_⟩
     simp_all <;> (intros;omega)
   ·refine⟨rfl,Zaf ?_⟩
    simp_all <;> (intros;omega)
   ·show Value.bool _=Value.bool t.right;rw[T.right,h];simp[this]
  ·have:t.k=4:=by simpa using h4
   refine⟨decide (1 < t.subs.length)&&!t.has 4,Zaa (λh4=>?_) (λh4=>?_),Zac aB ?_⟩
   ·refine Zah (Zt7 t 4 m1 eV) λm2 aN=>⟨rfl,Zaf ?_⟩
    simp_all <;> (intros;omega)
   ·refine⟨rfl,Zaf ?_⟩
    simp_all <;> (intros;omega)
   ·show Value.bool _=Value.bool t.right;rw[T.right,h];simp[this]
  ·have:t.k=5:=by simpa using h5
   refine⟨t.subs.length == 1&&(Zkm t.mn t.mx&&!t.has 1),Zaa (λh4=>?_) (λh4=>?_),Zac aB ?_⟩
   ·refine Zah (Zt6 t.mn t.mx m1) λm2 aN=>Zaa (λh5=>?_) (λh5=>?_)
    ·refine Zah (Zt7 t 1 m2 (eV.mono aN)) λm3 aW=>⟨rfl,Zaf ?_⟩
     have h4':((t.subs.length:Int) == 1)=true:=h4
     have:t.subs.length=1:=by have:=of_decide_eq_true h4';omega
     simp_all <;> (intros;omega)
    ·refine⟨rfl,Zaf ?_⟩
     simp_all <;> (intros;omega)
   ·refine⟨rfl,Zaf ?_⟩
    have h4':((t.subs.length:Int) == 1)=false:=h4
    have:¬t.subs.length=1:=by have:=of_decide_eq_false h4';omega
    simp_all <;> (intros;omega)
   ·show Value.bool _=Value.bool t.right;rw[T.right,h];simp[this]
  ·refine⟨t.k == 6&&t.subs.length == 1,Zaa (λh4=>⟨rfl,Zaf ?_⟩) (λh4=>⟨rfl,Zaf ?_⟩),Zac aB ?_⟩
   ·have:(t.k == 6)=true:=h4
    rw[this,Bool.true_and]
    show(decide ((t.subs.length:Int)=1))=decide (t.subs.length=1)
    rw[decide_eq_decide];omega
   ·have:(t.k == 6)=false:=h4
    simp[this]
   ·show Value.bool _=Value.bool t.right;rw[T.right,h]
    have e1:¬t.k=1:=by simpa using h1
    have e2:¬t.k=2:=by simpa using h2
    have e3:¬t.k=3:=by simpa using h3
    have e4:¬t.k=4:=by simpa using h4
    have e5:¬t.k=5:=by simpa using h5
    simp[e1,e2,e3,e4,e5]
theorem Zwt(t:T)(m:Mem)(hr:Rep m t):CX Tryz.prog 180 #[t.v] m [] (Ret (.bool t.clean)):=by
 apply ZpK
 intro b m1 aB _ b2
 refine Zah (Zd3 t m1 (hr.mono aB)) λm2 aN=>Zaa (λh=>Zac (mLt aB aN) ?_) (λh=>?_)
 ·have:t.light=false:=by simpa using h
  simp[Ret,T.clean,this]
 have hl:t.light=true:=by simpa using h
 refine Zai (Zit t m2) (λv m' css h=>by obtain⟨_,rfl,_⟩:=h;rfl) ?_
 rintro g fi ca m3 aW ⟨b3,hv,eY⟩
 obtain⟨rfl,rfl,rfl⟩:=Zcj hv
 have bM:=mLt aB (mLt aN aW)
 refine⟨_,ZfO t m3 b3 eY (hr.mono bM),λy hy=>?_,λ_ css _ m' q=>m3.le m'/\∀x∈t.nodes.take q,x.right=true,⟨Mem.le_refl _,by simp⟩,?_,?_⟩
 ·obtain⟨z,_,rfl⟩:=List.mem_map.1 hy;exact Zq4 z
 ·rintro n0 n1 n2 n3 n4 n5 n6 a n7 c cs m4 q bV hq ⟨_,gQ⟩ b4
  have hq':(List.map (λz:T=>[z.v]) t.nodes)[(q:Nat)]?=some [Value.agg #[.int .u8 n0,.int .u64 n1,.int .u64 n2,.int .u64 n3,.int .u64 n4,.int .i64 n5,.int .i64 n6,.slice a n7 c]]:=hq
  rw[List.getElem?_map]at hq'
  obtain⟨z,hz,i9⟩:=Option.map_eq_some_iff.1 hq'
  have kz:z.v=Value.agg #[.int .u8 n0,.int .u64 n1,.int .u64 n2,.int .u64 n3,.int .u64 n4,.int .i64 n5,.int .i64 n6,.slice a n7 c]:=by simpa using i9
  have sf:Rep m4 z:=(ZtA (hr.mono bM) (List.mem_of_getElem? hz)).mono bV
  have gw:=Zws z m4 sf
  rw[kz]at gw
  refine Zah gw λm5 dD=>Zaa (λh=>⟨rfl,Zac (mLt bM (mLt bV dD)) ?_⟩) (λh=>⟨rfl,mLt bV dD,λx hx=>?_⟩)
  ·have oD:z.right=false:=by simpa using h
   have:t.nodes.all T.right=false:=by
    rw[List.all_eq_false];exact⟨z,List.mem_of_getElem? hz,by simp[oD]⟩
   simp[Ret,T.clean,this]
  ·rw[List.take_add_one,hz]at hx
   rcases List.mem_append.1 hx with hx|hx
   ·exact gQ x hx
   ·simp at hx;rw[hx];simpa using h
 ·rintro cs m4 bV ⟨_,gQ⟩
  refine Zac (mLt bM bV) ?_
  rw[List.length_map,List.take_length]at gQ
  have:t.nodes.all T.right=true:=List.all_eq_true.2 gQ
  simp[Ret,T.clean,this,hl]
theorem Zsu(t:T)(m:Mem)(hr:Rep m t):CX Tryz.prog 60 #[t.v] m [] (Ret (.int .i64 t.size)):=by
 apply Zro
 intro b m1 aB _
 refine Zah (Zd3 t m1 (hr.mono aB)) λm2 aN=>Zaa (λh=>Zac (mLt aB aN) ?_) (λh=>?_)
 ·have:t.light=false:=by simpa using h
  simp[Ret,T.size,this]
 have hl:t.light=true:=by simpa using h
 have qz:t.nodes.length<=10000:=of_decide_eq_true hl
 intro b2
 refine Zai (Zit t m2) (λv m' css h=>by obtain⟨_,rfl,_⟩:=h;rfl) ?_
 rintro g fi ca m3 aW ⟨b3,hv,eY⟩
 obtain⟨rfl,rfl,rfl⟩:=Zcj hv
 have bM:=mLt aB (mLt aN aW)
 refine⟨_,ZfO t m3 b3 eY (hr.mono bM),λy hy=>?_,λ_ css _ m' q=>css=[[.int .i64 q]]/\q<=t.nodes.length,⟨rfl,by omega⟩,?_,?_⟩
 ·obtain⟨z,_,rfl⟩:=List.mem_map.1 hy;exact Zq4 z
 ·rintro n0 n1 n2 n3 n4 n5 n6 a n7 c cs m4 q bV hq ⟨cN,_⟩
  obtain rfl:cs=[.int .i64 q]:=by simpa using cN
  have aP:q < t.nodes.length:=by
   have:=(List.getElem?_eq_some_iff.1 (show(List.map (λz:T=>[z.v]) t.nodes)[(q:Nat)]?=some _ from hq)).1
   simpa using this
  have hw:IntKind.i64.wrap (intOf (Value.int .i64 (q:Int))+1)=(q:Int)+1:=Zan (n:=(q:Int)+1) (by omega) (by omega)
  refine Zaq rfl (Zab rfl ?_)
  simp only[hw]
  exact⟨by trivial,by simp,by omega⟩
 ·rintro cs m4 bV ⟨cN,gQ⟩
  obtain rfl:cs=[.int .i64 t.nodes.length]:=by simpa using cN
  refine Zaq rfl (Zac (mLt bM bV) ?_)
  simp[Ret,T.size,hl]
theorem ZpN(t:T)(m:Mem)(hr:Rep m t):CX Tryz.prog 182 #[t.v] m [] (Ret (.int .i64 t.groups)):=by
 apply Znl
 intro b m1 aB _
 refine Zah (Zd3 t m1 (hr.mono aB)) λm2 aN=>Zaa (λh=>Zac (mLt aB aN) ?_) (λh=>?_)
 ·have:t.light=false:=by simpa using h
  simp[Ret,T.groups,this]
 have hl:t.light=true:=by simpa using h
 have qz:t.nodes.length<=10000:=of_decide_eq_true hl
 intro b2
 refine Zai (Zit t m2) (λv m' css h=>by obtain⟨_,rfl,_⟩:=h;rfl) ?_
 rintro g fi ca m3 aW ⟨b3,hv,eY⟩
 obtain⟨rfl,rfl,rfl⟩:=Zcj hv
 have bM:=mLt aB (mLt aN aW)
 have gx:∀q,(t.nodes.take q).countP (λx=>x.k == 6)<=10000:=λq=>by
  have h1:=List.countP_le_length (p:=λx:T=>x.k == 6) (l:=t.nodes.take q)
  have h2:(t.nodes.take q).length<=t.nodes.length:=List.length_take_le' _ _
  omega
 refine⟨_,ZfO t m3 b3 eY (hr.mono bM),λy hy=>?_,λ_ css _ m' q=>css=[[.int .i64 ((t.nodes.take q).countP λx=>x.k == 6:Nat)]]/\q<=t.nodes.length,⟨rfl,by omega⟩,?_,?_⟩
 ·obtain⟨z,_,rfl⟩:=List.mem_map.1 hy;exact Zq4 z
 ·rintro n0 n1 n2 n3 n4 n5 n6 a n7 c cs m4 q bV hq ⟨cN,_⟩ b4
  obtain rfl:cs=_:=by simpa using cN
  have hq':(List.map (λz:T=>[z.v]) t.nodes)[(q:Nat)]?=some [Value.agg #[.int .u8 n0,.int .u64 n1,.int .u64 n2,.int .u64 n3,.int .u64 n4,.int .i64 n5,.int .i64 n6,.slice a n7 c]]:=hq
  rw[List.getElem?_map]at hq'
  obtain⟨z,hz,i9⟩:=Option.map_eq_some_iff.1 hq'
  have hk:z.k=n0:=by
   have:z.v=Value.agg #[.int .u8 n0,.int .u64 n1,.int .u64 n2,.int .u64 n3,.int .u64 n4,.int .i64 n5,.int .i64 n6,.slice a n7 c]:=by simpa using i9
   simp[T.v]at this;exact this.1
  have aP:=(List.getElem?_eq_some_iff.1 hz).1
  have fL:(t.nodes.take (q+1)).countP (λx=>x.k == 6)=(t.nodes.take q).countP (λx=>x.k == 6)+(if z.k == 6 then 1 else 0):=by
   rw[List.take_add_one,hz,List.countP_append];simp[List.countP_cons]
  refine Zaa (λh=>?_) (λh=>?_)
  ·have hw:IntKind.i64.wrap (intOf (Value.int .i64 ((t.nodes.take q).countP λx=>x.k == 6:Nat))+1)=(((t.nodes.take q).countP λx=>x.k == 6:Nat):Int)+1:=Zan (n:=(((t.nodes.take q).countP λx=>x.k == 6:Nat):Int)+1) (by have:=gx q;omega) (by have:=gx q;omega)
   refine Zaq rfl (Zab rfl ?_)
   simp only[hw]
   refine⟨by trivial,?_,by omega⟩
   rw[fL,hk]
   have:(n0 == 6)=true:=h
   simp[this]
  ·refine⟨rfl,?_,by omega⟩
   rw[fL,hk]
   have:(n0 == 6)=false:=h
   simp[this]
 ·rintro cs m4 bV ⟨cN,gQ⟩
  obtain rfl:cs=_:=by simpa using cN
  refine Zaq rfl (Zac (mLt bM bV) ?_)
  simp[Ret,T.groups,hl]
theorem ZhR(t:T)(m:Mem)(hr:Rep m t)(hl:t.nodes.length<=10000):CX Tryz.prog 199 #[t.v] m [] (Ret (.int .i64 t.pos)):=by
 apply ZhN
 intro b m1 aB _
 have gm:=Zvc t
 have iG:=Zq5 t
 refine Zaa (λhk=>?_) (λhk=>?_)
 all_goals
  have hk':(if t.k=2 then(1:Int)else 0)=1/\t.k=2\/(if t.k=2 then(1:Int)else 0)=0/\t.k≠2:=by split <;> simp_all
  refine⟨λxs _ _ m'' q=>∃i:Nat,i<=t.subs.length/\xs=[.int .i64 ((if t.k=2 then 1 else 0)+Zfv (t.subs.take i)),.int .i64 i]/\m1.le m''/\q=t.subs.length - i,⟨t.subs.length,0,by omega,by simp_all [Zfv],Mem.le_refl _,by omega⟩,?_⟩
  rintro n n1 m2 q aN ⟨i,hi,dG,_,hq⟩
  have cM:=Zhh (t.subs.take i)
  have eU:=Zvb (t.subs.take i)
  have eY:(t.subs.take i).length<=i:=List.length_take_le _ _
  clear hk'
  generalize hc:(if t.k=2 then(1:Int)else 0)=c at *
  have w9:0<=c/\c<=1:=by rw[<-hc];split <;> omega
  simp only[List.cons.injEq,Value.int.injEq,true_and,and_true]at dG
  obtain⟨rfl,rfl⟩:=dG
  refine Zaa (λaP=>?_) (λbX=>?_)
  ·have aV:i < t.subs.length:=by simpa using aP
   obtain⟨x,hx⟩:∃x,t.subs[i]?=some x:=⟨_,List.getElem?_eq_getElem aV⟩
   have bZ:x∈t.subs:=List.mem_of_getElem? hx
   have bU:=Zq3 bZ
   have sg:=ZtC bZ
   obtain⟨_,h0|⟨b1,o1,ha,fR⟩⟩:=ZjM hr
   ·rw[h0]at aV;simp at aV
   obtain⟨dM,eH⟩:=(fR.mono ((mLt aB aN))).get hx
   have uB:=ZiH x
   refine⟨b1,o1,ha,⟨by omega,by omega⟩,_,_,_,_,_,_,_,_,dM,λb2=>Zab rfl ?_⟩
   refine Zav (ZhR x m2 eH (by omega)) λm3 aW=>⟨rfl,t.subs.length - (i+1),by omega,i+1,by omega,?_,mLt aN aW,rfl⟩
   rw[Zan (by omega) (by omega),Zan (by omega) (by omega),ZtB hx,Int.add_assoc]
   rfl
  ·have hi':i=t.subs.length:=by
    have:¬((i:Int) < (t.subs.length:Int)):=by simpa using bX
    omega
   subst hi'
   rw[List.take_length]at cM eU ⊢
   have hF:=Zva t.mn t.mx
   have ls:0<=(c+Zfv t.subs)*Zv7 t.mn t.mx/\(c+Zfv t.subs)*Zv7 t.mn t.mx<=100020001*10001:=by
    constructor
    ·exact Int.mul_nonneg (by omega) hF.1
    ·exact Int.mul_le_mul (by omega) hF.2 hF.1 (by omega)
   refine Zaa (λh5=>Zaa (λhx=>Zac (mLt aB aN) ?_) (λhx=>Zac (mLt aB aN) ?_)) (λh5=>Zac (mLt aB aN) ?_)
   ·have e1:t.k=5:=by simpa using h5
    have e2:t.mx=-1:=by simpa using hx
    have hF':Zv7 t.mn t.mx=ZgS (Zqo (Zqo t.mn 0) 1) 10001:=by simp[Zv7,e2]
    show Value.int .i64 (ZgS (IntKind.i64.wrap ((c+Zfv t.subs)*ZgS (Zqo (Zqo t.mn 0) 1) 10001)) 10001)=Value.int .i64 t.pos
    rw[<-hF',Zan (by omega) (by omega),iG,Zxu,if_pos e1];rfl
   ·have e1:t.k=5:=by simpa using h5
    have e2:¬t.mx=-1:=by simpa using hx
    have hF':Zv7 t.mn t.mx=ZgS (Zqo (Zqo t.mn 0) t.mx) 10001:=by simp[Zv7,e2]
    show Value.int .i64 (ZgS (IntKind.i64.wrap ((c+Zfv t.subs)*ZgS (Zqo (Zqo t.mn 0) t.mx) 10001)) 10001)=Value.int .i64 t.pos
    rw[<-hF',Zan (by omega) (by omega),iG,Zxu,if_pos e1];rfl
   ·have e1:¬t.k=5:=by simpa using h5
    show Value.int .i64 (ZgS (c+Zfv t.subs) 10001)=Value.int .i64 t.pos
    rw[iG,Zxu,if_neg e1]
termination_by SizeOf.sizeOf t
decreasing_by all_goals exact bU
theorem Znn(t:T)(m:Mem)(hr:Rep m t):CX Tryz.prog 181 #[t.v] m [] (Ret (.int .i64 t.positions)):=by
 apply ZhO
 intro b m1 aB _
 refine Zah (Zd3 t m1 (hr.mono aB)) λm2 aN=>Zaa (λh=>Zac (mLt aB aN) ?_) (λh=>?_)
 ·have:t.light=false:=by simpa using h
  simp[Ret,T.positions,this]
 have hl:t.light=true:=by simpa using h
 refine Zav (ZhR t m2 (hr.mono (mLt aB aN)) (of_decide_eq_true hl)) λm3 aW=>Zac (mLt aB (mLt aN aW)) ?_
 simp[Ret,T.positions,hl]
def ZCe(bg en:Bool)(t:T):Value:=.agg #[.bool bg,.bool en,.int .u8 t.k,.int .u64 t.s0,.int .u64 t.s1,.int .u64 t.s2,.int .u64 t.s3,.int .i64 t.mn,.int .i64 t.mx,.slice t.a t.subs.length t.c]
theorem Zwu(bg en:Bool)(t:T)(m:Mem)(hr:Rep m t):CX Tryz.prog 159 #[ZCe bg en t] m [] (Ret (.int .i64 t.check)):=by
 apply ZpM
 intro b m1 aB _
 refine Zah (Zwt t m1 (hr.mono aB)) λm2 aN=>Zaa (λh=>Zac (mLt aB aN) ?_) (λh=>?_)
 ·have:t.clean=false:=by simpa using h
  simp[Ret,T.check,this]
 have iU:=mLt aB aN
 have h1:¬t.clean=false:=by simpa using h
 refine Zav (Zsu t m2 (hr.mono iU)) λm3 aW=>Zaa (λh=>Zac (mLt iU aW) ?_) (λh=>?_)
 ·have h2:t.size > 120:=by simpa using h
  show Value.int .i64 81=Value.int .i64 t.check
  rw[T.check,if_neg h1,if_pos h2]
 have h2:¬t.size > 120:=by simpa using h
 have kA:=mLt iU aW
 refine Zav (Znn t m3 (hr.mono kA)) λm4 bV=>Zaa (λh=>Zac (mLt kA bV) ?_) (λh=>?_)
 ·have h3:t.positions > 400:=by simpa using h
  show Value.int .i64 82=Value.int .i64 t.check
  rw[T.check,if_neg h1,if_neg h2,if_pos h3]
 have h3:¬t.positions > 400:=by simpa using h
 have mY:=mLt kA bV
 refine Zav (ZpN t m4 (hr.mono mY)) λm5 dD=>Zaa (λh=>Zac (mLt mY dD) ?_) (λh=>Zac (mLt mY dD) ?_)
 ·have h4:t.groups > 9:=by simpa using h
  show Value.int .i64 83=Value.int .i64 t.check
  rw[T.check,if_neg h1,if_neg h2,if_neg h3,if_pos h4]
 ·have h4:¬t.groups > 9:=by simpa using h
  show Value.int .i64 0=Value.int .i64 t.check
  rw[T.check,if_neg h1,if_neg h2,if_neg h3,if_neg h4]
theorem Zno(l l':List T)(a a':Option Addr)(c c':Nat)(m:Mem)(hl:l.length<=1000000000000000)(hr:l=[]\/∃b o,a=some ⟨b,o,none⟩/\RepAt m b o l)(hr':l'=[]\/∃b o,a'=some ⟨b,o,none⟩/\RepAt m b o l')
  (hp:∀x∈l,∀y∈l',∀m',m.le m'->Rep m' x->Rep m' y->CX Tryz.prog 111 #[x.v,y.v] m' [] (Ret (.bool (x.same y)))):
  CX Tryz.prog 133 #[.slice a l.length c,.slice a' l'.length c',.func (.func 111) #[] #[]] m [] (Ret (.bool (Zfc l l'))):=by
 apply ZaJ a l.length c a' l'.length c' _ [] []
 refine Zaa (λh=>Zac (Mem.le_refl _) ?_) (λh=>?_)
 ·have:¬l.length=l'.length:=by
   intro e;rw[e]at h;simp at h
  show Value.bool false=_
  rw[ZoX this]
 have ip:l.length=l'.length:=by
  have h2:((l.length:Int) == (l'.length:Int))=true:=by simpa using h
  have:=of_decide_eq_true h2;omega
 refine⟨λxs _ _ m'' q=>∃i:Nat,i<=l.length/\xs=[.int .i64 i]/\Zfc (l.take i) (l'.take i)=true/\m.le m''/\q=l.length - i,⟨l.length,0,by omega,rfl,by simp[Zfc],Mem.le_refl _,by omega⟩,?_⟩
 rintro n m' q hm ⟨i,hi,hn,dX,bM,hq⟩
 obtain rfl:n=i:=by simpa using hn
 refine Zaa (λaP=>?_) (λbX=>?_)
 ·have aV:i < l.length:=by simpa using aP
  obtain⟨x,hx⟩:∃x,l[i]?=some x:=⟨_,List.getElem?_eq_getElem aV⟩
  obtain⟨y,hy⟩:∃y,l'[i]?=some y:=⟨_,List.getElem?_eq_getElem (by omega)⟩
  have lH:x∈l:=List.mem_of_getElem? hx
  have si:y∈l':=List.mem_of_getElem? hy
  rcases hr with h0|⟨b1,o1,ha,fR⟩
  ·rw[h0]at aV;simp at aV
  rcases hr' with h0|⟨b2,o2,ha',mZ⟩
  ·rw[h0]at ip;simp at ip;rw[ip]at aV;simp at aV
  obtain⟨dM,eH⟩:=(fR.mono hm).get hx
  obtain⟨ik,kC⟩:=(mZ.mono hm).get hy
  refine⟨b1,o1,ha,⟨by omega,by omega⟩,_,_,_,_,_,_,_,_,dM,λb3=>Zab rfl ⟨b2,o2,ha',⟨by omega,by omega⟩,_,_,_,_,_,_,_,_,ik,λb4=>Zab rfl ?_⟩⟩
  refine Zah (hp x lH y si m' hm eH kC) λm1 aB=>Zaa (λfV=>?_) (λfV=>?_)
  ·have hf:x.same y=false:=by simpa using fV
   refine Zac (mLt hm aB) ?_
   show Value.bool false=_
   rw[Zr2 hx hy hf]
  ·have hf:x.same y=true:=by simpa using fV
   refine⟨l.length - (i+1),by omega,i+1,by omega,by rw[Zan (by omega) (by omega)];rfl,Zl3 hx hy dX hf trivial,mLt hm aB,rfl⟩
 ·have hi':i=l.length:=by
   have:¬((i:Int) < (l.length:Int)):=by simpa using bX
   omega
  subst hi'
  refine Zac hm ?_
  rw[List.take_length,ip,List.take_length]at dX
  show Value.bool true=_
  rw[dX]
theorem Zvu(t u:T)(m:Mem)(hr:Rep m t)(hu:Rep m u):CX Tryz.prog 111 #[t.v,u.v] m [] (Ret (.bool (t.same u))):=by
 apply Zrq
 intro b m1 aB _ b' m2 aN _
 have hm:=mLt aB aN
 refine⟨t.same u,?_,Zac hm rfl⟩
 rw[Zu8]
 refine Zaa (λh1=>⟨_,Zwr _ _ _ _ _ _ _ _,Zaa (λh2=>Zaa (λh3=>Zaa (λh4=>?_) (λh4=>⟨rfl,Zaf ?_⟩)) (λh3=>⟨rfl,Zaf ?_⟩)) (λh2=>⟨rfl,Zaf ?_⟩)⟩) (λh1=>⟨rfl,Zaf ?_⟩)
 ·have hr':=ZjM (hr.mono hm)
  have hu':=ZjM (hu.mono hm)
  refine Zah (Zno t.subs u.subs t.a u.a t.c u.c m2 hr'.1 hr'.2 hu'.2 λx hx y hy m' _ dM ik=>?_) λm3 aW=>⟨rfl,Zaf ?_⟩
  ·have bU:=Zq3 hx
   exact Zvu x y m' dM ik
  ·rw[h1,h2,h3,h4];rfl
 ·rw[h1,h2,h3,h4];rfl
 ·rw[h1,h2,h3];rfl
 ·rw[h1,h2];rfl
 ·rw[h1];rfl
termination_by SizeOf.sizeOf t
decreasing_by exact bU
theorem Zvv(t u:T)(m:Mem)(hr:Rep m t)(hu:Rep m u):CX Tryz.prog 80 #[t.v,u.v] m [] (Ret (.bool (t.light&&(u.light&&t.same u)))):=by
 apply Zrr
 intro b m1 aB _ b' m2 aN _
 have hm:=mLt aB aN
 refine⟨t.light&&(u.light&&t.same u),?_,Zac hm rfl⟩
 refine Zah (Zd3 t m2 (hr.mono hm)) λm3 aW=>Zaa (λh1=>?_) (λh1=>⟨rfl,Zaf ?_⟩)
 ·refine Zah (Zd3 u m3 (hu.mono (mLt hm aW))) λm4 bV=>Zaa (λh2=>?_) (λh2=>?_)
  ·have dD:=mLt (mLt hm aW) bV
   refine Zah (Zvu t u m4 (hr.mono dD) (hu.mono dD)) λm6 gM=>⟨rfl,Zaf ?_⟩
   rw[h1,h2];rfl
  ·refine⟨rfl,Zaf ?_⟩
   rw[h1,h2];rfl
 ·rw[h1];rfl
end Go.Proofs.YtojlhhphofhaoaaGreatDoor
namespace Go.Proofs.YtojlhhphofhaoaaGreatDoor
open Go Go.Eng Go.Rx Go.Proofs Go.RowKit
theorem ZgR{b:Bool}{p q:Prop}(h:b=true)(k:p):br b p q:=by subst h;exact k
theorem ZcI{b:Bool}{p q:Prop}(h:b=false)(k:q):br b p q:=by subst h;exact k
theorem ZaF{α:Type}{l:List α}{k:Nat}(h:k < l.length):∃x,l[k]?=some x:=⟨l[k],List.getElem?_eq_getElem h⟩
theorem Zbw(t:T):Rx.ZcR [t]=t.cs:=by simp[Rx.ZcR]
theorem ZdV{m:Mem}{a:Option Addr}{ts:List T}(h:rowRd m a (Rx.ZcR ts)){i:Nat}{t:T}(hi:ts[i]?=some t):∃b o,a=some ⟨b,o,none⟩/\m.reads b (o+i*8) t.cs:=by
 rcases h with h|⟨b,o,ha,h⟩
 ·have hl:(Rx.ZcR ts).length=0:=by rw[h];rfl
  rw[Zar]at hl
  have:=(List.getElem?_eq_some_iff.1 hi).1
  omega
 ·refine⟨b,o,ha,λj v hj=>?_⟩
  rw[Nat.add_assoc]
  refine h (i*8+j) v ?_
  have e:ts=ts.take i++(t::ts.drop (i+1)):=by
   have aP:=(List.getElem?_eq_some_iff.1 hi).1
   have h2:=List.drop_eq_getElem_cons aP
   rw[(List.getElem?_eq_some_iff.1 hi).2]at h2
   rw[<-h2,List.take_append_drop]
  have aP:=(List.getElem?_eq_some_iff.1 hi).1
  have rW:=(List.getElem?_eq_some_iff.1 hj).1
  rw[e,ZaL,List.getElem?_append_right (by rw[Zar,List.length_take,Nat.min_eq_left (by omega)];omega),Zar,List.length_take,Nat.min_eq_left (by omega),show i*8+j - i*8=j by omega]
  have e2:Rx.ZcR (t::ts.drop (i+1))=t.cs++Rx.ZcR (ts.drop (i+1)):=by simp[Rx.ZcR]
  rw[e2,List.getElem?_append_left rW];exact hj
def Zqw(mb M0:Mem)(φ:T->Prop):Value->Mem->List (List Value)->Prop:=λv M' css=>∃m0,mb.le m0/\m0.le M'/\(∀b o u,M0 b o=some u->∀o',m0 b o'=mb b o')/\ZoZ φ v m0 css
theorem ZjR{mb M0:Mem}{φ:T->Prop}{m:Mem}{K:TRK}(k:∀(t:T)(m0 m':Mem),m.le m'->mb.le m0->m0.le m'->(∀b o u,M0 b o=some u->∀o',m0 b o'=mb b o')->Rep m0 t->φ t->K t.k t.s0 t.s1 t.s2 t.s3 t.mn t.mx t.a t.subs.length t.c m'):
  ∀(n0 n1 n2 n3 n4 n5 n6:Int)(a:Option Addr)(n c:Nat)(m':Mem),m.le m'->Zqw mb M0 φ (.agg #[.int .u8 n0,.int .u64 n1,.int .u64 n2,.int .u64 n3,.int .u64 n4,.int .i64 n5,.int .i64 n6,.slice a n c]) m' []->K n0 n1 n2 n3 n4 n5 n6 a n c m':=by
 rintro n0 n1 n2 n3 n4 n5 n6 a n c m' hm ⟨m0,h1,h2,h3,t,hv,hr,hp⟩
 simp only[T.v,Value.agg.injEq,Array.mk.injEq,List.cons.injEq,Value.int.injEq,Value.slice.injEq,true_and,and_true]at hv
 obtain⟨rfl,rfl,rfl,rfl,rfl,rfl,rfl,rfl,rfl,rfl⟩:=hv
 exact k t m0 m' hm h1 h2 h3 hr hp
theorem Zdv{mb M0:Mem}{φ:T->Prop}:∀(v:Value)(m':Mem) (css:List (List Value)),Zqw mb M0 φ v m' css->Shape.fits (.agg [.int .u8,.int .u64,.int .u64,.int .u64,.int .u64,.int .i64,.int .i64,.slice]) v=true:=λv _ _ ⟨_,_,_,_,t,e,_⟩=>by rw[e];rfl
def Apart(mb:Mem)(a:Option Addr):Prop:=a=none\/∃b,a=some ⟨b,0,none⟩/\mb.free b
theorem Apart.tok{mb M:Mem}{a a':Option Addr}{n c:Nat}(h:Apart mb a)(hm:mb.le M)(ht:TokFact M a a' n c):Apart mb a':=by
 rcases ht.2 with h1|⟨b,o,h1,h2⟩
 ·exact .inl h1
 rcases h2 with h2|⟨h3,h2⟩
 ·rw[<-h2];exact h
 ·subst h3
  refine .inr ⟨b,h1,λo=>?_⟩
  cases hb:mb b o with
  | none=>rfl
  | some v=>have:=hm _ _ _ hb;rw[h2.1 o]at this;cases this
theorem Zsv{m:Mem}{a:Option Addr}{ts r:List T}(h:rowRd m a (Rx.ZcR (ts++r))):rowRd m a (Rx.ZcR ts):=by
 rw[ZaL]at h
 rcases h with h|⟨b,o,ha,h⟩
 ·exact .inl (List.append_eq_nil_iff.1 h).1
 ·refine .inr ⟨b,o,ha,λj v hj=>h j v ?_⟩
  rw[List.getElem?_append_left (List.getElem?_eq_some_iff.1 hj).1];exact hj
theorem Zsw{m:Mem}{b:Nat}{ts:List T}{x t:T}(h:rowRd m (some ⟨b,0,none⟩) (Rx.ZcR (ts++[x]))):rowRd (m.upd b (0+ts.length*8) t.cs) (some ⟨b,0,none⟩) (Rx.ZcR (ts++[t])):=by
 refine .inr ⟨b,0,rfl,λj v hj=>?_⟩
 rw[ZaL]at hj
 rcases Nat.lt_or_ge j (ts.length*8)with aP|bX
 ·rw[List.getElem?_append_left (by rw[Zar];exact aP)]at hj
  unfold Mem.upd;try dsimp only
  rw[if_neg (by omega)]
  rcases h with h|⟨b',o',ha,h⟩
  ·have hl:(Rx.ZcR (ts++[x])).length=0:=by rw[h];rfl
   rw[Zar,List.length_append]at hl
   simp at hl
  ·cases ha
   refine h j v ?_
   rw[ZaL,List.getElem?_append_left (by rw[Zar];exact aP)];exact hj
 ·rw[List.getElem?_append_right (by rw[Zar];exact bX),Zar,Zbw]at hj
  have h8:=(List.getElem?_eq_some_iff.1 hj).1
  have h8':t.cs.length=8:=rfl
  unfold Mem.upd;try dsimp only
  rw[if_pos ⟨rfl,by omega,by omega⟩,show 0+j - (0+ts.length*8)=j - ts.length*8 by omega]
  exact hj
theorem Apart.base{mb m:Mem}{a:Option Addr}{ts:List T}(h:Apart mb a)(aM:rowRd m a (Rx.ZcR ts))(hn:ts≠[]):∃b,a=some ⟨b,0,none⟩/\mb.free b/\∃o u,m b o=some u:=by
 obtain⟨t,r,rfl⟩:∃t r,ts=t::r:=by cases ts with
  | nil=>exact absurd rfl hn
  | cons t r=>exact⟨t,r,rfl⟩
 obtain⟨b',o,ha,cG⟩:=ZdV aM (i:=0) (t:=t) rfl
 rcases h with h|⟨b,hb,hf⟩
 ·rw[h]at ha;cases ha
 ·rw[hb]at ha;cases ha
  exact⟨b',hb,hf,_,_,cG 0 (.int .u8 t.k) rfl⟩
theorem ZAU{ts:List T}(h:1 < ts.length):∃r x y,ts=r++[x,y]:=by
 have h1:ts.length - 2 < ts.length:=by omega
 refine⟨ts.take (ts.length - 2),ts[ts.length - 2],ts[ts.length - 1],?_⟩
 have e:=(List.take_append_drop (ts.length - 2) ts).symm
 rw[List.drop_eq_getElem_cons h1,List.drop_eq_getElem_cons (by omega),List.drop_eq_nil_of_le (by omega)]at e
 simpa[show ts.length - 2+1=ts.length - 1 by omega]using e
theorem ZAV{ts:List T}(h:0 < ts.length):∃r x,ts=r++[x]:=by
 refine⟨ts.dropLast,ts.getLast (by intro e;subst e;simp at h),?_⟩
 exact(List.dropLast_concat_getLast _).symm
end Go.Proofs.YtojlhhphofhaoaaGreatDoor
namespace Go.Proofs.YtojlhhphofhaoaaGreatDoor
open Go Go.Eng Go.Rx Go.Proofs Go.RowKit
set_option maxRecDepth 100000
theorem Zaz{p:Prop} [Decidable p]{A B:Prop}(ht:p->A)(hf:¬p->B):br (decide p) A B:=Zaa (λh=>ht (of_decide_eq_true h)) (λh=>hf (of_decide_eq_false h))
theorem ZfP(t:E)(m:Mem):CX Tryz.prog 96 #[t.v] m [] (λv m' _=>∃b,v=.func (.func 123) #[] #[.pointer (some ⟨b,0,none⟩)]/\m'.reads b 0 t.cs):=by
 apply ZkZ
 intro b m' hm hb
 exact⟨m',hm,Mem.le_refl _,b,rfl,hb⟩
theorem Zeh(t:E)(m:Mem)(c0b:Nat)(cG:m.reads c0b 0 t.cs)(dO:RepE m t):IX Tryz.prog 123 [] [.pointer (some ⟨c0b,0,none⟩)] m (t.nodes.map λx=>[x.v]):=by
 apply ZhJ 0 [] [] c0b 0
 intro l b m' hm hb
 have ky:=cG.mono hm
 refine⟨_,_,_,_,_,ky,⟨rfl,by omega,?_⟩,?_,.inr rfl⟩
 ·rw[ZbE];rfl
 refine⟨t.sl,ky 4 _ rfl,Zab rfl ?_⟩
 refine⟨λxs _ _ m'' q=>∃i:Nat,i<=t.subs.length/\xs=[.int .i64 ((1+(Zap (t.subs.take i)).length:Nat):Int),.int .i64 i]/\m'.le m''/\q=t.subs.length - i,⟨t.subs.length,0,by omega,?_,Mem.le_refl _,by omega⟩,?_⟩
 ·simp[Zap]
 rintro y n m2 q aN ⟨i,hi,dG,iR,hq⟩
 simp only[List.cons.injEq,Value.int.injEq,true_and,and_true]at dG
 obtain⟨rfl,rfl⟩:=dG
 have aX:slN t.sl=t.subs.length:=rfl
 rw[aX]
 refine Zaa (λaP=>?_) (λbX=>?_)
 ·have aV:i < t.subs.length:=by simpa using aP
  obtain⟨x,hx⟩:∃x,t.subs[i]?=some x:=⟨_,List.getElem?_eq_getElem aV⟩
  have bZ:x∈t.subs:=List.mem_of_getElem? hx
  have bU:=Zl5 bZ
  obtain⟨ph,h0|⟨b1,o1,ha,fR⟩⟩:=ZeP dO
  ·rw[h0]at aV;simp at aV
  obtain⟨dM,eH⟩:=(fR.mono' ((mLt hm iR))).get hx
  refine Zab rfl ⟨b1,o1,ha,⟨by omega,by omega⟩,_,_,_,_,_,dM,λb2=>Zab rfl ?_⟩
  refine⟨_,trivial,ZfP x m2,λv m' css h=>?_,?_⟩
  ·obtain⟨b3,rfl,_⟩:=h;rfl
  rintro g fi ca m3 aW ⟨b3,hv,eY⟩
  obtain⟨rfl,rfl,rfl⟩:=Zcj hv
  refine⟨_,Zeh x m3 b3 eY (RepE.mono' eH aW),λy hy=>?_,?_⟩
  ·obtain⟨z,_,rfl⟩:=List.mem_map.1 hy;exact Zl6 z
  refine⟨λxs _ _ m'' q=>q<=x.nodes.length/\xs=[.int .i64 ((1+(Zap (t.subs.take i)).length+q:Nat):Int)]/\m3.le m'',⟨Nat.zero_le _,rfl,Mem.le_refl _⟩,?_,?_⟩
  ·rintro y n0 v0 s0 n3 a n7 c m4 q bV hq ⟨gQ,hy,_⟩ b4
   simp only[List.cons.injEq,Value.int.injEq,true_and,and_true]at hy
   subst hy
   have hq':(List.map (λz:E=>[z.v]) x.nodes)[(q:Nat)]?=some [Value.agg #[.int .u8 n0,v0,.string s0,.int .i64 n3,.slice a n7 c]]:=hq
   rw[List.getElem?_map]at hq'
   obtain⟨z,hz,i9⟩:=Option.map_eq_some_iff.1 hq'
   have tZ:q < x.nodes.length:=(List.getElem?_eq_some_iff.1 hz).1
   simp only[E.v,List.cons.injEq,Value.agg.injEq,Array.mk.injEq,Value.int.injEq,Value.string.injEq,Value.slice.injEq,true_and,and_true]at i9
   obtain⟨rfl,rfl,rfl,rfl,rfl,rfl,rfl⟩:=i9
   refine Zab rfl ⟨⟨rfl,by omega,?_⟩,⟨rfl,by omega,?_,bV⟩,rfl,.inr rfl⟩
   ·rw[Int.toNat_natCast]
    show(t.nodes.map λx=>[x.v])[1+(Zap (t.subs.take i)).length+q]?=_
    rw[List.getElem?_map,ZtF hx hz];rfl
   ·congr 2
  ·rintro y m4 bV ⟨gQ,hy,_⟩
   simp only[List.cons.injEq,Value.int.injEq,true_and,and_true]at hy
   subst hy
   refine⟨rfl,t.subs.length - (i+1),by omega,i+1,by omega,?_,mLt iR (mLt aW bV),rfl⟩
   rw[Zan (by omega) (by omega),ZmP hx,List.length_append]
   simp[E.v,Nat.add_assoc]
 ·have hi':i=t.subs.length:=by
   have:¬((i:Int) < (t.subs.length:Int)):=by simpa using bX
   omega
  subst hi'
  left
  rw[List.take_length,ZbE]
  simp
  omega
termination_by SizeOf.sizeOf t
decreasing_by exact bU
theorem Zdg(t:E)(m:Mem)(hr:RepE m t):CX Tryz.prog 95 #[t.v] m [] (Ret (.bool t.light)):=by
 apply Zk0
 intro b m1 aB _ b2
 refine Zai (ZfP t m1) (λv m' css h=>by obtain⟨_,rfl,_⟩:=h;rfl) ?_
 rintro g fi ca m2 aN ⟨b3,hv,eY⟩
 obtain⟨rfl,rfl,rfl⟩:=Zcj hv
 have bM:=mLt aB aN
 refine⟨_,Zeh t m2 b3 eY (RepE.mono' hr bM),λy hy=>?_,λ_ css _ m' q=>css=[[.int .i64 q]]/\q<=10000/\q<=t.nodes.length,⟨rfl,by omega,by omega⟩,?_,?_⟩
 ·obtain⟨z,_,rfl⟩:=List.mem_map.1 hy;exact Zl6 z
 ·rintro n0 v0 s0 n3 a n7 c cs m3 q aW hq ⟨cN,gQ,_⟩
  obtain rfl:cs=[.int .i64 q]:=by simpa using cN
  have aP:q < t.nodes.length:=by
   have:=(List.getElem?_eq_some_iff.1 (show(List.map (λz:E=>[z.v]) t.nodes)[(q:Nat)]?=some _ from hq)).1
   simpa using this
  refine Zaq rfl (Zab rfl ?_)
  have hw:IntKind.i64.wrap (intOf (Value.int .i64 (q:Int))+1)=(q:Int)+1:=Zan (n:=(q:Int)+1) (by omega) (by omega)
  simp only[hw]
  refine Zaa (λh=>⟨by trivial,Zac (mLt bM aW) ?_⟩) (λh=>⟨by trivial,?_,?_,by omega⟩)
  ·have:((q:Int)+1 > 10000):=by simpa using h
   simp[Ret,E.light];omega
  ·simp
  ·have:¬((q:Int)+1 > 10000):=by simpa using h
   omega
 ·rintro cs m3 aW ⟨cN,gQ,_⟩
  obtain rfl:cs=[.int .i64 t.nodes.length]:=by simpa using cN
  refine Zaq rfl (Zab rfl (Zac (mLt bM aW) ?_))
  show Value.bool (decide ((t.nodes.length:Int)<=10000))=Value.bool t.light
  congr 1
  rw[E.light,decide_eq_decide];omega
theorem Zwv(t:E)(m:Mem)(hr:RepE m t):CX Tryz.prog 107 #[t.v] m [] (Ret (.int .i64 t.size)):=by
 apply Zna
 intro b m1 aB _ b2
 refine Zah (Zdg t m1 (RepE.mono' hr aB)) λm2 aN=>Zaa (λhl=>?_) (λh=>Zac (mLt aB aN) (by simp[Ret,E.size,h]))
 have qz:t.nodes.length<=10000:=of_decide_eq_true hl
 refine Zai (ZfP t m2) (λv m' css h=>by obtain⟨_,rfl,_⟩:=h;rfl) ?_
 rintro g fi ca m3 aW ⟨b3,hv,eY⟩
 obtain⟨rfl,rfl,rfl⟩:=Zcj hv
 have bM:=mLt aB (mLt aN aW)
 refine⟨_,Zeh t m3 b3 eY (RepE.mono' hr bM),λy hy=>?_,λ_ css _ m' q=>css=[[.int .i64 q]]/\q<=t.nodes.length,⟨rfl,by omega⟩,?_,?_⟩
 ·obtain⟨z,_,rfl⟩:=List.mem_map.1 hy;exact Zl6 z
 ·rintro n0 v0 s0 n3 a n7 c cs m4 q bV hq ⟨cN,_⟩
  obtain rfl:cs=[.int .i64 q]:=by simpa using cN
  have aP:q < t.nodes.length:=by
   have:=(List.getElem?_eq_some_iff.1 (show(List.map (λz:E=>[z.v]) t.nodes)[(q:Nat)]?=some _ from hq)).1
   simpa using this
  have hw:IntKind.i64.wrap (intOf (Value.int .i64 (q:Int))+1)=(q:Int)+1:=Zan (n:=(q:Int)+1) (by omega) (by omega)
  refine Zaq rfl (Zab rfl ?_)
  simp only[hw]
  exact⟨by trivial,by simp,by omega⟩
 ·rintro cs m4 bV ⟨cN,gQ⟩
  obtain rfl:cs=[.int .i64 t.nodes.length]:=by simpa using cN
  refine Zaq rfl (Zac (mLt bM bV) ?_)
  simp[Ret,E.size,hl]
theorem ZAf(T:TypeId)(x y:Nat):BinIs Tryz.prog .eql T (.float .f64 x) (.float .f64 y) (.bool (Op.floatEq .f64 x y)):=λox oy w=>by
 simp[eqGuard,binOp,Op.floatCmp,Op.floatEq]
theorem Zyz(T:TypeId)(x y:Nat):BinIs Tryz.prog .neq T (.float .f64 x) (.float .f64 y) (.bool (!Op.floatEq .f64 x y)):=λox oy w=>by
 simp[eqGuard,binOp,Op.floatCmp,Op.floatEq,bne]
theorem ZpO(x:Nat):Zog Tryz.prog 120 [.float .f64 x] (.int .u64 x):=λw=>by
 rw[run_callFunc_extern Tryz.func120 (by kernel_rfl) (by kernel_rfl) (by kernel_rfl) (e:=Go.Extern.MathFloatBits.float64bits) (by kernel_rfl)]
 rfl
theorem Zsx(n:Nat):Zog Tryz.prog 124 [.int .u64 n] (.float .f64 n):=λw=>by
 rw[run_callFunc_extern Tryz.func124 (by kernel_rfl) (by kernel_rfl) (by kernel_rfl) (e:=Go.Extern.MathFloatBits.float64frombits) (by kernel_rfl)]
 rfl
theorem ZAg(m:Mem):CX Tryz.prog 142 #[] m [] (Ret (.float .f64 Zyb)):=by
 apply Zk1
 exact⟨_,Zsx Zyb,Zac (Mem.le_refl _) rfl⟩
theorem Zsy(x:Nat)(m:Mem):CX Tryz.prog 121 #[.float .f64 x] m [] (Ret (.float .f64 (Zgt x))):=by
 apply ZhK
 refine⟨_,Zyz _ x x,Zaa (λh=>?_) (λh=>Zac (Mem.le_refl _) ?_)⟩
 ·refine Zai (ZAg m) (s:=.any) (λ_ _ _ _=>rfl) ?_
  intro v m1 aB hv
  have h':Op.floatEq .f64 x x=false:=by simpa using h
  refine Zac aB ?_
  show v=_
  rw[show v=_ from hv];unfold Zgt;rw[h'];rfl
 ·have h':Op.floatEq .f64 x x=true:=by simpa using h
  show Value.float .f64 x=_
  unfold Zgt;rw[h'];rfl
theorem ZpP(x:Nat)(m:Mem):CX Tryz.prog 177 #[.float .f64 x] m [] (Ret (.bool (Zfx x))):=by
 apply ZhL
 refine⟨Zfx x,⟨_,ZAf _ x x,Zaa (λh=>?_) (λh=>⟨_,ZpO x,Zab rfl ?_⟩)⟩,Zac (Mem.le_refl _) rfl⟩
 ·unfold Zfx;rw[h];rfl
 ·unfold Zfx;rw[h,Bool.false_or]
  exact Zaf (show decide ((x:Int)=9221120237041090561)=decide (x=Zyb) from decide_eq_decide.2 (by unfold Zyb;omega))
theorem Zsz(x y:Nat)(m:Mem):CX Tryz.prog 90 #[.float .f64 x,.float .f64 y] m [] (Ret (.bool (Zr8 x y))):=by
 apply Zi8
 refine Zai (Zsy x m) (s:=.any) (λ_ _ _ _=>rfl) ?_
 intro v m1 aB hv
 refine⟨.int .u64 (Zgt x),by rw[show v=_ from hv];exact ZpO _,?_⟩
 refine Zai (Zsy y m1) (s:=.any) (λ_ _ _ _=>rfl) ?_
 intro u m2 aN hu
 refine⟨.int .u64 (Zgt y),by rw[show u=_ from hu];exact ZpO _,Zab rfl (Zac (mLt aB aN) ?_)⟩
 show Value.bool _=_
 congr 1
 exact show decide ((Zgt x:Int)=Zgt y)=decide (Zgt x=Zgt y) from decide_eq_decide.2 (by omega)
def ZfQ(l:List ByteArray):List Value:=l.map λs=>.string s
theorem ZcP{m:Mem}{a:Option Addr}{l:List ByteArray}(h:rowRd m a (ZfQ l)){k:Nat}{s:ByteArray}(hk:l[k]?=some s):∃b o,a=some ⟨b,o,none⟩/\m b (o+k*1)=some (.string s):=by
 rcases h with h|⟨b,o,ha,h⟩
 ·have:l=[]:=by simpa[ZfQ]using h
  rw[this]at hk;simp at hk
 ·exact⟨b,o,ha,by rw[Nat.mul_one];exact h k _ (by rw[ZfQ,List.getElem?_map,hk];rfl)⟩
theorem Zt8(l:List ByteArray)(a:Option Addr)(c:Nat)(s:ByteArray)(m:Mem)(hl:l.length<=1000000000000000)(hr:rowRd m a (ZfQ l)):
  CX Tryz.prog 190 #[.slice a l.length c,.string s] m [] (Ret (.int .i64 (if l.any (λy=>eqS s y)then(l.findIdx (λy=>eqS s y):Nat)else(-1:Int)))):=by
 apply Zce
 refine⟨λxs _ _ m'' q=>∃i:Nat,i<=l.length/\xs=[.int .i64 i]/\(∀x∈l.take i,eqS s x=false)/\q=l.length - i,⟨l.length,0,by omega,rfl,by simp,by omega⟩,?_⟩
 rintro n m' q hm ⟨i,hi,hn,eX,hq⟩
 obtain rfl:n=i:=by simpa using hn
 refine Zaa (λaP=>?_) (λbX=>?_)
 ·have aV:i < l.length:=by simpa using aP
  obtain⟨x,hx⟩:∃x,l[i]?=some x:=⟨_,List.getElem?_eq_getElem aV⟩
  have bZ:x∈l:=List.mem_of_getElem? hx
  obtain⟨b1,o1,ha,eR⟩:=ZcP (hr.mono hm) hx
  refine⟨b1,o1,ha,⟨by omega,by omega⟩,_,eR,Zab rfl (Zaa (λfV=>?_) (λfV=>?_))⟩
  ·refine Zac hm ?_
   have eZ:l.any (λy=>eqS s y)=true:=List.any_eq_true.2 ⟨x,bZ,fV⟩
   have gq:l.findIdx (λy=>eqS s y)=i:=by
    rw[List.findIdx_eq aV]
    refine⟨by rw[(List.getElem?_eq_some_iff.1 hx).2];exact fV,λj hj=>?_⟩
    exact eX _ (List.mem_of_getElem? (i:=j) (by rw[List.getElem?_take_of_lt hj];exact List.getElem?_eq_getElem (by omega)))
   simp[Ret,eZ,gq]
  ·refine⟨l.length - (i+1),by omega,i+1,by omega,by rw[Zan (by omega) (by omega)];rfl,?_,rfl⟩
   intro y hy
   rw[List.take_add_one,hx]at hy
   rcases List.mem_append.1 hy with hy|hy
   ·exact eX y hy
   ·simp at hy;rw[hy];exact fV
 ·have hi':i=l.length:=by
   have:¬((i:Int) < (l.length:Int)):=by simpa using bX
   omega
  subst hi'
  refine Zac hm ?_
  have eZ:l.any (λy=>eqS s y)=false:=by
   rw[List.any_eq_false]
   rw[List.take_length]at eX
   exact λx hx=>by simp[eX x hx]
  simp[Ret,eZ]
theorem ZhS(l:List ByteArray)(a:Option Addr)(c:Nat)(s:ByteArray)(m:Mem)(hl:l.length<=1000000000000000)(hr:rowRd m a (ZfQ l)):
  CX Tryz.prog 175 #[.slice a l.length c,.string s] m [] (Ret (.bool (l.any λy=>eqS s y))):=by
 apply ZbM
 refine Zav (Zt8 l a c s m hl hr) λm' hm=>Zac hm ?_
 cases h:l.any (λy=>eqS s y) <;> simp[Ret]
theorem Zk7(l:List ByteArray)(a:Option Addr)(c:Nat)(g:Nat)(ca:List Value)(p:ByteArray->Bool)(m:Mem)(hl:l.length<=1000000000000000)(hr:rowRd m a (ZfQ l))
  (hp:∀x∈l,∀m',m.le m'->CX Tryz.prog g (.string x::ca).toArray m' [] (Ret (.bool (p x)))):
  CX Tryz.prog 200 #[.slice a l.length c,.func (.func g) #[] ca.toArray] m [] (Ret (.int .i64 (if l.any p then(l.findIdx p:Nat)else(-1:Int)))):=by
 apply ZbI a l.length c g [] ca
 refine⟨λxs _ _ m'' q=>∃i:Nat,i<=l.length/\xs=[.int .i64 i]/\(∀x∈l.take i,p x=false)/\q=l.length - i,⟨l.length,0,by omega,rfl,by simp,by omega⟩,?_⟩
 rintro n m' q hm ⟨i,hi,hn,eX,hq⟩
 obtain rfl:n=i:=by simpa using hn
 refine Zaa (λaP=>?_) (λbX=>?_)
 ·have aV:i < l.length:=by simpa using aP
  obtain⟨x,hx⟩:∃x,l[i]?=some x:=⟨_,List.getElem?_eq_getElem aV⟩
  have bZ:x∈l:=List.mem_of_getElem? hx
  obtain⟨b1,o1,ha,eR⟩:=ZcP (hr.mono hm) hx
  refine⟨b1,o1,ha,⟨by omega,by omega⟩,_,eR,Zah (hp x bZ m' hm) λm1 aB=>Zaa (λfV=>?_) (λfV=>?_)⟩
  ·refine Zac (mLt hm aB) ?_
   have eZ:l.any p=true:=List.any_eq_true.2 ⟨x,bZ,fV⟩
   have gq:l.findIdx p=i:=by
    rw[List.findIdx_eq aV]
    refine⟨by rw[(List.getElem?_eq_some_iff.1 hx).2];exact fV,λj hj=>?_⟩
    exact eX _ (List.mem_of_getElem? (i:=j) (by rw[List.getElem?_take_of_lt hj];exact List.getElem?_eq_getElem (by omega)))
   simp[Ret,eZ,gq]
  ·refine⟨l.length - (i+1),by omega,i+1,by omega,by rw[Zan (by omega) (by omega)];rfl,?_,rfl⟩
   intro y hy
   rw[List.take_add_one,hx]at hy
   rcases List.mem_append.1 hy with hy|hy
   ·exact eX y hy
   ·simp at hy;rw[hy];exact fV
 ·have hi':i=l.length:=by
   have:¬((i:Int) < (l.length:Int)):=by simpa using bX
   omega
  subst hi'
  refine Zac hm ?_
  have eZ:l.any p=false:=by
   rw[List.any_eq_false]
   rw[List.take_length]at eX
   exact λx hx=>by simp[eX x hx]
  simp[Ret,eZ]
theorem ZgH(l:List ByteArray)(a:Option Addr)(c:Nat)(g:Nat)(ca:List Value)(p:ByteArray->Bool)(m:Mem)(hl:l.length<=1000000000000000)(hr:rowRd m a (ZfQ l))
  (hp:∀x∈l,∀m',m.le m'->CX Tryz.prog g (.string x::ca).toArray m' [] (Ret (.bool (p x)))):
  CX Tryz.prog 186 #[.slice a l.length c,.func (.func g) #[] ca.toArray] m [] (Ret (.bool (l.any p))):=by
 apply Zbp a l.length c g [] ca
 refine Zav (Zk7 l a c g ca p m hl hr hp) λm' hm=>Zac hm ?_
 cases h:l.any p <;> simp[Ret]
def Zt9(l:List UInt8):List Value:=(List.range 256).map λi=>.bool (l.any λc=>c.toNat == i)
theorem Ziu(l:List UInt8):(Zt9 l).length=256:=by rw[Zt9,List.length_map,List.length_range]
theorem Zgj(l:List UInt8){i:Nat}(h:i < 256):(Zt9 l)[i]?=some (.bool (l.any λc=>c.toNat == i)):=by
 rw[Zt9,List.getElem?_map,List.getElem?_range h];rfl
theorem ZpQ(l:List UInt8):ZdN (Zt9 l)=true:=by
 have:∀L:List Nat,ZdN (L.map λi=>Value.bool (l.any λc=>c.toNat == i))=true:=λL=>by
  induction L with
  | nil=>rfl
  | cons x L ih=>rw[List.map_cons];simp only[ZdN,ih];rfl
 exact this _
theorem Zua(l:List UInt8)(c:UInt8):ZaH (Zt9 l) (0+c.toNat*1) [.bool true]=Zt9 (l++[c]):=by
 have hc:c.toNat < 256:=c.toNat_lt
 apply List.ext_getElem?
 intro i
 have hl:=Ziu l
 unfold ZaH
 rw[Nat.zero_add,Nat.mul_one,List.append_assoc]
 rcases Nat.lt_trichotomy i c.toNat with h|h|h
 ·rw[List.getElem?_append_left (by rw[List.length_take];omega),List.getElem?_take_of_lt h,Zgj l (by omega),Zgj _ (by omega),List.any_append]
  have:(c.toNat == i)=false:=by simp;omega
  simp[this]
 ·subst h
  have e:(List.take c.toNat (Zt9 l)).length=c.toNat:=by rw[List.length_take];omega
  rw[List.getElem?_append_right (by omega),e,Nat.sub_self,Zgj _ hc,List.any_append]
  simp
 ·have e:(List.take c.toNat (Zt9 l)).length=c.toNat:=by rw[List.length_take];omega
  rw[List.getElem?_append_right (by omega),e,List.getElem?_append_right (by simp;omega),List.getElem?_drop]
  rw[show c.toNat + [Value.bool true].length+(i - c.toNat - [Value.bool true].length)=i by simp;omega]
  rcases Nat.lt_or_ge i 256 with h2|h2
  ·rw[Zgj l h2,Zgj _ h2,List.any_append]
   have:(c.toNat == i)=false:=by simp;omega
   simp[this]
  ·rw[List.getElem?_eq_none (by omega),List.getElem?_eq_none (by rw[Ziu];exact h2)]
theorem ZhT{s:ByteArray}{n:Nat}{c:UInt8}(h:s.data.toList[n]?=some c):ZgU s n=(c.toNat:Int):=by
 unfold ZgU
 rw[List.getD_eq_getElem?_getD,h];rfl
theorem Zdw{α:Type}{l:List α}{n:Nat}(h:n < l.length):∃c,l[n]?=some c:=⟨_,List.getElem?_eq_getElem h⟩
theorem Zww(s:ByteArray)(hs:s.size<=1000000000000000)(h:∀c∈s.data.toList,c.toNat < 128)(m:Mem):CX Tryz.prog 193 #[.string s] m [] (Ret (.tuple #[.agg (Zt9 s.data.toList).toArray,.bool true])):=by
 apply Zde
 intro b
 have hl:=Zev s
 refine⟨λxs css _ m' q=>∃k:Nat,k<=s.size/\xs=[.int .i64 k]/\css=[Zt9 (s.data.toList.take k)]/\q=s.size - k,⟨_,0,by omega,rfl,by rw[List.take_zero];rfl,rfl⟩,?_⟩
 rintro n cs m1 q aB ⟨k,hk,hx,cN,hq⟩
 obtain rfl:n=k:=by simpa using hx
 obtain rfl:cs=Zt9 (s.data.toList.take k):=by simpa using cN
 subst hq
 refine Zaa (λaP=>?_) (λbX=>?_)
 ·have aV:k < s.size:=by have:=of_decide_eq_true aP;omega
  obtain⟨c,hc⟩:=Zdw (l:=s.data.toList) (n:=k) (by omega)
  have vH:=h c (List.mem_of_getElem? hc)
  have hw:IntKind.i64.wrap ((k:Int)+1)=((k+1:Nat):Int):=by rw[Zan (by omega) (by omega)];rfl
  simp only[hw,Int.toNat_natCast,ZhT hc]
  refine⟨⟨by omega,by omega⟩,Zaa (λh=>absurd (of_decide_eq_true h) (by omega)) (λ_=>⟨⟨by omega,by omega⟩,Zab (by rw[Nat.ble_eq,Ziu];omega) ⟨by trivial,s.size - (k+1),by omega,k+1,by omega,rfl,?_,rfl⟩⟩)⟩
  rw[Zua,List.take_add_one,hc];rfl
 ·have hk':k=s.size:=by have:=of_decide_eq_false bX;omega
  subst hk'
  rw[<-hl,List.take_length]
  exact Zab (by rw[Ziu,ZpQ];rfl) (Zac aB rfl)
def ZAW(p:UInt8->Bool)(s:ByteArray):Value->Mem->List (List Value)->Prop:=λv _ _=>∃z:ByteArray,v=.string z/\z.size<=s.size/\s.data.toList.all p=z.data.toList.all p/\(z.size=0\/z.data.toList.all p=false)
theorem ZjS(l:List UInt8)(c:UInt8)(b:Nat)(m:Mem)(hb:m.reads b 0 (Zt9 l)):CX Tryz.prog 202 #[.pointer (some ⟨b,0,none⟩),.int .u8 c.toNat] m [] (Ret (.bool (l.any λx=>x.toNat == c.toNat))):=by
 apply Zcn
 have hc:c.toNat < 256:=c.toNat_lt
 refine⟨⟨by omega,by omega⟩,_,?_,Zac (Mem.le_refl m) rfl⟩
 rw[Int.toNat_natCast,Nat.mul_one,Nat.add_comm]
 have:=hb c.toNat _ (Zgj l hc)
 rw[Nat.zero_add]at this;exact this
theorem ZyA(z:ByteArray){c:UInt8}{r:List UInt8}(h:z.data.toList=c::r):(z.extract 1 z.size).data.toList=r:=by
 rw[ByteArray.data_extract,Array.toList_extract,h]
 have:z.size=r.length+1:=by rw[<-Zev,h];rfl
 simp[this]
theorem Zwx(z:ByteArray){c:UInt8}{r:List UInt8}(h:z.data.toList=r++[c]):(z.extract 0 (z.size - 1)).data.toList=r:=by
 rw[ByteArray.data_extract,Array.toList_extract,h]
 have:z.size=r.length+1:=by rw[<-Zev,h];simp
 simp[this]
theorem Zwy(l:List UInt8)(s:ByteArray)(hs:s.size<=1000000000000000)(b:Nat)(m:Mem)(hb:m.reads b 0 (Zt9 l)):CX Tryz.prog 194 #[.string s,.pointer (some ⟨b,0,none⟩)] m [] (ZAW (λc=>l.any λx=>x.toNat == c.toNat) s):=by
 apply Zc1
 refine⟨λxs _ _ m' q=>∃z:ByteArray,xs=[.string z]/\z.size<=s.size/\s.data.toList.all (λc=>l.any λx=>x.toNat == c.toNat)=z.data.toList.all (λc=>l.any λx=>x.toNat == c.toNat)/\q=z.size,⟨_,s,rfl,Nat.le_refl _,rfl,rfl⟩,?_⟩
 rintro z m1 q aB ⟨z',hx,bU,cF,hq⟩
 obtain rfl:z=z':=by simpa using hx
 subst hq
 have hl:=Zev z
 refine Zaa (λaP=>?_) (λbX=>?_)
 ·have h0:0 < z.size:=by have:=of_decide_eq_true aP;omega
  cases hz:z.data.toList with
  | nil=>rw[hz]at hl;simp at hl;omega
  | cons c r=>
   have he:=ZyA z hz
   have hr:(z.extract 1 z.size).size=z.size - 1:=by rw[<-Zev,he,<-hl,hz];simp
   have hc:ZgU z (Int.toNat 0)=(c.toNat:Int):=ZhT (by rw[hz];rfl)
   rw[hc]
   refine⟨⟨by omega,by omega⟩,Zah (ZjS l c b m1 (hb.mono aB)) λm2 aN=>Zaa (λh=>?_) (λh=>?_)⟩
   ·refine Zac (mLt aB aN) ⟨z,rfl,bU,cF,.inr ?_⟩
    have h':(l.any λx=>x.toNat == c.toNat)=false:=by simpa using h
    rw[hz,List.all_cons,h'];rfl
   ·have h':(l.any λx=>x.toNat == c.toNat)=true:=by simpa using h
    refine⟨⟨by omega,by omega⟩,z.size - 1,by omega,_,rfl,?_,?_,?_⟩
    ·show(z.extract 1 z.size).size<=_
     omega
    ·rw[cF,hz,List.all_cons,h',Bool.true_and]
     show _=(z.extract 1 z.size).data.toList.all _
     rw[he]
    ·show _=(z.extract 1 z.size).size
     omega
 ·have h0:z.size=0:=by have:=of_decide_eq_false bX;omega
  exact Zac aB ⟨z,rfl,bU,cF,.inl h0⟩
theorem Zwz(l:List UInt8)(s:ByteArray)(hs:s.size<=1000000000000000)(b:Nat)(m:Mem)(hb:m.reads b 0 (Zt9 l)):CX Tryz.prog 195 #[.string s,.pointer (some ⟨b,0,none⟩)] m [] (ZAW (λc=>l.any λx=>x.toNat == c.toNat) s):=by
 apply ZcM
 refine⟨λxs _ _ m' q=>∃z:ByteArray,xs=[.string z]/\z.size<=s.size/\s.data.toList.all (λc=>l.any λx=>x.toNat == c.toNat)=z.data.toList.all (λc=>l.any λx=>x.toNat == c.toNat)/\q=z.size,⟨_,s,rfl,Nat.le_refl _,rfl,rfl⟩,?_⟩
 rintro z m1 q aB ⟨z',hx,bU,cF,hq⟩
 obtain rfl:z=z':=by simpa using hx
 subst hq
 have hl:=Zev z
 refine Zaa (λaP=>?_) (λbX=>?_)
 ·have h0:0 < z.size:=by have:=of_decide_eq_true aP;omega
  have hw:IntKind.i64.wrap ((z.size:Int) - 1)=((z.size - 1:Nat):Int):=by rw[Zan (by omega) (by omega)];omega
  obtain⟨r,c,hz⟩:∃r c,z.data.toList=r++[c]:=by
   rcases List.eq_nil_or_concat z.data.toList with h|⟨r,c,h⟩
   ·rw[h]at hl;simp at hl;omega
   ·exact⟨r,c,by simpa using h⟩
  have he:=Zwx z hz
  have hr:(z.extract 0 (z.size - 1)).size=z.size - 1:=by rw[<-Zev,he,<-hl,hz];simp
  have hc:ZgU z (z.size - 1)=(c.toNat:Int):=ZhT (by rw[hz,List.getElem?_append_right (by rw[<-hl,hz];simp),<-hl,hz];simp)
  simp only[hw,Int.toNat_natCast,hc]
  refine⟨⟨by omega,by omega⟩,Zah (ZjS l c b m1 (hb.mono aB)) λm2 aN=>Zaa (λh=>?_) (λh=>?_)⟩
  ·refine Zac (mLt aB aN) ⟨z,rfl,bU,cF,.inr ?_⟩
   have h':(l.any λx=>x.toNat == c.toNat)=false:=by simpa using h
   rw[hz,List.all_append,List.all_cons,h'];simp
  ·have h':(l.any λx=>x.toNat == c.toNat)=true:=by simpa using h
   refine⟨⟨by omega,by omega⟩,z.size - 1,by omega,_,rfl,by omega,?_,by omega⟩
   rw[cF,hz,List.all_append,List.all_cons,h',he];simp
 ·have h0:z.size=0:=by have:=of_decide_eq_false bX;omega
  exact Zac aB ⟨z,rfl,bU,cF,.inl h0⟩
def ZcN:ByteArray:=⟨#[97,98,99,100,101,102,103,104,105,106,107,108,109,110,111,112,113,114,115,116,117,118,119,120,121,122,48,49,50,51,52,53,54,55,56,57,95]⟩
theorem Zub(c:UInt8):(ZcN.data.toList.any λx=>x.toNat == c.toNat)=Zxw c:=by
 have:∀n:Nat,n < 256->(ZcN.data.toList.any λx=>x.toNat == n)=((decide (97<=n)&&decide (n<=122))||(decide (48<=n)&&decide (n<=57))||n == 95):=by decide +kernel
 exact this c.toNat c.toNat_lt
def ZBt(s:ByteArray):Value->Mem->List (List Value)->Prop:=λv _ _=>∃z:ByteArray,v=.string z/\(z.size == 0)=s.data.toList.all Zxw
theorem ZyB(s:ByteArray)(hs:s.size<=1000000000000000)(m:Mem):CX Tryz.prog 176 #[.string s,.string ZcN] m [] (ZBt s):=by
 apply ZhM
 have e0:(ZcN.toList == ByteArray.toList ⟨#[]⟩)=false:=by rw[Zck];rfl
 refine⟨s.size == 0,Zaa (λh=>by rw[Zck]at h;rw[h]) (λh=>by rw[Zck]at h;rw[h,e0]),?_⟩
 refine Zaa (λh=>?_) (λh=>?_)
 ·refine Zac (Mem.le_refl m) ⟨s,rfl,?_⟩
  rw[h]
  have:s.data.toList=[]:=List.eq_nil_of_length_eq_zero (by rw[Zev];simpa using h)
  rw[this];rfl
 refine⟨false,ZcI (by decide) rfl,ZcI rfl ?_⟩
 refine Zai (Zww ZcN (by decide) (by decide) m) (λv _ _ e=>by rw[show v=_ from e];rfl) ?_
 intro cs b m1 aB hv
 have hv:Value.tuple (Array.mk [Value.agg (Array.mk cs),Value.bool b])=Value.tuple #[.agg (Zt9 ZcN.data.toList).toArray,.bool true]:=hv
 simp only[Value.tuple.injEq,Value.agg.injEq,Array.mk.injEq,List.cons.injEq,Value.bool.injEq,and_true]at hv
 obtain⟨rfl,rfl⟩:=hv
 intro b1
 refine Zab (by rw[Ziu,ZpQ];rfl) (ZgR rfl λm2 aN cG=>?_)
 refine Zai (Zwz ZcN.data.toList s hs b1 m2 cG) (λv _ _ ⟨_,e,_⟩=>by rw[e];rfl) ?_
 rintro z m3 aW ⟨z1,hz,pg,qA,xb⟩
 obtain rfl:z=z1:=by simpa using hz
 refine Zai (Zwy ZcN.data.toList z (by omega) b1 m3 (cG.mono aW)) (λv _ _ ⟨_,e,_⟩=>by rw[e];rfl) ?_
 rintro y m4 bV ⟨y1,hy,xc,t5,t6⟩
 obtain rfl:y=y1:=by simpa using hy
 refine Zac (mLt aB (mLt aN (mLt aW bV))) ⟨y,rfl,?_⟩
 have hp:(λc:UInt8=>ZcN.data.toList.any λx=>x.toNat == c.toNat)=Zxw:=funext Zub
 rw[hp]at qA t5 t6
 rw[qA,t5]
 rcases t6 with h0|h0
 ·have:y.data.toList=[]:=List.eq_nil_of_length_eq_zero (by rw[Zev];exact h0)
  rw[this,h0];rfl
 ·rw[h0]
  have:¬y.size=0:=λe=>by
   have:y.data.toList=[]:=List.eq_nil_of_length_eq_zero (by rw[Zev];exact e)
   rw[this]at h0;simp at h0
  simpa using this
theorem ZhU(s:ByteArray)(hs:s.size<=1000000000000000)(m:Mem):CX Tryz.prog 146 #[.string s] m [] (Ret (.bool (ZcG s))):=by
 apply Zja
 refine Zaa (λh=>Zac (Mem.le_refl m) ?_) (λh=>?_)
 ·rw[Zck]at h;simp[Ret,ZcG,h]
 rw[Zck]at h
 have vI:¬s.size=0:=by simpa using h
 have iG:0 < s.size:=by omega
 obtain⟨c,hc⟩:=Zdw (l:=s.data.toList) (n:=0) (by rw[Zev];exact iG)
 have hD:s.data.toList.getD 0 0=c:=by rw[List.getD_eq_getElem?_getD,hc];rfl
 rw[show Int.toNat 0=0 from rfl,ZhT hc]
 refine Zaa (λh1=>Zac (Mem.le_refl m) ?_) (λh1=>⟨⟨by omega,by omega⟩,Zaa (λh2=>Zac (Mem.le_refl m) ?_) (λh2=>⟨⟨by omega,by omega⟩,Zaa (λh3=>Zac (Mem.le_refl m) ?_) (λh3 b hf=>?_)⟩)⟩)
 ·have:s.size > 16:=by have:=of_decide_eq_true h1;omega
  show Value.bool false=_
  unfold ZcG;rw[h,decide_eq_true this];rfl
 ·have:c.toNat < 97:=by have:=of_decide_eq_true h2;omega
  show Value.bool false=_
  unfold ZcG;rw[hD,decide_eq_true this];simp
 ·have:c.toNat > 122:=by have:=of_decide_eq_true h3;omega
  show Value.bool false=_
  unfold ZcG;rw[hD,decide_eq_true this];simp
 have g1:¬s.size > 16:=by have:=of_decide_eq_false h1;omega
 have g2:¬c.toNat < 97:=by have:=of_decide_eq_false h2;omega
 have g3:¬c.toNat > 122:=by have:=of_decide_eq_false h3;omega
 have hN:ZcG s=(!(ZmQ.any λw=>eqS w s)&&s.data.toList.all Zxw):=by
  unfold ZcG;rw[h,decide_eq_false g1,hD,decide_eq_false g2,decide_eq_false g3];rfl
 have hE:(ZmQ.any λy=>eqS s y)=ZmQ.any λw=>eqS w s:=by
  congr 1;funext w;unfold eqS;exact Bool.beq_comm
 have bM:=Mem.le_add hf (ZfQ ZmQ)
 refine Zah (ZhS ZmQ (some ⟨b,0,none⟩) 3 s (m.add b (ZfQ ZmQ)) (by decide) (.inr ⟨b,0,rfl,λj v hj=>by rw[Nat.zero_add,Mem.add_same];exact hj⟩)) λm1 aB=>Zaa (λh4=>Zac (mLt bM aB) ?_) (λh4=>?_)
 ·rw[hE]at h4
  show Value.bool false=_
  rw[hN,h4];rfl
 rw[hE]at h4
 refine Zai (ZyB s hs m1) (λv _ _ ⟨_,e,_⟩=>by rw[e];rfl) ?_
 rintro z m2 aN ⟨z',hz,qA⟩
 obtain rfl:z=z':=by simpa using hz
 refine Zac (mLt bM (mLt aB aN)) ?_
 show Value.bool _=_
 rw[Zck,hN,h4,qA];rfl
theorem ZyC(k:Int)(m:Mem):CX Tryz.prog 97 #[.int .u8 k] m [] (Ret (.int .i64 (Zmb k))):=by
 apply Znc
 refine Zaa (λh=>Zac (Mem.le_refl m) ?_) (λh=>⟨decide (k ≥ 2)&&decide (k<=7),Zaa (λh2=>by rw[h2];rfl) (λh2=>by rw[h2];rfl),Zaa (λh2=>Zac (Mem.le_refl m) ?_) (λh2=>Zac (Mem.le_refl m) ?_)⟩)
 all_goals
  show Value.int _ _=Value.int _ _
  congr 1
  unfold Zmb
 ·have:k=1:=by simpa using h
  rw[if_pos this]
 ·have h1:¬k=1:=by simpa using h
  simp only[Bool.and_eq_true,decide_eq_true_eq]at h2
  rw[if_neg h1,if_pos (by omega)]
 ·have h1:¬k=1:=by simpa using h
  simp only[Bool.and_eq_false_iff,decide_eq_false_iff_not]at h2
  rw[if_neg h1,if_neg (by omega)]
theorem Zuc(t:E)(m:Mem)(hr:RepE m t):CX Tryz.prog 184 #[t.v] m [] (Ret (.bool t.right)):=by
 have cC:=Zr7 hr
 have na:=ZeP hr
 apply Zk4
 intro b m1 aB _
 have tail:∀(M0:Mem)(name number capture neg:Bool),t.right=(decide (t.k<=10)&&(name&&(number&&(capture&&((t.subs.length:Int) == Zmb t.k&&!neg)))))->m.le M0->
   ∃f:Fx,br (decide (t.k<=10)) (br name (br number (br capture (∃R_3:RT,R_3=f 18 [.int .u8 t.k] M0/\CX Tryz.prog 97 #[.int .u8 t.k] M0 [] R_3/\Za1 (.int .i64) R_3/\∀(n:Int)(m':Mem),M0.le m'->R_3 (.int .i64 n) m' []->br ((t.subs.length:Int) == n) (∀M:Mem,M0.le M->m'.le M->∃m'':Mem,m.le m''/\m''.le M/\Ret (.bool t.right) (.bool !neg) m'' []) (∀M:Mem,M0.le M->m'.le M->∃m'':Mem,m.le m''/\m''.le M/\Ret (.bool t.right) (.bool false) m'' []))
    (∀M:Mem,M0.le M->M0.le M->∃m'':Mem,m.le m''/\m''.le M/\Ret (.bool t.right) (.bool false) m'' [])) (∀M:Mem,M0.le M->M0.le M->∃m'':Mem,m.le m''/\m''.le M/\Ret (.bool t.right) (.bool false) m'' [])) (∀M:Mem,M0.le M->M0.le M->∃m'':Mem,m.le m''/\m''.le M/\Ret (.bool t.right) (.bool false) m'' []))
    (∀M:Mem,M0.le M->M0.le M->∃m'':Mem,m.le m''/\m''.le M/\Ret (.bool t.right) (.bool false) m'' []):=λM0 name number capture neg he vJ=>by
  have fin:∀{x:Bool} {M:Mem},t.right=x->M0.le M->∃m'':Mem,m.le m''/\m''.le M/\Ret (.bool t.right) (.bool x) m'' []:=λ{x M} h hM=>Zac (mLt vJ hM) (by show Value.bool x=Value.bool t.right;rw[h])
  refine⟨λ_ _ _=>Ret (.int .i64 (Zmb t.k)),Zaa (λh1=>Zaa (λh2=>Zaa (λh3=>Zaa (λh4=>⟨_,rfl,ZyC t.k M0,λv _ _ e=>by rw[show v=_ from e];rfl,λn m' hm' hn=>?_⟩) (λh4 M hM _=>fin ?_ hM)) (λh3 M hM _=>fin ?_ hM)) (λh2 M hM _=>fin ?_ hM)) (λh1 M hM _=>fin ?_ hM)⟩
  ·obtain rfl:n=Zmb t.k:=by cases hn;rfl
   refine Zaa (λh5 M hM _=>fin ?_ hM) (λh5 M hM _=>fin ?_ hM)
   ·rw[he,h1,h2,h3,h4,h5];rfl
   ·rw[he,h5];simp
  ·simp[he,h4]
  ·simp[he,h3]
  ·simp[he,h2]
  ·rw[he,h1];simp
 refine⟨λ_ _ _=>Ret (.bool (Zr8 t.x 0)),_,rfl,Zsz t.x 0 m1,λv _ _ e=>by rw[show v=_ from e];rfl,λb1 m2 aN cM M jL gR=>?_⟩
 obtain rfl:b1=Zr8 t.x 0:=by cases cM;rfl
 have hM:=mLt aB jL
 refine Zaa (λh8=>?_) (λh8=>Zaa (λh9=>?_) (λh9=>Zaa (λgP=>?_) (λgP=>Zaa (λh0=>?_) (λh0=>?_))))
 ·have hk:t.k=8:=by simpa using h8
  refine Zah (ZpP t.x M) λm3 aW=>⟨false,ZcI (by rw[hk];rfl) ⟨by trivial,rfl⟩,tail m3 _ _ _ _ ?_ (mLt hM aW)⟩
  unfold E.right;rw[Zck];simp[hk]
 ·have hk:t.k=9:=by simpa using h9
  refine Zah (ZhU t.s cC.s M) λm3 aW=>⟨false,ZcI (by rw[hk];rfl) ⟨by trivial,rfl⟩,tail m3 _ _ _ _ ?_ (mLt hM aW)⟩
  unfold E.right;simp[hk]
 ·have hk:t.k=10:=by simpa using gP
  refine⟨decide (t.g ≥ 0)&&decide (t.g<=9),Zaa (λh=>⟨by trivial,by rw[h];rfl⟩) (λh=>⟨by trivial,by rw[h];rfl⟩),false,ZcI (by rw[hk];rfl) ⟨by trivial,rfl⟩,tail M _ _ _ _ ?_ hM⟩
  unfold E.right;rw[Zck];simp[hk]
 ·refine Zac hM ?_
  show Value.bool false=Value.bool t.right
  unfold E.right;rw[h0];rfl
 ·have e8:¬t.k=8:=by simpa using h8
  have e9:¬t.k=9:=by simpa using h9
  have e10:¬t.k=10:=by simpa using gP
  refine⟨t.k == 1&&(t.subs.length == 1&&Zq9 t.subs),?_,tail M _ _ _ _ ?_ hM⟩
  ·refine Zaa (λh1=>Zaa (λh2=>?_) (λh2=>⟨by trivial,?_⟩)) (λh1=>⟨by trivial,by rw[h1];rfl⟩)
   ·have aX:t.subs.length=1:=by
     have:=of_decide_eq_true (show decide ((t.subs.length:Int)=1)=true from h2)
     omega
    cases hs:t.subs with
    | nil=>rw[hs]at aX;simp at aX
    | cons u r=>
     rcases na.2 with h|⟨bb,o,ha,fR⟩
     ·rw[h]at aX;simp at aX
     ·rw[hs]at fR
      have h3:=((fR.mono' hM).get (i:=0) (t:=u) rfl).1 0 _ rfl
      rw[Nat.zero_mul]at h3
      refine⟨bb,o,ha,⟨by omega,by simp⟩,_,h3,Zab rfl ⟨by trivial,?_⟩⟩
      rw[h1]
      have:(u::r).length=1:=by rw[<-hs];exact aX
      rw[this];rfl
   ·have:(t.subs.length == 1)=false:=by
     have h:=of_decide_eq_false (show decide ((t.subs.length:Int)=1)=false from h2)
     exact decide_eq_false (by omega)
    rw[this];simp
  ·unfold E.right;rw[Zck,h0];simp[e8,e9,e10]
theorem ZpR(t:E)(m:Mem)(hr:RepE m t):CX Tryz.prog 163 #[t.v] m [] (Ret (.bool t.clean)):=by
 apply Zk5
 intro b m1 aB _ b2
 refine Zah (Zdg t m1 (RepE.mono' hr aB)) λm2 aN=>Zaa (λh=>Zac (mLt aB aN) ?_) (λh=>?_)
 ·have:t.light=false:=by simpa using h
  simp[Ret,E.clean,this]
 have hl:t.light=true:=by simpa using h
 refine Zai (ZfP t m2) (λv m' css h=>by obtain⟨_,rfl,_⟩:=h;rfl) ?_
 rintro g fi ca m3 aW ⟨b3,hv,eY⟩
 obtain⟨rfl,rfl,rfl⟩:=Zcj hv
 have bM:=mLt aB (mLt aN aW)
 refine⟨_,Zeh t m3 b3 eY (RepE.mono' hr bM),λy hy=>?_,λ_ css _ m' q=>m3.le m'/\∀x∈t.nodes.take q,x.right=true,⟨Mem.le_refl _,by simp⟩,?_,?_⟩
 ·obtain⟨z,_,rfl⟩:=List.mem_map.1 hy;exact Zl6 z
 ·rintro n0 v0 s0 n3 a n7 c cs m4 q bV hq ⟨_,gQ⟩ b4
  have hq':(List.map (λz:E=>[z.v]) t.nodes)[(q:Nat)]?=some [Value.agg #[.int .u8 n0,v0,.string s0,.int .i64 n3,.slice a n7 c]]:=hq
  rw[List.getElem?_map]at hq'
  obtain⟨z,hz,i9⟩:=Option.map_eq_some_iff.1 hq'
  have kz:z.v=Value.agg #[.int .u8 n0,v0,.string s0,.int .i64 n3,.slice a n7 c]:=by simpa using i9
  have sf:RepE m4 z:=RepE.mono' (Zl8 (RepE.mono' hr bM) (List.mem_of_getElem? hz)) bV
  have gw:=Zuc z m4 sf
  rw[kz]at gw
  have mO:v0=.float .f64 z.x:=by
   simp only[E.v,Value.agg.injEq,Array.mk.injEq,List.cons.injEq]at kz
   exact kz.2.1.symm
  refine Zab (by rw[mO];rfl) ?_
  refine Zah gw λm5 dD=>Zaa (λh=>⟨by trivial,Zac (mLt bM (mLt bV dD)) ?_⟩) (λh=>⟨by trivial,mLt bV dD,λx hx=>?_⟩)
  ·have oD:z.right=false:=by simpa using h
   have:t.nodes.all E.right=false:=by
    rw[List.all_eq_false];exact⟨z,List.mem_of_getElem? hz,by simp[oD]⟩
   simp[Ret,E.clean,this]
  ·rw[List.take_add_one,hz]at hx
   rcases List.mem_append.1 hx with hx|hx
   ·exact gQ x hx
   ·simp at hx;rw[hx];simpa using h
 ·rintro cs m4 bV ⟨_,gQ⟩
  refine Zac (mLt bM bV) ?_
  rw[List.length_map,List.take_length]at gQ
  have:t.nodes.all E.right=true:=List.all_eq_true.2 gQ
  simp[Ret,E.clean,this,hl]
theorem Zk8(l l':List E)(a a':Option Addr)(c c':Nat)(m:Mem)(hl:l.length<=1000000000000000)(hr:l=[]\/∃b o,a=some ⟨b,o,none⟩/\RepEAt m b o l)(hr':l'=[]\/∃b o,a'=some ⟨b,o,none⟩/\RepEAt m b o l')
  (hp:∀x∈l,∀y∈l',∀m',m.le m'->RepE m' x->RepE m' y->CX Tryz.prog 135 #[x.v,y.v] m' [] (Ret (.bool (x.same y)))):
  CX Tryz.prog 143 #[.slice a l.length c,.slice a' l'.length c',.func (.func 135) #[] #[]] m [] (Ret (.bool (ZcK l l'))):=by
 apply ZaB a l.length c a' l'.length c' _ [] []
 refine Zaa (λh=>Zac (Mem.le_refl _) ?_) (λh=>?_)
 ·have:¬l.length=l'.length:=by
   intro e;rw[e]at h;simp at h
  show Value.bool false=_
  rw[Zl9 this]
 have ip:l.length=l'.length:=by
  have h2:((l.length:Int) == (l'.length:Int))=true:=by simpa using h
  have:=of_decide_eq_true h2;omega
 refine⟨λxs _ _ m'' q=>∃i:Nat,i<=l.length/\xs=[.int .i64 i]/\ZcK (l.take i) (l'.take i)=true/\m.le m''/\q=l.length - i,⟨l.length,0,by omega,rfl,by simp[ZcK],Mem.le_refl _,by omega⟩,?_⟩
 rintro n m' q hm ⟨i,hi,hn,dX,bM,hq⟩
 obtain rfl:n=i:=by simpa using hn
 refine Zaa (λaP=>?_) (λbX=>?_)
 ·have aV:i < l.length:=by simpa using aP
  obtain⟨x,hx⟩:∃x,l[i]?=some x:=⟨_,List.getElem?_eq_getElem aV⟩
  obtain⟨y,hy⟩:∃y,l'[i]?=some y:=⟨_,List.getElem?_eq_getElem (by omega)⟩
  have lH:x∈l:=List.mem_of_getElem? hx
  have si:y∈l':=List.mem_of_getElem? hy
  rcases hr with h0|⟨b1,o1,ha,fR⟩
  ·rw[h0]at aV;simp at aV
  rcases hr' with h0|⟨b2,o2,ha',mZ⟩
  ·rw[h0]at ip;simp at ip;rw[ip]at aV;simp at aV
  obtain⟨dM,eH⟩:=(fR.mono' hm).get hx
  obtain⟨ik,kC⟩:=(mZ.mono' hm).get hy
  refine⟨b1,o1,ha,⟨by omega,by omega⟩,_,_,_,_,_,dM,λb3=>Zab rfl ⟨b2,o2,ha',⟨by omega,by omega⟩,_,_,_,_,_,ik,λb4=>Zab rfl ?_⟩⟩
  refine Zah (hp x lH y si m' hm eH kC) λm1 aB=>Zaa (λfV=>?_) (λfV=>?_)
  ·have hf:x.same y=false:=by simpa using fV
   refine Zac (mLt hm aB) ?_
   show Value.bool false=_
   rw[Zo2 hx hy hf]
  ·have hf:x.same y=true:=by simpa using fV
   refine⟨l.length - (i+1),by omega,i+1,by omega,by rw[Zan (by omega) (by omega)];rfl,ZjN hx hy dX hf,mLt hm aB,rfl⟩
 ·have hi':i=l.length:=by
   have:¬((i:Int) < (l.length:Int)):=by simpa using bX
   omega
  subst hi'
  refine Zac hm ?_
  rw[List.take_length,ip,List.take_length]at dX
  show Value.bool true=_
  rw[dX]
theorem ZsA(t u:E)(m:Mem)(hr:RepE m t)(hu:RepE m u):CX Tryz.prog 135 #[t.v,u.v] m [] (Ret (.bool (t.same u))):=by
 apply Znf
 intro b m1 aB _ b' m2 aN _
 have hm:=mLt aB aN
 refine⟨t.same u,?_,Zac hm rfl⟩
 rw[Zr9]
 refine Zaa (λh1=>?_) (λh1=>⟨by trivial,Zaf (by rw[h1];rfl)⟩)
 refine Zah (Zsz t.x u.x m2) λm3 aW=>Zaa (λh2=>Zaa (λh3=>Zaa (λh4=>?_) (λh4=>⟨by trivial,Zaf (by rw[h1,h2,h3,h4];rfl)⟩)) (λh3=>⟨by trivial,Zaf (by rw[h1,h2,h3];rfl)⟩)) (λh2=>⟨by trivial,Zaf (by rw[h1,h2];rfl)⟩)
 have hM:=mLt hm aW
 have hr':=ZeP (RepE.mono' hr hM)
 have hu':=ZeP (RepE.mono' hu hM)
 refine Zah (Zk8 t.subs u.subs t.a u.a t.c u.c m3 hr'.1 hr'.2 hu'.2 λx hx y hy m' _ dM ik=>?_) λm4 bV=>⟨by trivial,Zaf (by rw[h1,h2,h3,h4];rfl)⟩
 have bU:=Zl5 hx
 exact ZsA x y m' dM ik
termination_by SizeOf.sizeOf t
decreasing_by exact bU
theorem Zk9(t u:E)(m:Mem)(hr:RepE m t)(hu:RepE m u):CX Tryz.prog 115 #[t.v,u.v] m [] (Ret (.bool (t.light&&(u.light&&t.same u)))):=by
 apply Zng
 intro b m1 aB _ b' m2 aN _
 have hm:=mLt aB aN
 refine⟨t.light&&(u.light&&t.same u),?_,Zac hm rfl⟩
 refine Zah (Zdg t m2 (RepE.mono' hr hm)) λm3 aW=>Zaa (λh1=>?_) (λh1=>⟨by trivial,Zaf (by rw[h1];rfl)⟩)
 refine Zah (Zdg u m3 (RepE.mono' hu (mLt hm aW))) λm4 bV=>Zaa (λh2=>?_) (λh2=>⟨by trivial,Zaf (by rw[h1,h2];rfl)⟩)
 have dD:=mLt (mLt hm aW) bV
 exact Zah (ZsA t u m4 (RepE.mono' hr dD) (RepE.mono' hu dD)) λm6 gM=>⟨by trivial,Zaf (by rw[h1,h2];rfl)⟩
def ZpS(l:List E):Int:=l.foldl (λn x=>if x.k=10 then(if x.g > n then x.g else n)else n) (-1)
theorem ZsB(t:E)(m:Mem)(hr:RepE m t):CX Tryz.prog 169 #[t.v] m [] (Ret (.int .i64 t.most)):=by
 apply Zni
 intro b m1 aB _ b2
 refine Zah (Zdg t m1 (RepE.mono' hr aB)) λm2 aN=>Zaa (λhl=>?_) (λh=>Zac (mLt aB aN) (by simp[Ret,E.most,h]))
 refine Zai (ZfP t m2) (λv m' css h=>by obtain⟨_,rfl,_⟩:=h;rfl) ?_
 rintro g fi ca m3 aW ⟨b3,hv,eY⟩
 obtain⟨rfl,rfl,rfl⟩:=Zcj hv
 have bM:=mLt aB (mLt aN aW)
 refine⟨_,Zeh t m3 b3 eY (RepE.mono' hr bM),λy hy=>?_,λ_ css _ m' q=>css=[[.int .i64 (ZpS (t.nodes.take q))]],rfl,?_,?_⟩
 ·obtain⟨z,_,rfl⟩:=List.mem_map.1 hy;exact Zl6 z
 ·rintro n0 v0 s0 n3 a n7 c cs m4 q bV hq cN b4
  obtain rfl:cs=[.int .i64 (ZpS (t.nodes.take q))]:=by simpa using cN
  have hq':(List.map (λz:E=>[z.v]) t.nodes)[(q:Nat)]?=some [Value.agg #[.int .u8 n0,v0,.string s0,.int .i64 n3,.slice a n7 c]]:=hq
  rw[List.getElem?_map]at hq'
  obtain⟨z,hz,i9⟩:=Option.map_eq_some_iff.1 hq'
  simp only[E.v,List.cons.injEq,Value.agg.injEq,Array.mk.injEq,Value.int.injEq,Value.string.injEq,Value.slice.injEq,true_and,and_true]at i9
  obtain⟨rfl,rfl,rfl,rfl,rfl,rfl,rfl⟩:=i9
  have hs:ZpS (t.nodes.take (q+1))=if z.k=10 then(if z.g > ZpS (t.nodes.take q)then z.g else ZpS (t.nodes.take q))else ZpS (t.nodes.take q):=by
   rw[List.take_add_one,hz]
   unfold ZpS
   rw[List.foldl_append];rfl
  refine Zab rfl (Zaa (λh=>Zaq rfl (Zab rfl ⟨by trivial,?_⟩)) (λh=>⟨by trivial,?_⟩))
  ·have hk:z.k=10:=by simpa using h
   show[[_]]=[[Value.int .i64 (ZpS (t.nodes.take (q+1)))]]
   rw[hs,if_pos hk];rfl
  ·have hk:¬z.k=10:=by simpa using h
   show[[_]]=[[Value.int .i64 (ZpS (t.nodes.take (q+1)))]]
   rw[hs,if_neg hk]
 ·rintro cs m4 bV cN
  obtain rfl:cs=[.int .i64 (ZpS (t.nodes.take t.nodes.length))]:=by simpa using cN
  refine Zaq rfl (Zac (mLt bM bV) ?_)
  rw[List.take_length]
  show Value.int _ _=Value.int _ t.most
  unfold E.most;rw[hl];rfl
end Go.Proofs.YtojlhhphofhaoaaGreatDoor