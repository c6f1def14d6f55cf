/- Part of the proof: functions of the program. No condition. -/
import Derived.Test.YtojlhhphofhaoaaGreatDoorPVA
import Derived.Test.YtojlhhphofhaoaaGreatDoorMr
import Derived.Test.YtojlhhphofhaoaaGreatDoorPEnv
import Derived.Test.YtojlhhphofhaoaaGreatDoorMc
import Derived.Laws.StructEq
import Derived.Laws.Tables
import Derived.Laws.Cover2
import Derived.Laws.Externs
set_option linter.unusedVariables false
set_option linter.unusedSimpArgs false
set_option linter.unusedSectionVars false
namespace Go.Proofs.YtojlhhphofhaoaaGreatDoor
open Go Go.Eng Go.Rx Go.Proofs Go.RowKit
set_option maxRecDepth 100000
theorem Zh9(t:T)(m:Mem):CX Tryz.prog 94 #[t.v] m [] (λv m' _=>∃b,v=.func (.func 122) #[] #[.pointer (some ⟨b,0,none⟩)]/\m'.reads b 0 t.cs):=by
 apply Zo6
 intro b m' hm hb
 exact⟨m',hm,Mem.le_refl _,b,rfl,hb⟩
theorem Zfy(t:T)(m:Mem)(c0b:Nat)(cC:m.reads c0b 0 t.cs)(eM:Rep m t):IX Tryz.prog 122 [] [.pointer (some ⟨c0b,0,none⟩)] m (t.nodes.map λx=>[x.v]):=by
 apply ZkK 0 [] [] c0b 0
 intro l b m' hm hb
 have kC:=cC.mono hm
 refine⟨_,_,_,_,_,_,_,_,kC,⟨rfl,by omega,?_⟩,?_,.inr rfl⟩
 ·rw[Zcy];rfl
 refine⟨t.sl,kC 7 _ rfl,Zaa rfl ?_⟩
 refine⟨λxs _ _ m'' q=>∃i:Nat,i<=t.subs.length/\xs=[.int .i64 ((1+(Zaz (t.subs.take i)).length:Nat):Int),.int .i64 i]/\m'.le m''/\q=t.subs.length - i,⟨t.subs.length,0,by omega,?_,Mem.le_refl _,by omega⟩,?_⟩
 ·simp[Zaz]
 rintro y n m2 q aN ⟨i,hi,cZ,iO,hq⟩
 simp only[List.cons.injEq,Value.int.injEq,true_and,and_true]at cZ
 obtain⟨rfl,rfl⟩:=cZ
 have aZ:slN t.sl=t.subs.length:=rfl
 rw[aZ]
 refine Zab (λaO=>?_) (λbM=>?_)
 ·have aW:i < t.subs.length:=by simpa using aO
  obtain⟨x,hx⟩:∃x,t.subs[i]?=some x:=⟨_,zA3 aW⟩
  have bP:x∈t.subs:=zA2 hx
  have bH:=Zqv bP
  obtain⟨oX,h0|⟨b1,o1,ha,fK⟩⟩:=Zjq eM
  ·rw[h0]at aW;simp at aW
  obtain⟨cS,dW⟩:=(fK.mono ((mLt hm iO))).get hx
  refine Zaa rfl ⟨b1,o1,ha,⟨by omega,by omega⟩,_,_,_,_,_,_,_,_,cS,λb2=>Zaa rfl ?_⟩
  refine⟨_,trivial,Zh9 x m2,λv m' css h=>?_,?_⟩
  ·obtain⟨b3,rfl,_⟩:=h;rfl
  rintro g fi ca m3 aX ⟨b3,hv,eQ⟩
  obtain⟨rfl,rfl,rfl⟩:=Zcx hv
  refine⟨_,Zfy x m3 b3 eQ (dW.mono aX),λy hy=>?_,?_⟩
  ·obtain⟨z,_,rfl⟩:=List.mem_map.1 hy;exact Zqw z
  refine⟨λxs _ _ m'' q=>q<=x.nodes.length/\xs=[.int .i64 ((1+(Zaz (t.subs.take i)).length+q:Nat):Int)]/\m3.le m'',⟨Nat.zero_le _,rfl,Mem.le_refl _⟩,?_,?_⟩
  ·rintro y n0 n1 n2 n3 n4 n5 n6 a n7 c m4 q bI hq ⟨gJ,hy,_⟩ b4
   simp only[List.cons.injEq,Value.int.injEq,true_and,and_true]at hy
   subst hy
   have hq':(List.map (λz:T=>[z.v]) x.nodes)[(q:Nat)]?=some [Value.agg #[.int .u8 n0,.int .u64 n1,.int .u64 n2,.int .u64 n3,.int .u64 n4,.int .i64 n5,.int .i64 n6,.slice a n7 c]]:=hq
   rw[List.getElem?_map]at hq'
   obtain⟨z,hz,i6⟩:=Option.map_eq_some_iff.1 hq'
   have tN:q < x.nodes.length:=(zA0 hz).1
   refine⟨⟨rfl,by omega,?_⟩,⟨rfl,by omega,?_,bI⟩,rfl,.inr rfl⟩
   ·rw[zA8]
    show(t.nodes.map λx=>[x.v])[1+(Zaz (t.subs.take i)).length+q]?=_
    rw[List.getElem?_map,ZvK hx hz,<-i6];rfl
   ·congr 2
  ·rintro y m4 bI ⟨gJ,hy,_⟩
   simp only[List.cons.injEq,Value.int.injEq,true_and,and_true]at hy
   subst hy
   refine⟨rfl,t.subs.length - (i+1),by omega,i+1,by omega,?_,mLt iO (mLt aX bI),rfl⟩
   rw[Zam (by omega) (by omega),Zop hx,zA1]
   simp[T.v,Nat.add_assoc]
 ·have hi':i=t.subs.length:=by
   have:¬((i:Int) < (t.subs.length:Int)):=by simpa using bM
   omega
  subst hi'
  left
  rw[List.take_length,Zcy]
  simp
  omega
termination_by SizeOf.sizeOf t
decreasing_by exact bH
theorem ZtG(least most:Int)(m:Mem):CX Tryz.prog 207 #[.int .i64 least,.int .i64 most] m [] (Ret (.bool (ZjY least most))):=by
 apply ZmU
 refine⟨decide (least < 0)||decide (least > 16)||(least == 1&&most == 1),?_,Zab (λh=>Zac (Mem.le_refl _) ?_) (λh=>⟨most == -1||(decide (most ≥ 1)&&decide (most<=16)&&decide (most ≥ least)),?_,Zac (Mem.le_refl _) ?_⟩)⟩
 ·simp only[Zs1];(repeat' split) <;> simp_all <;> omega
 ·simp[Ret,ZjY,h]
 ·simp only[Zs1];(repeat' split) <;> simp_all <;> omega
 ·simp[Ret,ZjY,h]
theorem ZmW(l:List T)(a:Option Addr)(c:Nat)(g:Nat)(ca:List Value)(p:T->Bool)(m:Mem)(hl:l.length<=1000000000000000)(hr:l=[]\/∃b o,a=some ⟨b,o,none⟩/\RepAt m b o l)
  (hp:∀x∈l,∀m',m.le m'->Rep m' x->CX Tryz.prog g (x.v::ca).toArray m' [] (Ret (.bool (p x)))):
  CX Tryz.prog 217 #[.slice a l.length c,.func (.func g) #[] ca.toArray] m [] (Ret (.int .i64 (if l.any p then(l.findIdx p:Nat)else(-1:Int)))):=by
 apply Zbp a l.length c g [] ca
 refine⟨λxs _ _ m'' q=>∃i:Nat,i<=l.length/\xs=[.int .i64 i]/\(∀x∈l.take i,p x=false)/\m.le m''/\q=l.length - i,⟨l.length,0,by omega,rfl,by simp,Mem.le_refl _,by omega⟩,?_⟩
 rintro n m' q hm ⟨i,hi,hn,fQ,bJ,hq⟩
 obtain rfl:n=i:=by simpa using hn
 refine Zab (λaO=>?_) (λbM=>?_)
 ·have aW:i < l.length:=by simpa using aO
  obtain⟨x,hx⟩:∃x,l[i]?=some x:=⟨_,zA3 aW⟩
  have bP:x∈l:=zA2 hx
  rcases hr with h0|⟨b1,o1,ha,fK⟩
  ·rw[h0]at aW;simp at aW
  obtain⟨cS,dW⟩:=(fK.mono hm).get hx
  refine⟨b1,o1,ha,⟨by omega,by omega⟩,_,_,_,_,_,_,_,_,cS,Zah (hp x bP m' hm dW) λm1 aB=>Zab (λfO=>?_) (λfO=>?_)⟩
  ·refine Zac (mLt hm aB) ?_
   have eR:l.any p=true:=List.any_eq_true.2 ⟨x,bP,fO⟩
   have gk:l.findIdx p=i:=by
    rw[List.findIdx_eq aW]
    refine⟨by rw[(zA0 hx).2];exact fO,λj hj=>?_⟩
    exact fQ _ (List.mem_of_getElem? (i:=j) (by rw[List.getElem?_take_of_lt hj];exact zA3 (by omega)))
   simp[Ret,eR,gk]
  ·refine⟨l.length - (i+1),by omega,i+1,by omega,by rw[Zam (by omega) (by omega)];rfl,?_,mLt hm aB,rfl⟩
   intro y hy
   rw[List.take_add_one,hx]at hy
   rcases List.mem_append.1 hy with hy|hy
   ·exact fQ y hy
   ·simp at hy;rw[hy];exact fO
 ·have hi':i=l.length:=by
   have:¬((i:Int) < (l.length:Int)):=by simpa using bM
   omega
  subst hi'
  refine Zac hm ?_
  have eR:l.any p=false:=by
   rw[List.any_eq_false]
   rw[List.take_length]at fQ
   exact λx hx=>by simp[fQ x hx]
  simp[Ret,eR]
theorem ZhA(l:List T)(a:Option Addr)(c:Nat)(g:Nat)(ca:List Value)(p:T->Bool)(m:Mem)(hl:l.length<=1000000000000000)(hr:l=[]\/∃b o,a=some ⟨b,o,none⟩/\RepAt m b o l)
  (hp:∀x∈l,∀m',m.le m'->Rep m' x->CX Tryz.prog g (x.v::ca).toArray m' [] (Ret (.bool (p x)))):
  CX Tryz.prog 211 #[.slice a l.length c,.func (.func g) #[] ca.toArray] m [] (Ret (.bool (l.any p))):=by
 apply Za6 a l.length c g [] ca
 refine Zax (ZmW l a c g ca p m hl hr hp) λm' hm=>Zac hm ?_
 cases h:l.any p <;> simp[Ret]
theorem Zx4(t:T)(k:Int)(b:Nat)(m:Mem)(hb:m.reads b 0 [.int .u8 k]):CX Tryz.prog 212 #[t.v,.pointer (some ⟨b,0,none⟩)] m [] (Ret (.bool (t.k == k))):=by
 apply Zo9 (c0b:=b) (c0o:=0)
 intro b' m' hm _
 exact⟨_,hm _ _ _ (hb 0 _ rfl),Zaa rfl (Zac hm rfl)⟩
theorem ZtH(t:T)(k:Int)(m:Mem)(hr:Rep m t):CX Tryz.prog 206 #[t.v,.int .u8 k] m [] (Ret (.bool (t.has k))):=by
 apply ZtC
 intro b m1 aB _ b2 m2 aN eV
 have hr':=Zjq (hr.mono (mLt aB aN))
 exact Zah (ZhA t.subs t.a t.c _ [.pointer (some ⟨b2,0,none⟩)] (λx=>x.k == k) m2 hr'.1 hr'.2 λx _ m' hm' _=>Zx4 x k b2 m' (eV.mono hm')) λm3 aX=>Zac (mLt aB (mLt aN aX)) rfl
theorem ZdO(t:T)(m:Mem)(hr:Rep m t):CX Tryz.prog 69 #[t.v] m [] (Ret (.bool t.light)):=by
 apply Zo7
 intro b m1 aB _ b2
 refine Zai (Zh9 t m1) (λv m' css h=>by obtain⟨_,rfl,_⟩:=h;rfl) ?_
 rintro g fi ca m2 aN ⟨b3,hv,eQ⟩
 obtain⟨rfl,rfl,rfl⟩:=Zcx hv
 have bJ:=mLt aB aN
 refine⟨_,Zfy t m2 b3 eQ (hr.mono bJ),λy hy=>?_,λ_ css _ m' q=>css=[[.int .i64 q]]/\q<=10000/\q<=t.nodes.length,⟨rfl,by omega,by omega⟩,?_,?_⟩
 ·obtain⟨z,_,rfl⟩:=List.mem_map.1 hy;exact Zqw z
 ·rintro n0 n1 n2 n3 n4 n5 n6 a n7 c cs m3 q aX hq ⟨cK,gJ,_⟩
  obtain rfl:cs=[.int .i64 q]:=by simpa using cK
  have aO:q < t.nodes.length:=by
   have:=(zA0 (show(List.map (λz:T=>[z.v]) t.nodes)[(q:Nat)]?=some _ from hq)).1
   simpa using this
  refine Zap rfl (Zaa rfl ?_)
  have hw:IntKind.i64.wrap (intOf (Value.int .i64 (q:Int))+1)=(q:Int)+1:=Zam (n:=(q:Int)+1) (by omega) (by omega)
  simp only[hw]
  refine Zab (λh=>⟨by trivial,Zac (mLt bJ aX) ?_⟩) (λh=>⟨by trivial,?_,?_,by omega⟩)
  ·have:((q:Int)+1 > 10000):=by simpa using h
   simp[Ret,T.light];omega
  ·simp
  ·have:¬((q:Int)+1 > 10000):=by simpa using h
   omega
 ·rintro cs m3 aX ⟨cK,gJ,_⟩
  obtain rfl:cs=[.int .i64 t.nodes.length]:=by simpa using cK
  refine Zap rfl (Zaa rfl (Zac (mLt bJ aX) ?_))
  show Value.bool (decide ((t.nodes.length:Int)<=10000))=Value.bool t.light
  congr 1
  rw[T.light,decide_eq_decide];omega
end Go.Proofs.YtojlhhphofhaoaaGreatDoor
namespace Go.Proofs.YtojlhhphofhaoaaGreatDoor
open Go Go.Eng Go.Proofs Go.RowKit
theorem ZhB{P:Program}{T:TypeId}(hg:P.eqGuardType P.depth T=false)(op:BinOp)(ox oy:Operand)(xs ys:Array Value)(w:World):(eqGuard op T ox oy (.agg xs) (.agg ys)).run P w=.ok () w:=by
 unfold eqGuard
 have h1:(P.eqGuardType P.depth T)=true->False:=λh=>by rw[hg]at h;cases h
 split
 ·simp[go_sem];exact λh=>(h1 h).elim
 ·simp[go_sem];exact λh=>(h1 h).elim
 ·simp
theorem Zv4(a b c d a' b' c' d':Int):EqIs Tryz.prog 49 (.agg #[.int .u64 a,.int .u64 b,.int .u64 c,.int .u64 d]) (.agg #[.int .u64 a',.int .u64 b',.int .u64 c',.int .u64 d']) (a == a'&&b == b'&&c == c'&&d == d'):=by
 refine⟨λw=>?_,λop ox oy w=>ZhB (by kernel_rfl) op ox oy _ _ w⟩
 have u3:=Tryz.underlying47
 have a3:=Tryz.isAgg47
 have z3:=Tryz.sizeOf47
 rw[Op.equal,Op.maxDepth,show(10000:Nat)=9999+1 from rfl,Op.equalIn]
 simp only[Sem.run_bind,run_underlying Tryz.underlying49,Result.andThen_ok]
 simp only[Std.Legacy.Range.forIn_eq_forIn_range',Std.Legacy.Range.size,Nat.sub_zero,Nat.add_sub_cancel,Nat.div_one,List.range'_succ,List.range'_zero,List.forIn_cons,List.forIn_nil]
 go_simp
 by_cases h1:a=a' <;> by_cases h2:b=b' <;> by_cases h3:c=c' <;> by_cases h4:d=d' <;> simp[h1,h2,h3,h4]
end Go.Proofs.YtojlhhphofhaoaaGreatDoor
namespace Go.Proofs.YtojlhhphofhaoaaGreatDoor
open Go Go.Eng Go.Rx Go.Proofs Go.RowKit
set_option maxRecDepth 100000
theorem Zv5(t:T)(m:Mem)(hr:Rep m t):CX Tryz.prog 198 #[t.v] m [] (Ret (.bool t.right)):=by
 apply Zpa
 intro b m1 aB _
 have eX:=hr.mono aB
 refine⟨t.k != 2&&!t.setZ||(t.k != 5&&(t.mn != 0||t.mx != 0)||(decide (t.k < 3)&&decide (0 < t.subs.length))),?_,Zab (λh=>Zac aB ?_) (λh=>?_)⟩
 ·refine Zab (λh1=>?_) (λh1=>?_)
  ·refine⟨t.setZ,Zv4 _ _ _ _ _ _ _ _,?_⟩
   simp only[Zs1]
   (repeat' split) <;> simp_all <;> omega
  ·simp only[Zs1]
   (repeat' split) <;> simp_all <;> omega
 ·simp[Ret,T.right,h]
 ·refine Zab (λh1=>Zac aB ?_) (λh1=>Zab (λh2=>⟨t.setZ,Zv4 _ _ _ _ _ _ _ _,Zac aB ?_⟩) (λh2=>Zab (λh3=>?_) (λh3=>Zab (λh4=>?_) (λh4=>Zab (λh5=>?_) (λh5=>?_)))))
  ·have:t.k=1:=by simpa using h1
   show Value.bool _=Value.bool t.right;rw[T.right,h];simp[this]
  ·have:t.k=2:=by simpa using h2
   show Value.bool _=Value.bool t.right;rw[T.right,h];simp[this]
  ·have:t.k=3:=by simpa using h3
   refine⟨decide (1 < t.subs.length)&&(!t.has 1&&!t.has 3),Zab (λh4=>?_) (λh4=>?_),Zac aB ?_⟩
   ·refine Zah (ZtH t 1 m1 eX) λm2 aN=>Zab (λh5=>?_) (λh5=>?_)
    ·refine Zah (ZtH t 3 m2 (eX.mono aN)) λm3 aX=>⟨rfl,Zaf ?_⟩
     simp_all <;> (intros;omega)
    ·refine⟨rfl,Zaf ?_⟩
     simp_all <;> (intros;omega)
   ·refine⟨rfl,Zaf ?_⟩
    simp_all <;> (intros;omega)
   ·show Value.bool _=Value.bool t.right;rw[T.right,h];simp[this]
  ·have:t.k=4:=by simpa using h4
   refine⟨decide (1 < t.subs.length)&&!t.has 4,Zab (λh4=>?_) (λh4=>?_),Zac aB ?_⟩
   ·refine Zah (ZtH t 4 m1 eX) λm2 aN=>⟨rfl,Zaf ?_⟩
    simp_all <;> (intros;omega)
   ·refine⟨rfl,Zaf ?_⟩
    simp_all <;> (intros;omega)
   ·show Value.bool _=Value.bool t.right;rw[T.right,h];simp[this]
  ·have:t.k=5:=by simpa using h5
   refine⟨t.subs.length == 1&&(ZjY t.mn t.mx&&!t.has 1),Zab (λh4=>?_) (λh4=>?_),Zac aB ?_⟩
   ·refine Zah (ZtG t.mn t.mx m1) λm2 aN=>Zab (λh5=>?_) (λh5=>?_)
    ·refine Zah (ZtH t 1 m2 (eX.mono aN)) λm3 aX=>⟨rfl,Zaf ?_⟩
     have h4':((t.subs.length:Int) == 1)=true:=h4
     have:t.subs.length=1:=by have:=zA6 h4';omega
     simp_all <;> (intros;omega)
    ·refine⟨rfl,Zaf ?_⟩
     simp_all <;> (intros;omega)
   ·refine⟨rfl,Zaf ?_⟩
    have h4':((t.subs.length:Int) == 1)=false:=h4
    have:¬t.subs.length=1:=by have:=of_decide_eq_false h4';omega
    simp_all <;> (intros;omega)
   ·show Value.bool _=Value.bool t.right;rw[T.right,h];simp[this]
  ·refine⟨t.k == 6&&t.subs.length == 1,Zab (λh4=>⟨rfl,Zaf ?_⟩) (λh4=>⟨rfl,Zaf ?_⟩),Zac aB ?_⟩
   ·have:(t.k == 6)=true:=h4
    rw[this,Bool.true_and]
    show(decide ((t.subs.length:Int)=1))=decide (t.subs.length=1)
    rw[decide_eq_decide];omega
   ·have:(t.k == 6)=false:=h4
    simp[this]
   ·show Value.bool _=Value.bool t.right;rw[T.right,h]
    have e1:¬t.k=1:=by simpa using h1
    have e2:¬t.k=2:=by simpa using h2
    have e3:¬t.k=3:=by simpa using h3
    have e4:¬t.k=4:=by simpa using h4
    have e5:¬t.k=5:=by simpa using h5
    simp[e1,e2,e3,e4,e5]
theorem Zv6(t:T)(m:Mem)(hr:Rep m t):CX Tryz.prog 180 #[t.v] m [] (Ret (.bool t.clean)):=by
 apply Zpb
 intro b m1 aB _ b2
 refine Zah (ZdO t m1 (hr.mono aB)) λm2 aN=>Zab (λh=>Zac (mLt aB aN) ?_) (λh=>?_)
 ·have:t.light=false:=by simpa using h
  simp[Ret,T.clean,this]
 have hl:t.light=true:=by simpa using h
 refine Zai (Zh9 t m2) (λv m' css h=>by obtain⟨_,rfl,_⟩:=h;rfl) ?_
 rintro g fi ca m3 aX ⟨b3,hv,eQ⟩
 obtain⟨rfl,rfl,rfl⟩:=Zcx hv
 have bJ:=mLt aB (mLt aN aX)
 refine⟨_,Zfy t m3 b3 eQ (hr.mono bJ),λy hy=>?_,λ_ css _ m' q=>m3.le m'/\∀x∈t.nodes.take q,x.right=true,⟨Mem.le_refl _,by simp⟩,?_,?_⟩
 ·obtain⟨z,_,rfl⟩:=List.mem_map.1 hy;exact Zqw z
 ·rintro n0 n1 n2 n3 n4 n5 n6 a n7 c cs m4 q bI hq ⟨_,gJ⟩ b4
  have hq':(List.map (λz:T=>[z.v]) t.nodes)[(q:Nat)]?=some [Value.agg #[.int .u8 n0,.int .u64 n1,.int .u64 n2,.int .u64 n3,.int .u64 n4,.int .i64 n5,.int .i64 n6,.slice a n7 c]]:=hq
  rw[List.getElem?_map]at hq'
  obtain⟨z,hz,i6⟩:=Option.map_eq_some_iff.1 hq'
  have kD:z.v=Value.agg #[.int .u8 n0,.int .u64 n1,.int .u64 n2,.int .u64 n3,.int .u64 n4,.int .i64 n5,.int .i64 n6,.slice a n7 c]:=by simpa using i6
  have rR:Rep m4 z:=(Zs3 (hr.mono bJ) (zA2 hz)).mono bI
  have gm:=Zv5 z m4 rR
  rw[kD]at gm
  refine Zah gm λm5 cP=>Zab (λh=>⟨rfl,Zac (mLt bJ (mLt bI cP)) ?_⟩) (λh=>⟨rfl,mLt bI cP,λx hx=>?_⟩)
  ·have oC:z.right=false:=by simpa using h
   have:t.nodes.all T.right=false:=by
    rw[List.all_eq_false];exact⟨z,zA2 hz,by simp[oC]⟩
   simp[Ret,T.clean,this]
  ·rw[List.take_add_one,hz]at hx
   rcases List.mem_append.1 hx with hx|hx
   ·exact gJ x hx
   ·simp at hx;rw[hx];simpa using h
 ·rintro cs m4 bI ⟨_,gJ⟩
  refine Zac (mLt bJ bI) ?_
  rw[List.length_map,List.take_length]at gJ
  have:t.nodes.all T.right=true:=List.all_eq_true.2 gJ
  simp[Ret,T.clean,this,hl]
theorem ZrZ(t:T)(m:Mem)(hr:Rep m t):CX Tryz.prog 60 #[t.v] m [] (Ret (.int .i64 t.size)):=by
 apply ZqP
 intro b m1 aB _
 refine Zah (ZdO t m1 (hr.mono aB)) λm2 aN=>Zab (λh=>Zac (mLt aB aN) ?_) (λh=>?_)
 ·have:t.light=false:=by simpa using h
  simp[Ret,T.size,this]
 have hl:t.light=true:=by simpa using h
 have qp:t.nodes.length<=10000:=zA6 hl
 intro b2
 refine Zai (Zh9 t m2) (λv m' css h=>by obtain⟨_,rfl,_⟩:=h;rfl) ?_
 rintro g fi ca m3 aX ⟨b3,hv,eQ⟩
 obtain⟨rfl,rfl,rfl⟩:=Zcx hv
 have bJ:=mLt aB (mLt aN aX)
 refine⟨_,Zfy t m3 b3 eQ (hr.mono bJ),λy hy=>?_,λ_ css _ m' q=>css=[[.int .i64 q]]/\q<=t.nodes.length,⟨rfl,by omega⟩,?_,?_⟩
 ·obtain⟨z,_,rfl⟩:=List.mem_map.1 hy;exact Zqw z
 ·rintro n0 n1 n2 n3 n4 n5 n6 a n7 c cs m4 q bI hq ⟨cK,_⟩
  obtain rfl:cs=[.int .i64 q]:=by simpa using cK
  have aO:q < t.nodes.length:=by
   have:=(zA0 (show(List.map (λz:T=>[z.v]) t.nodes)[(q:Nat)]?=some _ from hq)).1
   simpa using this
  have hw:IntKind.i64.wrap (intOf (Value.int .i64 (q:Int))+1)=(q:Int)+1:=Zam (n:=(q:Int)+1) (by omega) (by omega)
  refine Zap rfl (Zaa rfl ?_)
  simp only[hw]
  exact⟨by trivial,by simp,by omega⟩
 ·rintro cs m4 bI ⟨cK,gJ⟩
  obtain rfl:cs=[.int .i64 t.nodes.length]:=by simpa using cK
  refine Zap rfl (Zac (mLt bJ bI) ?_)
  simp[Ret,T.size,hl]
theorem Zpe(t:T)(m:Mem)(hr:Rep m t):CX Tryz.prog 182 #[t.v] m [] (Ret (.int .i64 t.groups)):=by
 apply ZmV
 intro b m1 aB _
 refine Zah (ZdO t m1 (hr.mono aB)) λm2 aN=>Zab (λh=>Zac (mLt aB aN) ?_) (λh=>?_)
 ·have:t.light=false:=by simpa using h
  simp[Ret,T.groups,this]
 have hl:t.light=true:=by simpa using h
 have qp:t.nodes.length<=10000:=zA6 hl
 intro b2
 refine Zai (Zh9 t m2) (λv m' css h=>by obtain⟨_,rfl,_⟩:=h;rfl) ?_
 rintro g fi ca m3 aX ⟨b3,hv,eQ⟩
 obtain⟨rfl,rfl,rfl⟩:=Zcx hv
 have bJ:=mLt aB (mLt aN aX)
 have gt:∀q,(t.nodes.take q).countP (λx=>x.k == 6)<=10000:=λq=>by
  have h1:=List.countP_le_length (p:=λx:T=>x.k == 6) (l:=t.nodes.take q)
  have h2:(t.nodes.take q).length<=t.nodes.length:=List.length_take_le' _ _
  omega
 refine⟨_,Zfy t m3 b3 eQ (hr.mono bJ),λy hy=>?_,λ_ css _ m' q=>css=[[.int .i64 ((t.nodes.take q).countP λx=>x.k == 6:Nat)]]/\q<=t.nodes.length,⟨rfl,by omega⟩,?_,?_⟩
 ·obtain⟨z,_,rfl⟩:=List.mem_map.1 hy;exact Zqw z
 ·rintro n0 n1 n2 n3 n4 n5 n6 a n7 c cs m4 q bI hq ⟨cK,_⟩ b4
  obtain rfl:cs=_:=by simpa using cK
  have hq':(List.map (λz:T=>[z.v]) t.nodes)[(q:Nat)]?=some [Value.agg #[.int .u8 n0,.int .u64 n1,.int .u64 n2,.int .u64 n3,.int .u64 n4,.int .i64 n5,.int .i64 n6,.slice a n7 c]]:=hq
  rw[List.getElem?_map]at hq'
  obtain⟨z,hz,i6⟩:=Option.map_eq_some_iff.1 hq'
  have hk:z.k=n0:=by
   have:z.v=Value.agg #[.int .u8 n0,.int .u64 n1,.int .u64 n2,.int .u64 n3,.int .u64 n4,.int .i64 n5,.int .i64 n6,.slice a n7 c]:=by simpa using i6
   simp[T.v]at this;exact this.1
  have aO:=(zA0 hz).1
  have fE:(t.nodes.take (q+1)).countP (λx=>x.k == 6)=(t.nodes.take q).countP (λx=>x.k == 6)+(if z.k == 6 then 1 else 0):=by
   rw[List.take_add_one,hz,List.countP_append];simp[List.countP_cons]
  refine Zab (λh=>?_) (λh=>?_)
  ·have hw:IntKind.i64.wrap (intOf (Value.int .i64 ((t.nodes.take q).countP λx=>x.k == 6:Nat))+1)=(((t.nodes.take q).countP λx=>x.k == 6:Nat):Int)+1:=Zam (n:=(((t.nodes.take q).countP λx=>x.k == 6:Nat):Int)+1) (by have:=gt q;omega) (by have:=gt q;omega)
   refine Zap rfl (Zaa rfl ?_)
   simp only[hw]
   refine⟨by trivial,?_,by omega⟩
   rw[fE,hk]
   have:(n0 == 6)=true:=h
   simp[this]
  ·refine⟨rfl,?_,by omega⟩
   rw[fE,hk]
   have:(n0 == 6)=false:=h
   simp[this]
 ·rintro cs m4 bI ⟨cK,gJ⟩
  obtain rfl:cs=_:=by simpa using cK
  refine Zap rfl (Zac (mLt bJ bI) ?_)
  simp[Ret,T.groups,hl]
theorem ZhC(t:T)(m:Mem)(hr:Rep m t)(hl:t.nodes.length<=10000):CX Tryz.prog 199 #[t.v] m [] (Ret (.int .i64 t.pos)):=by
 apply Zhy
 intro b m1 aB _
 have fX:=ZuO t
 have iN:=Zqx t
 refine Zab (λhk=>?_) (λhk=>?_)
 all_goals
  have hk':(if t.k=2 then(1:Int)else 0)=1/\t.k=2\/(if t.k=2 then(1:Int)else 0)=0/\t.k≠2:=by split <;> simp_all
  refine⟨λxs _ _ m'' q=>∃i:Nat,i<=t.subs.length/\xs=[.int .i64 ((if t.k=2 then 1 else 0)+ZeD (t.subs.take i)),.int .i64 i]/\m1.le m''/\q=t.subs.length - i,⟨t.subs.length,0,by omega,by simp_all [ZeD],Mem.le_refl _,by omega⟩,?_⟩
  rintro n n1 m2 q aN ⟨i,hi,cZ,_,hq⟩
  have cG:=Zg6 (t.subs.take i)
  have eV:=ZuN (t.subs.take i)
  have eQ:(t.subs.take i).length<=i:=List.length_take_le _ _
  clear hk'
  generalize hc:(if t.k=2 then(1:Int)else 0)=c at *
  have xx:0<=c/\c<=1:=by rw[<-hc];split <;> omega
  simp only[List.cons.injEq,Value.int.injEq,true_and,and_true]at cZ
  obtain⟨rfl,rfl⟩:=cZ
  refine Zab (λaO=>?_) (λbM=>?_)
  ·have aW:i < t.subs.length:=by simpa using aO
   obtain⟨x,hx⟩:∃x,t.subs[i]?=some x:=⟨_,zA3 aW⟩
   have bP:x∈t.subs:=zA2 hx
   have bH:=Zqv bP
   have tO:=Zs5 bP
   obtain⟨_,h0|⟨b1,o1,ha,fK⟩⟩:=Zjq hr
   ·rw[h0]at aW;simp at aW
   obtain⟨cS,dW⟩:=(fK.mono ((mLt aB aN))).get hx
   have uF:=Zio x
   refine⟨b1,o1,ha,⟨by omega,by omega⟩,_,_,_,_,_,_,_,_,cS,λb2=>Zaa rfl ?_⟩
   refine Zax (ZhC x m2 dW (by omega)) λm3 aX=>⟨rfl,t.subs.length - (i+1),by omega,i+1,by omega,?_,mLt aN aX,rfl⟩
   rw[Zam (by omega) (by omega),Zam (by omega) (by omega),Zs4 hx,Int.add_assoc]
   rfl
  ·have hi':i=t.subs.length:=by
    have:¬((i:Int) < (t.subs.length:Int)):=by simpa using bM
    omega
   subst hi'
   rw[List.take_length]at cG eV ⊢
   have hF:=ZuM t.mn t.mx
   have oY:0<=(c+ZeD t.subs)*ZvL t.mn t.mx/\(c+ZeD t.subs)*ZvL t.mn t.mx<=100020001*10001:=by
    constructor
    ·exact Int.mul_nonneg (by omega) hF.1
    ·exact Int.mul_le_mul (by omega) hF.2 hF.1 (by omega)
   refine Zab (λh5=>Zab (λhx=>Zac (mLt aB aN) ?_) (λhx=>Zac (mLt aB aN) ?_)) (λh5=>Zac (mLt aB aN) ?_)
   ·have e1:t.k=5:=by simpa using h5
    have e2:t.mx=-1:=by simpa using hx
    have hF':ZvL t.mn t.mx=ZgG (ZpQ (ZpQ t.mn 0) 1) 10001:=by simp[ZvL,e2]
    show Value.int .i64 (ZgG (IntKind.i64.wrap ((c+ZeD t.subs)*ZgG (ZpQ (ZpQ t.mn 0) 1) 10001)) 10001)=Value.int .i64 t.pos
    rw[<-hF',Zam (by omega) (by omega),iN,ZwZ,if_pos e1];rfl
   ·have e1:t.k=5:=by simpa using h5
    have e2:¬t.mx=-1:=by simpa using hx
    have hF':ZvL t.mn t.mx=ZgG (ZpQ (ZpQ t.mn 0) t.mx) 10001:=by simp[ZvL,e2]
    show Value.int .i64 (ZgG (IntKind.i64.wrap ((c+ZeD t.subs)*ZgG (ZpQ (ZpQ t.mn 0) t.mx) 10001)) 10001)=Value.int .i64 t.pos
    rw[<-hF',Zam (by omega) (by omega),iN,ZwZ,if_pos e1];rfl
   ·have e1:¬t.k=5:=by simpa using h5
    show Value.int .i64 (ZgG (c+ZeD t.subs) 10001)=Value.int .i64 t.pos
    rw[iN,ZwZ,if_neg e1]
termination_by SizeOf.sizeOf t
decreasing_by all_goals exact bH
theorem ZmX(t:T)(m:Mem)(hr:Rep m t):CX Tryz.prog 181 #[t.v] m [] (Ret (.int .i64 t.positions)):=by
 apply Zhz
 intro b m1 aB _
 refine Zah (ZdO t m1 (hr.mono aB)) λm2 aN=>Zab (λh=>Zac (mLt aB aN) ?_) (λh=>?_)
 ·have:t.light=false:=by simpa using h
  simp[Ret,T.positions,this]
 have hl:t.light=true:=by simpa using h
 refine Zax (ZhC t m2 (hr.mono (mLt aB aN)) (zA6 hl)) λm3 aX=>Zac (mLt aB (mLt aN aX)) ?_
 simp[Ret,T.positions,hl]
def ZBK(bg en:Bool)(t:T):Value:=.agg #[.bool bg,.bool en,.int .u8 t.k,.int .u64 t.s0,.int .u64 t.s1,.int .u64 t.s2,.int .u64 t.s3,.int .i64 t.mn,.int .i64 t.mx,.slice t.a t.subs.length t.c]
theorem Zv7(bg en:Bool)(t:T)(m:Mem)(hr:Rep m t):CX Tryz.prog 159 #[ZBK bg en t] m [] (Ret (.int .i64 t.check)):=by
 apply Zpd
 intro b m1 aB _
 refine Zah (Zv6 t m1 (hr.mono aB)) λm2 aN=>Zab (λh=>Zac (mLt aB aN) ?_) (λh=>?_)
 ·have:t.clean=false:=by simpa using h
  simp[Ret,T.check,this]
 have jP:=mLt aB aN
 have h1:¬t.clean=false:=by simpa using h
 refine Zax (ZrZ t m2 (hr.mono jP)) λm3 aX=>Zab (λh=>Zac (mLt jP aX) ?_) (λh=>?_)
 ·have h2:t.size > 120:=by simpa using h
  show Value.int .i64 81=Value.int .i64 t.check
  rw[T.check,if_neg h1,if_pos h2]
 have h2:¬t.size > 120:=by simpa using h
 have jQ:=mLt jP aX
 refine Zax (ZmX t m3 (hr.mono jQ)) λm4 bI=>Zab (λh=>Zac (mLt jQ bI) ?_) (λh=>?_)
 ·have h3:t.positions > 400:=by simpa using h
  show Value.int .i64 82=Value.int .i64 t.check
  rw[T.check,if_neg h1,if_neg h2,if_pos h3]
 have h3:¬t.positions > 400:=by simpa using h
 have ng:=mLt jQ bI
 refine Zax (Zpe t m4 (hr.mono ng)) λm5 cP=>Zab (λh=>Zac (mLt ng cP) ?_) (λh=>Zac (mLt ng cP) ?_)
 ·have h4:t.groups > 9:=by simpa using h
  show Value.int .i64 83=Value.int .i64 t.check
  rw[T.check,if_neg h1,if_neg h2,if_neg h3,if_pos h4]
 ·have h4:¬t.groups > 9:=by simpa using h
  show Value.int .i64 0=Value.int .i64 t.check
  rw[T.check,if_neg h1,if_neg h2,if_neg h3,if_neg h4]
theorem ZmY(l l':List T)(a a':Option Addr)(c c':Nat)(m:Mem)(hl:l.length<=1000000000000000)(hr:l=[]\/∃b o,a=some ⟨b,o,none⟩/\RepAt m b o l)(hr':l'=[]\/∃b o,a'=some ⟨b,o,none⟩/\RepAt m b o l')
  (hp:∀x∈l,∀y∈l',∀m',m.le m'->Rep m' x->Rep m' y->CX Tryz.prog 111 #[x.v,y.v] m' [] (Ret (.bool (x.same y)))):
  CX Tryz.prog 133 #[.slice a l.length c,.slice a' l'.length c',.func (.func 111) #[] #[]] m [] (Ret (.bool (Zeu l l'))):=by
 apply ZaE a l.length c a' l'.length c' _ [] []
 refine Zab (λh=>Zac (Mem.le_refl _) ?_) (λh=>?_)
 ·have:¬l.length=l'.length:=by
   intro e;rw[e]at h;simp at h
  show Value.bool false=_
  rw[Zor this]
 have ie:l.length=l'.length:=by
  have h2:((l.length:Int) == (l'.length:Int))=true:=by simpa using h
  have:=zA6 h2;omega
 refine⟨λxs _ _ m'' q=>∃i:Nat,i<=l.length/\xs=[.int .i64 i]/\Zeu (l.take i) (l'.take i)=true/\m.le m''/\q=l.length - i,⟨l.length,0,by omega,rfl,by simp[Zeu],Mem.le_refl _,by omega⟩,?_⟩
 rintro n m' q hm ⟨i,hi,hn,dE,bJ,hq⟩
 obtain rfl:n=i:=by simpa using hn
 refine Zab (λaO=>?_) (λbM=>?_)
 ·have aW:i < l.length:=by simpa using aO
  obtain⟨x,hx⟩:∃x,l[i]?=some x:=⟨_,zA3 aW⟩
  obtain⟨y,hy⟩:∃y,l'[i]?=some y:=⟨_,zA3 (by omega)⟩
  have lQ:x∈l:=zA2 hx
  have rS:y∈l':=zA2 hy
  rcases hr with h0|⟨b1,o1,ha,fK⟩
  ·rw[h0]at aW;simp at aW
  rcases hr' with h0|⟨b2,o2,ha',nh⟩
  ·rw[h0]at ie;simp at ie;rw[ie]at aW;simp at aW
  obtain⟨cS,dW⟩:=(fK.mono hm).get hx
  obtain⟨gy,kE⟩:=(nh.mono hm).get hy
  refine⟨b1,o1,ha,⟨by omega,by omega⟩,_,_,_,_,_,_,_,_,cS,λb3=>Zaa rfl ⟨b2,o2,ha',⟨by omega,by omega⟩,_,_,_,_,_,_,_,_,gy,λb4=>Zaa rfl ?_⟩⟩
  refine Zah (hp x lQ y rS m' hm dW kE) λm1 aB=>Zab (λfO=>?_) (λfO=>?_)
  ·have hf:x.same y=false:=by simpa using fO
   refine Zac (mLt hm aB) ?_
   show Value.bool false=_
   rw[Zrs hx hy hf]
  ·have hf:x.same y=true:=by simpa using fO
   refine⟨l.length - (i+1),by omega,i+1,by omega,by rw[Zam (by omega) (by omega)];rfl,ZlA hx hy dE hf trivial,mLt hm aB,rfl⟩
 ·have hi':i=l.length:=by
   have:¬((i:Int) < (l.length:Int)):=by simpa using bM
   omega
  subst hi'
  refine Zac hm ?_
  rw[List.take_length,ie,List.take_length]at dE
  show Value.bool true=_
  rw[dE]
theorem Zu9(t u:T)(m:Mem)(hr:Rep m t)(hu:Rep m u):CX Tryz.prog 111 #[t.v,u.v] m [] (Ret (.bool (t.same u))):=by
 apply ZqR
 intro b m1 aB _ b' m2 aN _
 have hm:=mLt aB aN
 refine⟨t.same u,?_,Zac hm rfl⟩
 rw[ZxF]
 refine Zab (λh1=>⟨_,Zv4 _ _ _ _ _ _ _ _,Zab (λh2=>Zab (λh3=>Zab (λh4=>?_) (λh4=>⟨rfl,Zaf ?_⟩)) (λh3=>⟨rfl,Zaf ?_⟩)) (λh2=>⟨rfl,Zaf ?_⟩)⟩) (λh1=>⟨rfl,Zaf ?_⟩)
 ·have hr':=Zjq (hr.mono hm)
  have hu':=Zjq (hu.mono hm)
  refine Zah (ZmY t.subs u.subs t.a u.a t.c u.c m2 hr'.1 hr'.2 hu'.2 λx hx y hy m' _ cS gy=>?_) λm3 aX=>⟨rfl,Zaf ?_⟩
  ·have bH:=Zqv hx
   exact Zu9 x y m' cS gy
  ·rw[h1,h2,h3,h4];rfl
 ·rw[h1,h2,h3,h4];rfl
 ·rw[h1,h2,h3];rfl
 ·rw[h1,h2];rfl
 ·rw[h1];rfl
termination_by SizeOf.sizeOf t
decreasing_by exact bH
theorem Zx5(t u:T)(m:Mem)(hr:Rep m t)(hu:Rep m u):CX Tryz.prog 80 #[t.v,u.v] m [] (Ret (.bool (t.light&&(u.light&&t.same u)))):=by
 apply ZqS
 intro b m1 aB _ b' m2 aN _
 have hm:=mLt aB aN
 refine⟨t.light&&(u.light&&t.same u),?_,Zac hm rfl⟩
 refine Zah (ZdO t m2 (hr.mono hm)) λm3 aX=>Zab (λh1=>?_) (λh1=>⟨rfl,Zaf ?_⟩)
 ·refine Zah (ZdO u m3 (hu.mono (mLt hm aX))) λm4 bI=>Zab (λh2=>?_) (λh2=>?_)
  ·have cP:=mLt (mLt hm aX) bI
   refine Zah (Zu9 t u m4 (hr.mono cP) (hu.mono cP)) λm6 iR=>⟨rfl,Zaf ?_⟩
   rw[h1,h2];rfl
  ·refine⟨rfl,Zaf ?_⟩
   rw[h1,h2];rfl
 ·rw[h1];rfl
end Go.Proofs.YtojlhhphofhaoaaGreatDoor
namespace Go.Proofs.YtojlhhphofhaoaaGreatDoor
open Go Go.Eng Go.Rx Go.Proofs Go.RowKit
theorem ZpX{b:Bool}{p q:Prop}(h:b=true)(k:p):br b p q:=by subst h;exact k
theorem ZdK{b:Bool}{p q:Prop}(h:b=false)(k:q):br b p q:=by subst h;exact k
theorem ZaP{α:Type}{l:List α}{k:Nat}(h:k < l.length):∃x,l[k]?=some x:=⟨l[k],zA3 h⟩
theorem Zbq(t:T):Rx.ZcL [t]=t.cs:=by simp[Rx.ZcL]
theorem ZdG{m:Mem}{a:Option Addr}{ts:List T}(h:rowRd m a (Rx.ZcL ts)){i:Nat}{t:T}(hi:ts[i]?=some t):∃b o,a=some ⟨b,o,none⟩/\m.reads b (o+i*8) t.cs:=by
 rcases h with h|⟨b,o,ha,h⟩
 ·have hl:(Rx.ZcL ts).length=0:=by rw[h];rfl
  rw[Zar]at hl
  have:=(zA0 hi).1
  omega
 ·refine⟨b,o,ha,λj v hj=>?_⟩
  rw[Nat.add_assoc]
  refine h (i*8+j) v ?_
  have e:ts=ts.take i++(t::ts.drop (i+1)):=by
   have aO:=(zA0 hi).1
   have h2:=List.drop_eq_getElem_cons aO
   rw[(zA0 hi).2]at h2
   rw[<-h2,List.take_append_drop]
  have aO:=(zA0 hi).1
  have rO:=(zA0 hj).1
  rw[e,ZaG,zA4 (by rw[Zar,List.length_take,Nat.min_eq_left (by omega)];omega),Zar,List.length_take,Nat.min_eq_left (by omega),show i*8+j - i*8=j by omega]
  have e2:Rx.ZcL (t::ts.drop (i+1))=t.cs++Rx.ZcL (ts.drop (i+1)):=by simp[Rx.ZcL]
  rw[e2,zA5 rO];exact hj
def ZpY(mb M0:Mem)(φ:T->Prop):Value->Mem->List (List Value)->Prop:=λv M' css=>∃m0,mb.le m0/\m0.le M'/\(∀b o u,M0 b o=some u->∀o',m0 b o'=mb b o')/\Zot φ v m0 css
theorem Zjt{mb M0:Mem}{φ:T->Prop}{m:Mem}{K:TRK}(k:∀(t:T)(m0 m':Mem),m.le m'->mb.le m0->m0.le m'->(∀b o u,M0 b o=some u->∀o',m0 b o'=mb b o')->Rep m0 t->φ t->K t.k t.s0 t.s1 t.s2 t.s3 t.mn t.mx t.a t.subs.length t.c m'):
  ∀(n0 n1 n2 n3 n4 n5 n6:Int)(a:Option Addr)(n c:Nat)(m':Mem),m.le m'->ZpY mb M0 φ (.agg #[.int .u8 n0,.int .u64 n1,.int .u64 n2,.int .u64 n3,.int .u64 n4,.int .i64 n5,.int .i64 n6,.slice a n c]) m' []->K n0 n1 n2 n3 n4 n5 n6 a n c m':=by
 rintro n0 n1 n2 n3 n4 n5 n6 a n c m' hm ⟨m0,h1,h2,h3,t,hv,hr,hp⟩
 simp only[T.v,Value.agg.injEq,Array.mk.injEq,List.cons.injEq,Value.int.injEq,Value.slice.injEq,true_and,and_true]at hv
 obtain⟨rfl,rfl,rfl,rfl,rfl,rfl,rfl,rfl,rfl,rfl⟩:=hv
 exact k t m0 m' hm h1 h2 h3 hr hp
theorem Zdm{mb M0:Mem}{φ:T->Prop}:∀(v:Value)(m':Mem) (css:List (List Value)),ZpY mb M0 φ v m' css->Shape.fits (.agg [.int .u8,.int .u64,.int .u64,.int .u64,.int .u64,.int .i64,.int .i64,.slice]) v=true:=λv _ _ ⟨_,_,_,_,t,e,_⟩=>by rw[e];rfl
def Apart(mb:Mem)(a:Option Addr):Prop:=a=none\/∃b,a=some ⟨b,0,none⟩/\mb.free b
theorem Apart.tok{mb M:Mem}{a a':Option Addr}{n c:Nat}(h:Apart mb a)(hm:mb.le M)(ht:TokFact M a a' n c):Apart mb a':=by
 rcases ht.2 with h1|⟨b,o,h1,h2⟩
 ·exact .inl h1
 rcases h2 with h2|⟨h3,h2⟩
 ·rw[<-h2];exact h
 ·subst h3
  refine .inr ⟨b,h1,λo=>?_⟩
  cases hb:mb b o with
  | none=>rfl
  | some v=>have:=hm _ _ _ hb;rw[h2.1 o]at this;cases this
theorem Zr0{m:Mem}{a:Option Addr}{ts r:List T}(h:rowRd m a (Rx.ZcL (ts++r))):rowRd m a (Rx.ZcL ts):=by
 rw[ZaG]at h
 rcases h with h|⟨b,o,ha,h⟩
 ·exact .inl (List.append_eq_nil_iff.1 h).1
 ·refine .inr ⟨b,o,ha,λj v hj=>h j v ?_⟩
  rw[zA5 (zA0 hj).1];exact hj
theorem Zr1{m:Mem}{b:Nat}{ts:List T}{x t:T}(h:rowRd m (some ⟨b,0,none⟩) (Rx.ZcL (ts++[x]))):rowRd (m.upd b (0+ts.length*8) t.cs) (some ⟨b,0,none⟩) (Rx.ZcL (ts++[t])):=by
 refine .inr ⟨b,0,rfl,λj v hj=>?_⟩
 rw[ZaG]at hj
 rcases Nat.lt_or_ge j (ts.length*8)with aO|bM
 ·rw[zA5 (by rw[Zar];exact aO)]at hj
  unfold Mem.upd;try dsimp only
  rw[if_neg (by omega)]
  rcases h with h|⟨b',o',ha,h⟩
  ·have hl:(Rx.ZcL (ts++[x])).length=0:=by rw[h];rfl
   rw[Zar,zA1]at hl
   simp at hl
  ·cases ha
   refine h j v ?_
   rw[ZaG,zA5 (by rw[Zar];exact aO)];exact hj
 ·rw[zA4 (by rw[Zar];exact bM),Zar,Zbq]at hj
  have h8:=(zA0 hj).1
  have h8':t.cs.length=8:=rfl
  unfold Mem.upd;try dsimp only
  rw[if_pos ⟨rfl,by omega,by omega⟩,show 0+j - (0+ts.length*8)=j - ts.length*8 by omega]
  exact hj
theorem Apart.base{mb m:Mem}{a:Option Addr}{ts:List T}(h:Apart mb a)(aM:rowRd m a (Rx.ZcL ts))(hn:ts≠[]):∃b,a=some ⟨b,0,none⟩/\mb.free b/\∃o u,m b o=some u:=by
 obtain⟨t,r,rfl⟩:∃t r,ts=t::r:=by cases ts with
  | nil=>exact absurd rfl hn
  | cons t r=>exact⟨t,r,rfl⟩
 obtain⟨b',o,ha,cC⟩:=ZdG aM (i:=0) (t:=t) rfl
 rcases h with h|⟨b,hb,hf⟩
 ·rw[h]at ha;cases ha
 ·rw[hb]at ha;cases ha
  exact⟨b',hb,hf,_,_,cC 0 (.int .u8 t.k) rfl⟩
theorem ZAt{ts:List T}(h:1 < ts.length):∃r x y,ts=r++[x,y]:=by
 have h1:ts.length - 2 < ts.length:=by omega
 refine⟨ts.take (ts.length - 2),ts[ts.length - 2],ts[ts.length - 1],?_⟩
 have e:=(List.take_append_drop (ts.length - 2) ts).symm
 rw[List.drop_eq_getElem_cons h1,List.drop_eq_getElem_cons (by omega),List.drop_eq_nil_of_le (by omega)]at e
 simpa[show ts.length - 2+1=ts.length - 1 by omega]using e
theorem ZAu{ts:List T}(h:0 < ts.length):∃r x,ts=r++[x]:=by
 refine⟨ts.dropLast,ts.getLast (by intro e;subst e;simp at h),?_⟩
 exact(List.dropLast_concat_getLast _).symm
end Go.Proofs.YtojlhhphofhaoaaGreatDoor
namespace Go.Proofs.YtojlhhphofhaoaaGreatDoor
open Go Go.Eng Go.Rx Go.Proofs Go.RowKit
set_option maxRecDepth 100000
theorem Zau{p:Prop} [Decidable p]{A B:Prop}(ht:p->A)(hf:¬p->B):br (decide p) A B:=Zab (λh=>ht (zA6 h)) (λh=>hf (of_decide_eq_false h))
theorem Zfz(t:E)(m:Mem):CX Tryz.prog 96 #[t.v] m [] (λv m' _=>∃b,v=.func (.func 123) #[] #[.pointer (some ⟨b,0,none⟩)]/\m'.reads b 0 t.cs):=by
 apply ZkD
 intro b m' hm hb
 exact⟨m',hm,Mem.le_refl _,b,rfl,hb⟩
theorem Zd1(t:E)(m:Mem)(c0b:Nat)(cC:m.reads c0b 0 t.cs)(eM:RepE m t):IX Tryz.prog 123 [] [.pointer (some ⟨c0b,0,none⟩)] m (t.nodes.map λx=>[x.v]):=by
 apply Zhu 0 [] [] c0b 0
 intro l b m' hm hb
 have kC:=cC.mono hm
 refine⟨_,_,_,_,_,kC,⟨rfl,by omega,?_⟩,?_,.inr rfl⟩
 ·rw[Zbz];rfl
 refine⟨t.sl,kC 4 _ rfl,Zaa rfl ?_⟩
 refine⟨λxs _ _ m'' q=>∃i:Nat,i<=t.subs.length/\xs=[.int .i64 ((1+(Zao (t.subs.take i)).length:Nat):Int),.int .i64 i]/\m'.le m''/\q=t.subs.length - i,⟨t.subs.length,0,by omega,?_,Mem.le_refl _,by omega⟩,?_⟩
 ·simp[Zao]
 rintro y n m2 q aN ⟨i,hi,cZ,iO,hq⟩
 simp only[List.cons.injEq,Value.int.injEq,true_and,and_true]at cZ
 obtain⟨rfl,rfl⟩:=cZ
 have aZ:slN t.sl=t.subs.length:=rfl
 rw[aZ]
 refine Zab (λaO=>?_) (λbM=>?_)
 ·have aW:i < t.subs.length:=by simpa using aO
  obtain⟨x,hx⟩:∃x,t.subs[i]?=some x:=⟨_,zA3 aW⟩
  have bP:x∈t.subs:=zA2 hx
  have bH:=ZlC bP
  obtain⟨oX,h0|⟨b1,o1,ha,fK⟩⟩:=ZeE eM
  ·rw[h0]at aW;simp at aW
  obtain⟨cS,dW⟩:=(fK.mono' ((mLt hm iO))).get hx
  refine Zaa rfl ⟨b1,o1,ha,⟨by omega,by omega⟩,_,_,_,_,_,cS,λb2=>Zaa rfl ?_⟩
  refine⟨_,trivial,Zfz x m2,λv m' css h=>?_,?_⟩
  ·obtain⟨b3,rfl,_⟩:=h;rfl
  rintro g fi ca m3 aX ⟨b3,hv,eQ⟩
  obtain⟨rfl,rfl,rfl⟩:=Zcx hv
  refine⟨_,Zd1 x m3 b3 eQ (RepE.mono' dW aX),λy hy=>?_,?_⟩
  ·obtain⟨z,_,rfl⟩:=List.mem_map.1 hy;exact ZlD z
  refine⟨λxs _ _ m'' q=>q<=x.nodes.length/\xs=[.int .i64 ((1+(Zao (t.subs.take i)).length+q:Nat):Int)]/\m3.le m'',⟨Nat.zero_le _,rfl,Mem.le_refl _⟩,?_,?_⟩
  ·rintro y n0 v0 s0 n3 a n7 c m4 q bI hq ⟨gJ,hy,_⟩ b4
   simp only[List.cons.injEq,Value.int.injEq,true_and,and_true]at hy
   subst hy
   have hq':(List.map (λz:E=>[z.v]) x.nodes)[(q:Nat)]?=some [Value.agg #[.int .u8 n0,v0,.string s0,.int .i64 n3,.slice a n7 c]]:=hq
   rw[List.getElem?_map]at hq'
   obtain⟨z,hz,i6⟩:=Option.map_eq_some_iff.1 hq'
   have tN:q < x.nodes.length:=(zA0 hz).1
   simp only[E.v,List.cons.injEq,Value.agg.injEq,Array.mk.injEq,Value.int.injEq,Value.string.injEq,Value.slice.injEq,true_and,and_true]at i6
   obtain⟨rfl,rfl,rfl,rfl,rfl,rfl,rfl⟩:=i6
   refine Zaa rfl ⟨⟨rfl,by omega,?_⟩,⟨rfl,by omega,?_,bI⟩,rfl,.inr rfl⟩
   ·rw[zA8]
    show(t.nodes.map λx=>[x.v])[1+(Zao (t.subs.take i)).length+q]?=_
    rw[List.getElem?_map,Zs8 hx hz];rfl
   ·congr 2
  ·rintro y m4 bI ⟨gJ,hy,_⟩
   simp only[List.cons.injEq,Value.int.injEq,true_and,and_true]at hy
   subst hy
   refine⟨rfl,t.subs.length - (i+1),by omega,i+1,by omega,?_,mLt iO (mLt aX bI),rfl⟩
   rw[Zam (by omega) (by omega),Zmr hx,zA1]
   simp[E.v,Nat.add_assoc]
 ·have hi':i=t.subs.length:=by
   have:¬((i:Int) < (t.subs.length:Int)):=by simpa using bM
   omega
  subst hi'
  left
  rw[List.take_length,Zbz]
  simp
  omega
termination_by SizeOf.sizeOf t
decreasing_by exact bH
theorem Zda(t:E)(m:Mem)(hr:RepE m t):CX Tryz.prog 95 #[t.v] m [] (Ret (.bool t.light)):=by
 apply ZkE
 intro b m1 aB _ b2
 refine Zai (Zfz t m1) (λv m' css h=>by obtain⟨_,rfl,_⟩:=h;rfl) ?_
 rintro g fi ca m2 aN ⟨b3,hv,eQ⟩
 obtain⟨rfl,rfl,rfl⟩:=Zcx hv
 have bJ:=mLt aB aN
 refine⟨_,Zd1 t m2 b3 eQ (RepE.mono' hr bJ),λy hy=>?_,λ_ css _ m' q=>css=[[.int .i64 q]]/\q<=10000/\q<=t.nodes.length,⟨rfl,by omega,by omega⟩,?_,?_⟩
 ·obtain⟨z,_,rfl⟩:=List.mem_map.1 hy;exact ZlD z
 ·rintro n0 v0 s0 n3 a n7 c cs m3 q aX hq ⟨cK,gJ,_⟩
  obtain rfl:cs=[.int .i64 q]:=by simpa using cK
  have aO:q < t.nodes.length:=by
   have:=(zA0 (show(List.map (λz:E=>[z.v]) t.nodes)[(q:Nat)]?=some _ from hq)).1
   simpa using this
  refine Zap rfl (Zaa rfl ?_)
  have hw:IntKind.i64.wrap (intOf (Value.int .i64 (q:Int))+1)=(q:Int)+1:=Zam (n:=(q:Int)+1) (by omega) (by omega)
  simp only[hw]
  refine Zab (λh=>⟨by trivial,Zac (mLt bJ aX) ?_⟩) (λh=>⟨by trivial,?_,?_,by omega⟩)
  ·have:((q:Int)+1 > 10000):=by simpa using h
   simp[Ret,E.light];omega
  ·simp
  ·have:¬((q:Int)+1 > 10000):=by simpa using h
   omega
 ·rintro cs m3 aX ⟨cK,gJ,_⟩
  obtain rfl:cs=[.int .i64 t.nodes.length]:=by simpa using cK
  refine Zap rfl (Zaa rfl (Zac (mLt bJ aX) ?_))
  show Value.bool (decide ((t.nodes.length:Int)<=10000))=Value.bool t.light
  congr 1
  rw[E.light,decide_eq_decide];omega
theorem Zv8(t:E)(m:Mem)(hr:RepE m t):CX Tryz.prog 107 #[t.v] m [] (Ret (.int .i64 t.size)):=by
 apply ZmK
 intro b m1 aB _ b2
 refine Zah (Zda t m1 (RepE.mono' hr aB)) λm2 aN=>Zab (λhl=>?_) (λh=>Zac (mLt aB aN) (by simp[Ret,E.size,h]))
 have qp:t.nodes.length<=10000:=zA6 hl
 refine Zai (Zfz t m2) (λv m' css h=>by obtain⟨_,rfl,_⟩:=h;rfl) ?_
 rintro g fi ca m3 aX ⟨b3,hv,eQ⟩
 obtain⟨rfl,rfl,rfl⟩:=Zcx hv
 have bJ:=mLt aB (mLt aN aX)
 refine⟨_,Zd1 t m3 b3 eQ (RepE.mono' hr bJ),λy hy=>?_,λ_ css _ m' q=>css=[[.int .i64 q]]/\q<=t.nodes.length,⟨rfl,by omega⟩,?_,?_⟩
 ·obtain⟨z,_,rfl⟩:=List.mem_map.1 hy;exact ZlD z
 ·rintro n0 v0 s0 n3 a n7 c cs m4 q bI hq ⟨cK,_⟩
  obtain rfl:cs=[.int .i64 q]:=by simpa using cK
  have aO:q < t.nodes.length:=by
   have:=(zA0 (show(List.map (λz:E=>[z.v]) t.nodes)[(q:Nat)]?=some _ from hq)).1
   simpa using this
  have hw:IntKind.i64.wrap (intOf (Value.int .i64 (q:Int))+1)=(q:Int)+1:=Zam (n:=(q:Int)+1) (by omega) (by omega)
  refine Zap rfl (Zaa rfl ?_)
  simp only[hw]
  exact⟨by trivial,by simp,by omega⟩
 ·rintro cs m4 bI ⟨cK,gJ⟩
  obtain rfl:cs=[.int .i64 t.nodes.length]:=by simpa using cK
  refine Zap rfl (Zac (mLt bJ bI) ?_)
  simp[Ret,E.size,hl]
theorem ZzL(T:TypeId)(x y:Nat):BinIs Tryz.prog .eql T (.float .f64 x) (.float .f64 y) (.bool (Op.floatEq .f64 x y)):=λox oy w=>by
 simp[eqGuard,binOp,Op.floatCmp,Op.floatEq]
theorem Zx6(T:TypeId)(x y:Nat):BinIs Tryz.prog .neq T (.float .f64 x) (.float .f64 y) (.bool (!Op.floatEq .f64 x y)):=λox oy w=>by
 simp[eqGuard,binOp,Op.floatCmp,Op.floatEq,bne]
theorem Zpf(x:Nat):ZnJ Tryz.prog 120 [.float .f64 x] (.int .u64 x):=λw=>by
 rw[run_callFunc_extern Tryz.func120 (by kernel_rfl) (by kernel_rfl) (by kernel_rfl) (e:=Go.Extern.MathFloatBits.float64bits) (by kernel_rfl)]
 rfl
theorem Zr2(n:Nat):ZnJ Tryz.prog 124 [.int .u64 n] (.float .f64 n):=λw=>by
 rw[run_callFunc_extern Tryz.func124 (by kernel_rfl) (by kernel_rfl) (by kernel_rfl) (e:=Go.Extern.MathFloatBits.float64frombits) (by kernel_rfl)]
 rfl
theorem ZzM(m:Mem):CX Tryz.prog 142 #[] m [] (Ret (.float .f64 ZxJ)):=by
 apply ZkF
 exact⟨_,Zr2 ZxJ,Zac (Mem.le_refl _) rfl⟩
theorem Zr3(x:Nat)(m:Mem):CX Tryz.prog 121 #[.float .f64 x] m [] (Ret (.float .f64 (Zgg x))):=by
 apply Zhv
 refine⟨_,Zx6 _ x x,Zab (λh=>?_) (λh=>Zac (Mem.le_refl _) ?_)⟩
 ·refine Zai (ZzM m) (s:=.any) (λ_ _ _ _=>rfl) ?_
  intro v m1 aB hv
  have h':Op.floatEq .f64 x x=false:=by simpa using h
  refine Zac aB ?_
  show v=_
  rw[show v=_ from hv];unfold Zgg;rw[h'];rfl
 ·have h':Op.floatEq .f64 x x=true:=by simpa using h
  show Value.float .f64 x=_
  unfold Zgg;rw[h'];rfl
theorem Zpg(x:Nat)(m:Mem):CX Tryz.prog 177 #[.float .f64 x] m [] (Ret (.bool (Zfg x))):=by
 apply Zhw
 refine⟨Zfg x,⟨_,ZzL _ x x,Zab (λh=>?_) (λh=>⟨_,Zpf x,Zaa rfl ?_⟩)⟩,Zac (Mem.le_refl _) rfl⟩
 ·unfold Zfg;rw[h];rfl
 ·unfold Zfg;rw[h,Bool.false_or]
  exact Zaf (show decide ((x:Int)=9221120237041090561)=decide (x=ZxJ) from decide_eq_decide.2 (by unfold ZxJ;omega))
theorem Zr4(x y:Nat)(m:Mem):CX Tryz.prog 90 #[.float .f64 x,.float .f64 y] m [] (Ret (.bool (Zs9 x y))):=by
 apply ZiO
 refine Zai (Zr3 x m) (s:=.any) (λ_ _ _ _=>rfl) ?_
 intro v m1 aB hv
 refine⟨.int .u64 (Zgg x),by rw[show v=_ from hv];exact Zpf _,?_⟩
 refine Zai (Zr3 y m1) (s:=.any) (λ_ _ _ _=>rfl) ?_
 intro u m2 aN hu
 refine⟨.int .u64 (Zgg y),by rw[show u=_ from hu];exact Zpf _,Zaa rfl (Zac (mLt aB aN) ?_)⟩
 show Value.bool _=_
 congr 1
 exact show decide ((Zgg x:Int)=Zgg y)=decide (Zgg x=Zgg y) from decide_eq_decide.2 (by omega)
def ZfA(l:List ByteArray):List Value:=l.map λs=>.string s
theorem ZcJ{m:Mem}{a:Option Addr}{l:List ByteArray}(h:rowRd m a (ZfA l)){k:Nat}{s:ByteArray}(hk:l[k]?=some s):∃b o,a=some ⟨b,o,none⟩/\m b (o+k*1)=some (.string s):=by
 rcases h with h|⟨b,o,ha,h⟩
 ·have:l=[]:=by simpa[ZfA]using h
  rw[this]at hk;simp at hk
 ·exact⟨b,o,ha,by rw[Nat.mul_one];exact h k _ (by rw[ZfA,List.getElem?_map,hk];rfl)⟩
theorem ZtI(l:List ByteArray)(a:Option Addr)(c:Nat)(s:ByteArray)(m:Mem)(hl:l.length<=1000000000000000)(hr:rowRd m a (ZfA l)):
  CX Tryz.prog 190 #[.slice a l.length c,.string s] m [] (Ret (.int .i64 (if l.any (λy=>eqS s y)then(l.findIdx (λy=>eqS s y):Nat)else(-1:Int)))):=by
 apply Zcb
 refine⟨λxs _ _ m'' q=>∃i:Nat,i<=l.length/\xs=[.int .i64 i]/\(∀x∈l.take i,eqS s x=false)/\q=l.length - i,⟨l.length,0,by omega,rfl,by simp,by omega⟩,?_⟩
 rintro n m' q hm ⟨i,hi,hn,fQ,hq⟩
 obtain rfl:n=i:=by simpa using hn
 refine Zab (λaO=>?_) (λbM=>?_)
 ·have aW:i < l.length:=by simpa using aO
  obtain⟨x,hx⟩:∃x,l[i]?=some x:=⟨_,zA3 aW⟩
  have bP:x∈l:=zA2 hx
  obtain⟨b1,o1,ha,eA⟩:=ZcJ (hr.mono hm) hx
  refine⟨b1,o1,ha,⟨by omega,by omega⟩,_,eA,Zaa rfl (Zab (λfO=>?_) (λfO=>?_))⟩
  ·refine Zac hm ?_
   have eR:l.any (λy=>eqS s y)=true:=List.any_eq_true.2 ⟨x,bP,fO⟩
   have gk:l.findIdx (λy=>eqS s y)=i:=by
    rw[List.findIdx_eq aW]
    refine⟨by rw[(zA0 hx).2];exact fO,λj hj=>?_⟩
    exact fQ _ (List.mem_of_getElem? (i:=j) (by rw[List.getElem?_take_of_lt hj];exact zA3 (by omega)))
   simp[Ret,eR,gk]
  ·refine⟨l.length - (i+1),by omega,i+1,by omega,by rw[Zam (by omega) (by omega)];rfl,?_,rfl⟩
   intro y hy
   rw[List.take_add_one,hx]at hy
   rcases List.mem_append.1 hy with hy|hy
   ·exact fQ y hy
   ·simp at hy;rw[hy];exact fO
 ·have hi':i=l.length:=by
   have:¬((i:Int) < (l.length:Int)):=by simpa using bM
   omega
  subst hi'
  refine Zac hm ?_
  have eR:l.any (λy=>eqS s y)=false:=by
   rw[List.any_eq_false]
   rw[List.take_length]at fQ
   exact λx hx=>by simp[fQ x hx]
  simp[Ret,eR]
theorem ZhD(l:List ByteArray)(a:Option Addr)(c:Nat)(s:ByteArray)(m:Mem)(hl:l.length<=1000000000000000)(hr:rowRd m a (ZfA l)):
  CX Tryz.prog 175 #[.slice a l.length c,.string s] m [] (Ret (.bool (l.any λy=>eqS s y))):=by
 apply ZbI
 refine Zax (ZtI l a c s m hl hr) λm' hm=>Zac hm ?_
 cases h:l.any (λy=>eqS s y) <;> simp[Ret]
theorem ZkL(l:List ByteArray)(a:Option Addr)(c:Nat)(g:Nat)(ca:List Value)(p:ByteArray->Bool)(m:Mem)(hl:l.length<=1000000000000000)(hr:rowRd m a (ZfA l))
  (hp:∀x∈l,∀m',m.le m'->CX Tryz.prog g (.string x::ca).toArray m' [] (Ret (.bool (p x)))):
  CX Tryz.prog 200 #[.slice a l.length c,.func (.func g) #[] ca.toArray] m [] (Ret (.int .i64 (if l.any p then(l.findIdx p:Nat)else(-1:Int)))):=by
 apply ZbC a l.length c g [] ca
 refine⟨λxs _ _ m'' q=>∃i:Nat,i<=l.length/\xs=[.int .i64 i]/\(∀x∈l.take i,p x=false)/\q=l.length - i,⟨l.length,0,by omega,rfl,by simp,by omega⟩,?_⟩
 rintro n m' q hm ⟨i,hi,hn,fQ,hq⟩
 obtain rfl:n=i:=by simpa using hn
 refine Zab (λaO=>?_) (λbM=>?_)
 ·have aW:i < l.length:=by simpa using aO
  obtain⟨x,hx⟩:∃x,l[i]?=some x:=⟨_,zA3 aW⟩
  have bP:x∈l:=zA2 hx
  obtain⟨b1,o1,ha,eA⟩:=ZcJ (hr.mono hm) hx
  refine⟨b1,o1,ha,⟨by omega,by omega⟩,_,eA,Zah (hp x bP m' hm) λm1 aB=>Zab (λfO=>?_) (λfO=>?_)⟩
  ·refine Zac (mLt hm aB) ?_
   have eR:l.any p=true:=List.any_eq_true.2 ⟨x,bP,fO⟩
   have gk:l.findIdx p=i:=by
    rw[List.findIdx_eq aW]
    refine⟨by rw[(zA0 hx).2];exact fO,λj hj=>?_⟩
    exact fQ _ (List.mem_of_getElem? (i:=j) (by rw[List.getElem?_take_of_lt hj];exact zA3 (by omega)))
   simp[Ret,eR,gk]
  ·refine⟨l.length - (i+1),by omega,i+1,by omega,by rw[Zam (by omega) (by omega)];rfl,?_,rfl⟩
   intro y hy
   rw[List.take_add_one,hx]at hy
   rcases List.mem_append.1 hy with hy|hy
   ·exact fQ y hy
   ·simp at hy;rw[hy];exact fO
 ·have hi':i=l.length:=by
   have:¬((i:Int) < (l.length:Int)):=by simpa using bM
   omega
  subst hi'
  refine Zac hm ?_
  have eR:l.any p=false:=by
   rw[List.any_eq_false]
   rw[List.take_length]at fQ
   exact λx hx=>by simp[fQ x hx]
  simp[Ret,eR]
theorem Zgu(l:List ByteArray)(a:Option Addr)(c:Nat)(g:Nat)(ca:List Value)(p:ByteArray->Bool)(m:Mem)(hl:l.length<=1000000000000000)(hr:rowRd m a (ZfA l))
  (hp:∀x∈l,∀m',m.le m'->CX Tryz.prog g (.string x::ca).toArray m' [] (Ret (.bool (p x)))):
  CX Tryz.prog 186 #[.slice a l.length c,.func (.func g) #[] ca.toArray] m [] (Ret (.bool (l.any p))):=by
 apply Zbi a l.length c g [] ca
 refine Zax (ZkL l a c g ca p m hl hr hp) λm' hm=>Zac hm ?_
 cases h:l.any p <;> simp[Ret]
def ZtJ(l:List UInt8):List Value:=(List.range 256).map λi=>.bool (l.any λc=>c.toNat == i)
theorem Zia(l:List UInt8):(ZtJ l).length=256:=by rw[ZtJ,List.length_map,List.length_range]
theorem Zf6(l:List UInt8){i:Nat}(h:i < 256):(ZtJ l)[i]?=some (.bool (l.any λc=>c.toNat == i)):=by
 rw[ZtJ,List.getElem?_map,List.getElem?_range h];rfl
theorem Zph(l:List UInt8):Zdq (ZtJ l)=true:=by
 have:∀L:List Nat,Zdq (L.map λi=>Value.bool (l.any λc=>c.toNat == i))=true:=λL=>by
  induction L with
  | nil=>rfl
  | cons x L ih=>rw[List.map_cons];simp only[Zdq,ih];rfl
 exact this _
theorem ZtK(l:List UInt8)(c:UInt8):ZaC (ZtJ l) (0+c.toNat*1) [.bool true]=ZtJ (l++[c]):=by
 have hc:c.toNat < 256:=c.toNat_lt
 apply List.ext_getElem?
 intro i
 have hl:=Zia l
 unfold ZaC
 rw[Nat.zero_add,Nat.mul_one,List.append_assoc]
 rcases Nat.lt_trichotomy i c.toNat with h|h|h
 ·rw[zA5 (by rw[List.length_take];omega),List.getElem?_take_of_lt h,Zf6 l (by omega),Zf6 _ (by omega),List.any_append]
  have:(c.toNat == i)=false:=by simp;omega
  simp[this]
 ·subst h
  have e:(List.take c.toNat (ZtJ l)).length=c.toNat:=by rw[List.length_take];omega
  rw[zA4 (by omega),e,Nat.sub_self,Zf6 _ hc,List.any_append]
  simp
 ·have e:(List.take c.toNat (ZtJ l)).length=c.toNat:=by rw[List.length_take];omega
  rw[zA4 (by omega),e,zA4 (by simp;omega),List.getElem?_drop]
  rw[show c.toNat + [Value.bool true].length+(i - c.toNat - [Value.bool true].length)=i by simp;omega]
  rcases Nat.lt_or_ge i 256 with h2|h2
  ·rw[Zf6 l h2,Zf6 _ h2,List.any_append]
   have:(c.toNat == i)=false:=by simp;omega
   simp[this]
  ·rw[List.getElem?_eq_none (by omega),List.getElem?_eq_none (by rw[Zia];exact h2)]
theorem ZhE{s:ByteArray}{n:Nat}{c:UInt8}(h:s.data.toList[n]?=some c):ZgI s n=(c.toNat:Int):=by
 unfold ZgI
 rw[List.getD_eq_getElem?_getD,h];rfl
theorem ZcG{α:Type}{l:List α}{n:Nat}(h:n < l.length):∃c,l[n]?=some c:=⟨_,zA3 h⟩
theorem Zv9(s:ByteArray)(hs:s.size<=1000000000000000)(h:∀c∈s.data.toList,c.toNat < 128)(m:Mem):CX Tryz.prog 193 #[.string s] m [] (Ret (.tuple #[.agg (ZtJ s.data.toList).toArray,.bool true])):=by
 apply Zc8
 intro b
 have hl:=Zeh s
 refine⟨λxs css _ m' q=>∃k:Nat,k<=s.size/\xs=[.int .i64 k]/\css=[ZtJ (s.data.toList.take k)]/\q=s.size - k,⟨_,0,by omega,rfl,by rw[List.take_zero];rfl,rfl⟩,?_⟩
 rintro n cs m1 q aB ⟨k,hk,hx,cK,hq⟩
 obtain rfl:n=k:=by simpa using hx
 obtain rfl:cs=ZtJ (s.data.toList.take k):=by simpa using cK
 subst hq
 refine Zab (λaO=>?_) (λbM=>?_)
 ·have aW:k < s.size:=by have:=zA6 aO;omega
  obtain⟨c,hc⟩:=ZcG (l:=s.data.toList) (n:=k) (by omega)
  have vL:=h c (zA2 hc)
  have hw:IntKind.i64.wrap ((k:Int)+1)=((k+1:Nat):Int):=by rw[Zam (by omega) (by omega)];rfl
  simp only[hw,zA8,ZhE hc]
  refine⟨⟨by omega,by omega⟩,Zab (λh=>absurd (zA6 h) (by omega)) (λ_=>⟨⟨by omega,by omega⟩,Zaa (by rw[Nat.ble_eq,Zia];omega) ⟨by trivial,s.size - (k+1),by omega,k+1,by omega,rfl,?_,rfl⟩⟩)⟩
  rw[ZtK,List.take_add_one,hc];rfl
 ·have hk':k=s.size:=by have:=of_decide_eq_false bM;omega
  subst hk'
  rw[<-hl,List.take_length]
  exact Zaa (by rw[Zia,Zph];rfl) (Zac aB rfl)
def ZAv(p:UInt8->Bool)(s:ByteArray):Value->Mem->List (List Value)->Prop:=λv _ _=>∃z:ByteArray,v=.string z/\z.size<=s.size/\s.data.toList.all p=z.data.toList.all p/\(z.size=0\/z.data.toList.all p=false)
theorem Zju(l:List UInt8)(c:UInt8)(b:Nat)(m:Mem)(hb:m.reads b 0 (ZtJ l)):CX Tryz.prog 202 #[.pointer (some ⟨b,0,none⟩),.int .u8 c.toNat] m [] (Ret (.bool (l.any λx=>x.toNat == c.toNat))):=by
 apply Zci
 have hc:c.toNat < 256:=c.toNat_lt
 refine⟨⟨by omega,by omega⟩,_,?_,Zac (Mem.le_refl m) rfl⟩
 rw[zA8,Nat.mul_one,Nat.add_comm]
 have:=hb c.toNat _ (Zf6 l hc)
 rw[Nat.zero_add]at this;exact this
theorem Zx7(z:ByteArray){c:UInt8}{r:List UInt8}(h:z.data.toList=c::r):(z.extract 1 z.size).data.toList=r:=by
 rw[ByteArray.data_extract,Array.toList_extract,h]
 have:z.size=r.length+1:=by rw[<-Zeh,h];rfl
 simp[this]
theorem Zwa(z:ByteArray){c:UInt8}{r:List UInt8}(h:z.data.toList=r++[c]):(z.extract 0 (z.size - 1)).data.toList=r:=by
 rw[ByteArray.data_extract,Array.toList_extract,h]
 have:z.size=r.length+1:=by rw[<-Zeh,h];simp
 simp[this]
theorem Zwb(l:List UInt8)(s:ByteArray)(hs:s.size<=1000000000000000)(b:Nat)(m:Mem)(hb:m.reads b 0 (ZtJ l)):CX Tryz.prog 194 #[.string s,.pointer (some ⟨b,0,none⟩)] m [] (ZAv (λc=>l.any λx=>x.toNat == c.toNat) s):=by
 apply ZcU
 refine⟨λxs _ _ m' q=>∃z:ByteArray,xs=[.string z]/\z.size<=s.size/\s.data.toList.all (λc=>l.any λx=>x.toNat == c.toNat)=z.data.toList.all (λc=>l.any λx=>x.toNat == c.toNat)/\q=z.size,⟨_,s,rfl,Nat.le_refl _,rfl,rfl⟩,?_⟩
 rintro z m1 q aB ⟨z',hx,bH,bU,hq⟩
 obtain rfl:z=z':=by simpa using hx
 subst hq
 have hl:=Zeh z
 refine Zab (λaO=>?_) (λbM=>?_)
 ·have h0:0 < z.size:=by have:=zA6 aO;omega
  cases hz:z.data.toList with
  | nil=>rw[hz]at hl;simp at hl;omega
  | cons c r=>
   have he:=Zx7 z hz
   have hr:(z.extract 1 z.size).size=z.size - 1:=by rw[<-Zeh,he,<-hl,hz];simp
   have hc:ZgI z (Int.toNat 0)=(c.toNat:Int):=ZhE (by rw[hz];rfl)
   rw[hc]
   refine⟨⟨by omega,by omega⟩,Zah (Zju l c b m1 (hb.mono aB)) λm2 aN=>Zab (λh=>?_) (λh=>?_)⟩
   ·refine Zac (mLt aB aN) ⟨z,rfl,bH,bU,.inr ?_⟩
    have h':(l.any λx=>x.toNat == c.toNat)=false:=by simpa using h
    rw[hz,List.all_cons,h'];rfl
   ·have h':(l.any λx=>x.toNat == c.toNat)=true:=by simpa using h
    refine⟨⟨by omega,by omega⟩,z.size - 1,by omega,_,rfl,?_,?_,?_⟩
    ·show(z.extract 1 z.size).size<=_
     omega
    ·rw[bU,hz,List.all_cons,h',Bool.true_and]
     show _=(z.extract 1 z.size).data.toList.all _
     rw[he]
    ·show _=(z.extract 1 z.size).size
     omega
 ·have h0:z.size=0:=by have:=of_decide_eq_false bM;omega
  exact Zac aB ⟨z,rfl,bH,bU,.inl h0⟩
theorem Zwc(l:List UInt8)(s:ByteArray)(hs:s.size<=1000000000000000)(b:Nat)(m:Mem)(hb:m.reads b 0 (ZtJ l)):CX Tryz.prog 195 #[.string s,.pointer (some ⟨b,0,none⟩)] m [] (ZAv (λc=>l.any λx=>x.toNat == c.toNat) s):=by
 apply ZcF
 refine⟨λxs _ _ m' q=>∃z:ByteArray,xs=[.string z]/\z.size<=s.size/\s.data.toList.all (λc=>l.any λx=>x.toNat == c.toNat)=z.data.toList.all (λc=>l.any λx=>x.toNat == c.toNat)/\q=z.size,⟨_,s,rfl,Nat.le_refl _,rfl,rfl⟩,?_⟩
 rintro z m1 q aB ⟨z',hx,bH,bU,hq⟩
 obtain rfl:z=z':=by simpa using hx
 subst hq
 have hl:=Zeh z
 refine Zab (λaO=>?_) (λbM=>?_)
 ·have h0:0 < z.size:=by have:=zA6 aO;omega
  have hw:IntKind.i64.wrap ((z.size:Int) - 1)=((z.size - 1:Nat):Int):=by rw[Zam (by omega) (by omega)];omega
  obtain⟨r,c,hz⟩:∃r c,z.data.toList=r++[c]:=by
   rcases List.eq_nil_or_concat z.data.toList with h|⟨r,c,h⟩
   ·rw[h]at hl;simp at hl;omega
   ·exact⟨r,c,by simpa using h⟩
  have he:=Zwa z hz
  have hr:(z.extract 0 (z.size - 1)).size=z.size - 1:=by rw[<-Zeh,he,<-hl,hz];simp
  have hc:ZgI z (z.size - 1)=(c.toNat:Int):=ZhE (by rw[hz,zA4 (by rw[<-hl,hz];simp),<-hl,hz];simp)
  simp only[hw,zA8,hc]
  refine⟨⟨by omega,by omega⟩,Zah (Zju l c b m1 (hb.mono aB)) λm2 aN=>Zab (λh=>?_) (λh=>?_)⟩
  ·refine Zac (mLt aB aN) ⟨z,rfl,bH,bU,.inr ?_⟩
   have h':(l.any λx=>x.toNat == c.toNat)=false:=by simpa using h
   rw[hz,List.all_append,List.all_cons,h'];simp
  ·have h':(l.any λx=>x.toNat == c.toNat)=true:=by simpa using h
   refine⟨⟨by omega,by omega⟩,z.size - 1,by omega,_,rfl,by omega,?_,by omega⟩
   rw[bU,hz,List.all_append,List.all_cons,h',he];simp
 ·have h0:z.size=0:=by have:=of_decide_eq_false bM;omega
  exact Zac aB ⟨z,rfl,bH,bU,.inl h0⟩
def ZcH:ByteArray:=⟨#[97,98,99,100,101,102,103,104,105,106,107,108,109,110,111,112,113,114,115,116,117,118,119,120,121,122,48,49,50,51,52,53,54,55,56,57,95]⟩
theorem ZtL(c:UInt8):(ZcH.data.toList.any λx=>x.toNat == c.toNat)=Zw1 c:=by
 have:∀n:Nat,n < 256->(ZcH.data.toList.any λx=>x.toNat == n)=((decide (97<=n)&&decide (n<=122))||(decide (48<=n)&&decide (n<=57))||n == 95):=by decide +kernel
 exact this c.toNat c.toNat_lt
def ZBa(s:ByteArray):Value->Mem->List (List Value)->Prop:=λv _ _=>∃z:ByteArray,v=.string z/\(z.size == 0)=s.data.toList.all Zw1
theorem Zx8(s:ByteArray)(hs:s.size<=1000000000000000)(m:Mem):CX Tryz.prog 176 #[.string s,.string ZcH] m [] (ZBa s):=by
 apply Zhx
 have e0:(ZcH.toList == ByteArray.toList ⟨#[]⟩)=false:=by rw[Zcf];rfl
 refine⟨s.size == 0,Zab (λh=>by rw[Zcf]at h;rw[h]) (λh=>by rw[Zcf]at h;rw[h,e0]),?_⟩
 refine Zab (λh=>?_) (λh=>?_)
 ·refine Zac (Mem.le_refl m) ⟨s,rfl,?_⟩
  rw[h]
  have:s.data.toList=[]:=List.eq_nil_of_length_eq_zero (by rw[Zeh];simpa using h)
  rw[this];rfl
 refine⟨false,ZdK (by decide) rfl,ZdK rfl ?_⟩
 refine Zai (Zv9 ZcH (by decide) (by decide) m) (λv _ _ e=>by rw[show v=_ from e];rfl) ?_
 intro cs b m1 aB hv
 have hv:Value.tuple (Array.mk [Value.agg (Array.mk cs),Value.bool b])=Value.tuple #[.agg (ZtJ ZcH.data.toList).toArray,.bool true]:=hv
 simp only[Value.tuple.injEq,Value.agg.injEq,Array.mk.injEq,List.cons.injEq,Value.bool.injEq,and_true]at hv
 obtain⟨rfl,rfl⟩:=hv
 intro b1
 refine Zaa (by rw[Zia,Zph];rfl) (ZpX rfl λm2 aN cC=>?_)
 refine Zai (Zwc ZcH.data.toList s hs b1 m2 cC) (λv _ _ ⟨_,e,_⟩=>by rw[e];rfl) ?_
 rintro z m3 aX ⟨z1,hz,xy,mg,xz⟩
 obtain rfl:z=z1:=by simpa using hz
 refine Zai (Zwb ZcH.data.toList z (by omega) b1 m3 (cC.mono aX)) (λv _ _ ⟨_,e,_⟩=>by rw[e];rfl) ?_
 rintro y m4 bI ⟨y1,hy,xA,nW,tP⟩
 obtain rfl:y=y1:=by simpa using hy
 refine Zac (mLt aB (mLt aN (mLt aX bI))) ⟨y,rfl,?_⟩
 have hp:(λc:UInt8=>ZcH.data.toList.any λx=>x.toNat == c.toNat)=Zw1:=funext ZtL
 rw[hp]at mg nW tP
 rw[mg,nW]
 rcases tP with h0|h0
 ·have:y.data.toList=[]:=List.eq_nil_of_length_eq_zero (by rw[Zeh];exact h0)
  rw[this,h0];rfl
 ·rw[h0]
  have:¬y.size=0:=λe=>by
   have:y.data.toList=[]:=List.eq_nil_of_length_eq_zero (by rw[Zeh];exact e)
   rw[this]at h0;simp at h0
  simpa using this
theorem ZhF(s:ByteArray)(hs:s.size<=1000000000000000)(m:Mem):CX Tryz.prog 146 #[.string s] m [] (Ret (.bool (Zcq s))):=by
 apply ZiQ
 refine Zab (λh=>Zac (Mem.le_refl m) ?_) (λh=>?_)
 ·rw[Zcf]at h;simp[Ret,Zcq,h]
 rw[Zcf]at h
 have vM:¬s.size=0:=by simpa using h
 have iN:0 < s.size:=by omega
 obtain⟨c,hc⟩:=ZcG (l:=s.data.toList) (n:=0) (by rw[Zeh];exact iN)
 have hD:s.data.toList.getD 0 0=c:=by rw[List.getD_eq_getElem?_getD,hc];rfl
 rw[show Int.toNat 0=0 from rfl,ZhE hc]
 refine Zab (λh1=>Zac (Mem.le_refl m) ?_) (λh1=>⟨⟨by omega,by omega⟩,Zab (λh2=>Zac (Mem.le_refl m) ?_) (λh2=>⟨⟨by omega,by omega⟩,Zab (λh3=>Zac (Mem.le_refl m) ?_) (λh3 b hf=>?_)⟩)⟩)
 ·have:s.size > 16:=by have:=zA6 h1;omega
  show Value.bool false=_
  unfold Zcq;rw[h,decide_eq_true this];rfl
 ·have:c.toNat < 97:=by have:=zA6 h2;omega
  show Value.bool false=_
  unfold Zcq;rw[hD,decide_eq_true this];simp
 ·have:c.toNat > 122:=by have:=zA6 h3;omega
  show Value.bool false=_
  unfold Zcq;rw[hD,decide_eq_true this];simp
 have g1:¬s.size > 16:=by have:=of_decide_eq_false h1;omega
 have g2:¬c.toNat < 97:=by have:=of_decide_eq_false h2;omega
 have g3:¬c.toNat > 122:=by have:=of_decide_eq_false h3;omega
 have hN:Zcq s=(!(Zms.any λw=>eqS w s)&&s.data.toList.all Zw1):=by
  unfold Zcq;rw[h,decide_eq_false g1,hD,decide_eq_false g2,decide_eq_false g3];rfl
 have hE:(Zms.any λy=>eqS s y)=Zms.any λw=>eqS w s:=by
  congr 1;funext w;unfold eqS;exact Bool.beq_comm
 have bJ:=Mem.le_add hf (ZfA Zms)
 refine Zah (ZhD Zms (some ⟨b,0,none⟩) 3 s (m.add b (ZfA Zms)) (by decide) (.inr ⟨b,0,rfl,λj v hj=>by rw[Nat.zero_add,Mem.add_same];exact hj⟩)) λm1 aB=>Zab (λh4=>Zac (mLt bJ aB) ?_) (λh4=>?_)
 ·rw[hE]at h4
  show Value.bool false=_
  rw[hN,h4];rfl
 rw[hE]at h4
 refine Zai (Zx8 s hs m1) (λv _ _ ⟨_,e,_⟩=>by rw[e];rfl) ?_
 rintro z m2 aN ⟨z',hz,mg⟩
 obtain rfl:z=z':=by simpa using hz
 refine Zac (mLt bJ (mLt aB aN)) ?_
 show Value.bool _=_
 rw[Zcf,hN,h4,mg];rfl
theorem Zx9(k:Int)(m:Mem):CX Tryz.prog 97 #[.int .u8 k] m [] (Ret (.int .i64 (ZlJ k))):=by
 apply ZmM
 refine Zab (λh=>Zac (Mem.le_refl m) ?_) (λh=>⟨decide (k ≥ 2)&&decide (k<=7),Zab (λh2=>by rw[h2];rfl) (λh2=>by rw[h2];rfl),Zab (λh2=>Zac (Mem.le_refl m) ?_) (λh2=>Zac (Mem.le_refl m) ?_)⟩)
 all_goals
  show Value.int _ _=Value.int _ _
  congr 1
  unfold ZlJ
 ·have:k=1:=by simpa using h
  rw[if_pos this]
 ·have h1:¬k=1:=by simpa using h
  simp only[zA7,decide_eq_true_eq]at h2
  rw[if_neg h1,if_pos (by omega)]
 ·have h1:¬k=1:=by simpa using h
  simp only[Bool.and_eq_false_iff,decide_eq_false_iff_not]at h2
  rw[if_neg h1,if_neg (by omega)]
theorem ZtM(t:E)(m:Mem)(hr:RepE m t):CX Tryz.prog 184 #[t.v] m [] (Ret (.bool t.right)):=by
 have bY:=Zrx hr
 have ni:=ZeE hr
 apply ZkI
 intro b m1 aB _
 have tail:∀(M0:Mem)(name number capture neg:Bool),t.right=(decide (t.k<=10)&&(name&&(number&&(capture&&((t.subs.length:Int) == ZlJ t.k&&!neg)))))->m.le M0->
   ∃f:Fx,br (decide (t.k<=10)) (br name (br number (br capture (∃R_3:RT,R_3=f 18 [.int .u8 t.k] M0/\CX Tryz.prog 97 #[.int .u8 t.k] M0 [] R_3/\Za1 (.int .i64) R_3/\∀(n:Int)(m':Mem),M0.le m'->R_3 (.int .i64 n) m' []->br ((t.subs.length:Int) == n) (∀M:Mem,M0.le M->m'.le M->∃m'':Mem,m.le m''/\m''.le M/\Ret (.bool t.right) (.bool !neg) m'' []) (∀M:Mem,M0.le M->m'.le M->∃m'':Mem,m.le m''/\m''.le M/\Ret (.bool t.right) (.bool false) m'' []))
    (∀M:Mem,M0.le M->M0.le M->∃m'':Mem,m.le m''/\m''.le M/\Ret (.bool t.right) (.bool false) m'' [])) (∀M:Mem,M0.le M->M0.le M->∃m'':Mem,m.le m''/\m''.le M/\Ret (.bool t.right) (.bool false) m'' [])) (∀M:Mem,M0.le M->M0.le M->∃m'':Mem,m.le m''/\m''.le M/\Ret (.bool t.right) (.bool false) m'' []))
    (∀M:Mem,M0.le M->M0.le M->∃m'':Mem,m.le m''/\m''.le M/\Ret (.bool t.right) (.bool false) m'' []):=λM0 name number capture neg he vN=>by
  have fin:∀{x:Bool} {M:Mem},t.right=x->M0.le M->∃m'':Mem,m.le m''/\m''.le M/\Ret (.bool t.right) (.bool x) m'' []:=λ{x M} h hM=>Zac (mLt vN hM) (by show Value.bool x=Value.bool t.right;rw[h])
  refine⟨λ_ _ _=>Ret (.int .i64 (ZlJ t.k)),Zab (λh1=>Zab (λh2=>Zab (λh3=>Zab (λh4=>⟨_,rfl,Zx9 t.k M0,λv _ _ e=>by rw[show v=_ from e];rfl,λn m' hm' hn=>?_⟩) (λh4 M hM _=>fin ?_ hM)) (λh3 M hM _=>fin ?_ hM)) (λh2 M hM _=>fin ?_ hM)) (λh1 M hM _=>fin ?_ hM)⟩
  ·obtain rfl:n=ZlJ t.k:=by cases hn;rfl
   refine Zab (λh5 M hM _=>fin ?_ hM) (λh5 M hM _=>fin ?_ hM)
   ·rw[he,h1,h2,h3,h4,h5];rfl
   ·rw[he,h5];simp
  ·simp[he,h4]
  ·simp[he,h3]
  ·simp[he,h2]
  ·rw[he,h1];simp
 refine⟨λ_ _ _=>Ret (.bool (Zs9 t.x 0)),_,rfl,Zr4 t.x 0 m1,λv _ _ e=>by rw[show v=_ from e];rfl,λb1 m2 aN cG M i7 gD=>?_⟩
 obtain rfl:b1=Zs9 t.x 0:=by cases cG;rfl
 have hM:=mLt aB i7
 refine Zab (λh8=>?_) (λh8=>Zab (λh9=>?_) (λh9=>Zab (λgI=>?_) (λgI=>Zab (λh0=>?_) (λh0=>?_))))
 ·have hk:t.k=8:=by simpa using h8
  refine Zah (Zpg t.x M) λm3 aX=>⟨false,ZdK (by rw[hk];rfl) ⟨by trivial,rfl⟩,tail m3 _ _ _ _ ?_ (mLt hM aX)⟩
  unfold E.right;rw[Zcf];simp[hk]
 ·have hk:t.k=9:=by simpa using h9
  refine Zah (ZhF t.s bY.s M) λm3 aX=>⟨false,ZdK (by rw[hk];rfl) ⟨by trivial,rfl⟩,tail m3 _ _ _ _ ?_ (mLt hM aX)⟩
  unfold E.right;simp[hk]
 ·have hk:t.k=10:=by simpa using gI
  refine⟨decide (t.g ≥ 0)&&decide (t.g<=9),Zab (λh=>⟨by trivial,by rw[h];rfl⟩) (λh=>⟨by trivial,by rw[h];rfl⟩),false,ZdK (by rw[hk];rfl) ⟨by trivial,rfl⟩,tail M _ _ _ _ ?_ hM⟩
  unfold E.right;rw[Zcf];simp[hk]
 ·refine Zac hM ?_
  show Value.bool false=Value.bool t.right
  unfold E.right;rw[h0];rfl
 ·have e8:¬t.k=8:=by simpa using h8
  have e9:¬t.k=9:=by simpa using h9
  have e10:¬t.k=10:=by simpa using gI
  refine⟨t.k == 1&&(t.subs.length == 1&&Zj4 t.subs),?_,tail M _ _ _ _ ?_ hM⟩
  ·refine Zab (λh1=>Zab (λh2=>?_) (λh2=>⟨by trivial,?_⟩)) (λh1=>⟨by trivial,by rw[h1];rfl⟩)
   ·have aZ:t.subs.length=1:=by
     have:=zA6 (show decide ((t.subs.length:Int)=1)=true from h2)
     omega
    cases hs:t.subs with
    | nil=>rw[hs]at aZ;simp at aZ
    | cons u r=>
     rcases ni.2 with h|⟨bb,o,ha,fK⟩
     ·rw[h]at aZ;simp at aZ
     ·rw[hs]at fK
      have h3:=((fK.mono' hM).get (i:=0) (t:=u) rfl).1 0 _ rfl
      rw[Nat.zero_mul]at h3
      refine⟨bb,o,ha,⟨by omega,by simp⟩,_,h3,Zaa rfl ⟨by trivial,?_⟩⟩
      rw[h1]
      have:(u::r).length=1:=by rw[<-hs];exact aZ
      rw[this];rfl
   ·have:(t.subs.length == 1)=false:=by
     have h:=of_decide_eq_false (show decide ((t.subs.length:Int)=1)=false from h2)
     exact decide_eq_false (by omega)
    rw[this];simp
  ·unfold E.right;rw[Zcf,h0];simp[e8,e9,e10]
theorem Zpi(t:E)(m:Mem)(hr:RepE m t):CX Tryz.prog 163 #[t.v] m [] (Ret (.bool t.clean)):=by
 apply ZkJ
 intro b m1 aB _ b2
 refine Zah (Zda t m1 (RepE.mono' hr aB)) λm2 aN=>Zab (λh=>Zac (mLt aB aN) ?_) (λh=>?_)
 ·have:t.light=false:=by simpa using h
  simp[Ret,E.clean,this]
 have hl:t.light=true:=by simpa using h
 refine Zai (Zfz t m2) (λv m' css h=>by obtain⟨_,rfl,_⟩:=h;rfl) ?_
 rintro g fi ca m3 aX ⟨b3,hv,eQ⟩
 obtain⟨rfl,rfl,rfl⟩:=Zcx hv
 have bJ:=mLt aB (mLt aN aX)
 refine⟨_,Zd1 t m3 b3 eQ (RepE.mono' hr bJ),λy hy=>?_,λ_ css _ m' q=>m3.le m'/\∀x∈t.nodes.take q,x.right=true,⟨Mem.le_refl _,by simp⟩,?_,?_⟩
 ·obtain⟨z,_,rfl⟩:=List.mem_map.1 hy;exact ZlD z
 ·rintro n0 v0 s0 n3 a n7 c cs m4 q bI hq ⟨_,gJ⟩ b4
  have hq':(List.map (λz:E=>[z.v]) t.nodes)[(q:Nat)]?=some [Value.agg #[.int .u8 n0,v0,.string s0,.int .i64 n3,.slice a n7 c]]:=hq
  rw[List.getElem?_map]at hq'
  obtain⟨z,hz,i6⟩:=Option.map_eq_some_iff.1 hq'
  have kD:z.v=Value.agg #[.int .u8 n0,v0,.string s0,.int .i64 n3,.slice a n7 c]:=by simpa using i6
  have rR:RepE m4 z:=RepE.mono' (ZlF (RepE.mono' hr bJ) (zA2 hz)) bI
  have gm:=ZtM z m4 rR
  rw[kD]at gm
  have ly:v0=.float .f64 z.x:=by
   simp only[E.v,Value.agg.injEq,Array.mk.injEq,List.cons.injEq]at kD
   exact kD.2.1.symm
  refine Zaa (by rw[ly];rfl) ?_
  refine Zah gm λm5 cP=>Zab (λh=>⟨by trivial,Zac (mLt bJ (mLt bI cP)) ?_⟩) (λh=>⟨by trivial,mLt bI cP,λx hx=>?_⟩)
  ·have oC:z.right=false:=by simpa using h
   have:t.nodes.all E.right=false:=by
    rw[List.all_eq_false];exact⟨z,zA2 hz,by simp[oC]⟩
   simp[Ret,E.clean,this]
  ·rw[List.take_add_one,hz]at hx
   rcases List.mem_append.1 hx with hx|hx
   ·exact gJ x hx
   ·simp at hx;rw[hx];simpa using h
 ·rintro cs m4 bI ⟨_,gJ⟩
  refine Zac (mLt bJ bI) ?_
  rw[List.length_map,List.take_length]at gJ
  have:t.nodes.all E.right=true:=List.all_eq_true.2 gJ
  simp[Ret,E.clean,this,hl]
theorem ZkM(l l':List E)(a a':Option Addr)(c c':Nat)(m:Mem)(hl:l.length<=1000000000000000)(hr:l=[]\/∃b o,a=some ⟨b,o,none⟩/\RepEAt m b o l)(hr':l'=[]\/∃b o,a'=some ⟨b,o,none⟩/\RepEAt m b o l')
  (hp:∀x∈l,∀y∈l',∀m',m.le m'->RepE m' x->RepE m' y->CX Tryz.prog 135 #[x.v,y.v] m' [] (Ret (.bool (x.same y)))):
  CX Tryz.prog 143 #[.slice a l.length c,.slice a' l'.length c',.func (.func 135) #[] #[]] m [] (Ret (.bool (ZcB l l'))):=by
 apply ZaA a l.length c a' l'.length c' _ [] []
 refine Zab (λh=>Zac (Mem.le_refl _) ?_) (λh=>?_)
 ·have:¬l.length=l'.length:=by
   intro e;rw[e]at h;simp at h
  show Value.bool false=_
  rw[ZlG this]
 have ie:l.length=l'.length:=by
  have h2:((l.length:Int) == (l'.length:Int))=true:=by simpa using h
  have:=zA6 h2;omega
 refine⟨λxs _ _ m'' q=>∃i:Nat,i<=l.length/\xs=[.int .i64 i]/\ZcB (l.take i) (l'.take i)=true/\m.le m''/\q=l.length - i,⟨l.length,0,by omega,rfl,by simp[ZcB],Mem.le_refl _,by omega⟩,?_⟩
 rintro n m' q hm ⟨i,hi,hn,dE,bJ,hq⟩
 obtain rfl:n=i:=by simpa using hn
 refine Zab (λaO=>?_) (λbM=>?_)
 ·have aW:i < l.length:=by simpa using aO
  obtain⟨x,hx⟩:∃x,l[i]?=some x:=⟨_,zA3 aW⟩
  obtain⟨y,hy⟩:∃y,l'[i]?=some y:=⟨_,zA3 (by omega)⟩
  have lQ:x∈l:=zA2 hx
  have rS:y∈l':=zA2 hy
  rcases hr with h0|⟨b1,o1,ha,fK⟩
  ·rw[h0]at aW;simp at aW
  rcases hr' with h0|⟨b2,o2,ha',nh⟩
  ·rw[h0]at ie;simp at ie;rw[ie]at aW;simp at aW
  obtain⟨cS,dW⟩:=(fK.mono' hm).get hx
  obtain⟨gy,kE⟩:=(nh.mono' hm).get hy
  refine⟨b1,o1,ha,⟨by omega,by omega⟩,_,_,_,_,_,cS,λb3=>Zaa rfl ⟨b2,o2,ha',⟨by omega,by omega⟩,_,_,_,_,_,gy,λb4=>Zaa rfl ?_⟩⟩
  refine Zah (hp x lQ y rS m' hm dW kE) λm1 aB=>Zab (λfO=>?_) (λfO=>?_)
  ·have hf:x.same y=false:=by simpa using fO
   refine Zac (mLt hm aB) ?_
   show Value.bool false=_
   rw[Zow hx hy hf]
  ·have hf:x.same y=true:=by simpa using fO
   refine⟨l.length - (i+1),by omega,i+1,by omega,by rw[Zam (by omega) (by omega)];rfl,Zjr hx hy dE hf,mLt hm aB,rfl⟩
 ·have hi':i=l.length:=by
   have:¬((i:Int) < (l.length:Int)):=by simpa using bM
   omega
  subst hi'
  refine Zac hm ?_
  rw[List.take_length,ie,List.take_length]at dE
  show Value.bool true=_
  rw[dE]
theorem Zr5(t u:E)(m:Mem)(hr:RepE m t)(hu:RepE m u):CX Tryz.prog 135 #[t.v,u.v] m [] (Ret (.bool (t.same u))):=by
 apply ZmP
 intro b m1 aB _ b' m2 aN _
 have hm:=mLt aB aN
 refine⟨t.same u,?_,Zac hm rfl⟩
 rw[ZvN]
 refine Zab (λh1=>?_) (λh1=>⟨by trivial,Zaf (by rw[h1];rfl)⟩)
 refine Zah (Zr4 t.x u.x m2) λm3 aX=>Zab (λh2=>Zab (λh3=>Zab (λh4=>?_) (λh4=>⟨by trivial,Zaf (by rw[h1,h2,h3,h4];rfl)⟩)) (λh3=>⟨by trivial,Zaf (by rw[h1,h2,h3];rfl)⟩)) (λh2=>⟨by trivial,Zaf (by rw[h1,h2];rfl)⟩)
 have hM:=mLt hm aX
 have hr':=ZeE (RepE.mono' hr hM)
 have hu':=ZeE (RepE.mono' hu hM)
 refine Zah (ZkM t.subs u.subs t.a u.a t.c u.c m3 hr'.1 hr'.2 hu'.2 λx hx y hy m' _ cS gy=>?_) λm4 bI=>⟨by trivial,Zaf (by rw[h1,h2,h3,h4];rfl)⟩
 have bH:=ZlC hx
 exact Zr5 x y m' cS gy
termination_by SizeOf.sizeOf t
decreasing_by exact bH
theorem Zr6(t u:E)(m:Mem)(hr:RepE m t)(hu:RepE m u):CX Tryz.prog 115 #[t.v,u.v] m [] (Ret (.bool (t.light&&(u.light&&t.same u)))):=by
 apply ZmQ
 intro b m1 aB _ b' m2 aN _
 have hm:=mLt aB aN
 refine⟨t.light&&(u.light&&t.same u),?_,Zac hm rfl⟩
 refine Zah (Zda t m2 (RepE.mono' hr hm)) λm3 aX=>Zab (λh1=>?_) (λh1=>⟨by trivial,Zaf (by rw[h1];rfl)⟩)
 refine Zah (Zda u m3 (RepE.mono' hu (mLt hm aX))) λm4 bI=>Zab (λh2=>?_) (λh2=>⟨by trivial,Zaf (by rw[h1,h2];rfl)⟩)
 have cP:=mLt (mLt hm aX) bI
 exact Zah (Zr5 t u m4 (RepE.mono' hr cP) (RepE.mono' hu cP)) λm6 iR=>⟨by trivial,Zaf (by rw[h1,h2];rfl)⟩
def Zpj(l:List E):Int:=l.foldl (λn x=>if x.k=10 then(if x.g > n then x.g else n)else n) (-1)
theorem Zr7(t:E)(m:Mem)(hr:RepE m t):CX Tryz.prog 169 #[t.v] m [] (Ret (.int .i64 t.most)):=by
 apply ZmS
 intro b m1 aB _ b2
 refine Zah (Zda t m1 (RepE.mono' hr aB)) λm2 aN=>Zab (λhl=>?_) (λh=>Zac (mLt aB aN) (by simp[Ret,E.most,h]))
 refine Zai (Zfz t m2) (λv m' css h=>by obtain⟨_,rfl,_⟩:=h;rfl) ?_
 rintro g fi ca m3 aX ⟨b3,hv,eQ⟩
 obtain⟨rfl,rfl,rfl⟩:=Zcx hv
 have bJ:=mLt aB (mLt aN aX)
 refine⟨_,Zd1 t m3 b3 eQ (RepE.mono' hr bJ),λy hy=>?_,λ_ css _ m' q=>css=[[.int .i64 (Zpj (t.nodes.take q))]],rfl,?_,?_⟩
 ·obtain⟨z,_,rfl⟩:=List.mem_map.1 hy;exact ZlD z
 ·rintro n0 v0 s0 n3 a n7 c cs m4 q bI hq cK b4
  obtain rfl:cs=[.int .i64 (Zpj (t.nodes.take q))]:=by simpa using cK
  have hq':(List.map (λz:E=>[z.v]) t.nodes)[(q:Nat)]?=some [Value.agg #[.int .u8 n0,v0,.string s0,.int .i64 n3,.slice a n7 c]]:=hq
  rw[List.getElem?_map]at hq'
  obtain⟨z,hz,i6⟩:=Option.map_eq_some_iff.1 hq'
  simp only[E.v,List.cons.injEq,Value.agg.injEq,Array.mk.injEq,Value.int.injEq,Value.string.injEq,Value.slice.injEq,true_and,and_true]at i6
  obtain⟨rfl,rfl,rfl,rfl,rfl,rfl,rfl⟩:=i6
  have hs:Zpj (t.nodes.take (q+1))=if z.k=10 then(if z.g > Zpj (t.nodes.take q)then z.g else Zpj (t.nodes.take q))else Zpj (t.nodes.take q):=by
   rw[List.take_add_one,hz]
   unfold Zpj
   rw[List.foldl_append];rfl
  refine Zaa rfl (Zab (λh=>Zap rfl (Zaa rfl ⟨by trivial,?_⟩)) (λh=>⟨by trivial,?_⟩))
  ·have hk:z.k=10:=by simpa using h
   show[[_]]=[[Value.int .i64 (Zpj (t.nodes.take (q+1)))]]
   rw[hs,if_pos hk];rfl
  ·have hk:¬z.k=10:=by simpa using h
   show[[_]]=[[Value.int .i64 (Zpj (t.nodes.take (q+1)))]]
   rw[hs,if_neg hk]
 ·rintro cs m4 bI cK
  obtain rfl:cs=[.int .i64 (Zpj (t.nodes.take t.nodes.length))]:=by simpa using cK
  refine Zap rfl (Zac (mLt bJ bI) ?_)
  rw[List.take_length]
  show Value.int _ _=Value.int _ t.most
  unfold E.most;rw[hl];rfl
end Go.Proofs.YtojlhhphofhaoaaGreatDoor