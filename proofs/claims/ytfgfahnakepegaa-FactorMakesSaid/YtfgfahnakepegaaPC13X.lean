/- Part of the proof: conditions and contracts of functions of this program. No condition of its own. -/
import Derived.Test.YtfgfahnakepegaaPVA
import Derived.Test.YtfgfahnakepegaaMr
import Derived.Test.YtfgfahnakepegaaPEnv
import Derived.Test.YtfgfahnakepegaaMc
import Derived.Laws.StructEq
import Derived.Laws.Tables
import Derived.Laws.Cover2
set_option linter.unusedVariables false
set_option linter.unusedSimpArgs false
namespace Go.Proofs.Ytfgfahnakepegaa
open Go Go.Eng Go.Rx Go.Proofs Go.RowKit
set_option maxRecDepth 100000
theorem ZlZ(t:T)(m:Mem):CX Try.prog 55 #[t.v] m [] (λv m' _=>∃b,v=.func (.func 89) #[] #[.pointer (some ⟨b,0,none⟩)]/\m'.reads b 0 t.cs):=by
 apply Zqp
 unfold ZkV
 intro b m' hm hb
 exact⟨m',hm,Mem.le_refl _,b,rfl,hb⟩
theorem Ziy(t:T)(m:Mem)(c0b:Nat)(bC:m.reads c0b 0 t.cs)(iV:Rep m t):IX Try.prog 89 [] [.pointer (some ⟨c0b,0,none⟩)] m (t.nodes.map λx=>[x.v]):=by
 apply ZlY 0 [] [] c0b 0
 unfold Zg9
 intro l b m' hm hb
 have mR:=bC.mono hm
 refine⟨_,_,_,_,_,_,_,_,mR,⟨rfl,by omega,?_⟩,?_,.inr rfl⟩
 ·rw[Zbv];rfl
 refine⟨t.sl,mR 7 _ rfl,Zaa rfl ?_⟩
 refine⟨λxs _ _ m'' q=>∃i:Nat,i<=t.subs.length/\xs=[.int .i64 ((1+(Zar (t.subs.take i)).length:Nat):Int),.int .i64 i]/\m'.le m''/\q=t.subs.length - i,⟨t.subs.length,0,by omega,?_,Mem.le_refl _,by omega⟩,?_⟩
 ·simp[Zar]
 rintro y n m2 q aP ⟨i,hi,bB,kW,hq⟩
 simp only[List.cons.injEq,Value.int.injEq,true_and,and_true]at bB
 obtain⟨rfl,rfl⟩:=bB
 have aU:slN t.sl=t.subs.length:=rfl
 rw[aU]
 refine Zab (λaS=>?_) (λbR=>?_)
 ·have aQ:i < t.subs.length:=by simpa using aS
  obtain⟨x,hx⟩:∃x,t.subs[i]?=some x:=⟨_,List.getElem?_eq_getElem aQ⟩
  have bQ:x∈t.subs:=List.mem_of_getElem? hx
  have bA:=Zdk bQ
  obtain⟨uM,h0|⟨b1,o1,ha,bP⟩⟩:=ZgZ iV
  ·rw[h0]at aQ;simp at aQ
  obtain⟨cW,iD⟩:=(bP.mono ((mLt hm kW))).get hx
  refine Zaa rfl ⟨b1,o1,ha,⟨by omega,by omega⟩,_,_,_,_,_,_,_,_,cW,λb2=>Zaa rfl ?_⟩
  refine⟨_,trivial,ZlZ x m2,λv m' css h=>?_,?_⟩
  ·obtain⟨b3,rfl,_⟩:=h;rfl
  rintro g fi ca m3 aX ⟨b3,hv,gO⟩
  obtain⟨rfl,rfl,rfl⟩:=ZeE hv
  refine⟨_,Ziy x m3 b3 gO (iD.mono aX),λy hy=>?_,?_⟩
  ·obtain⟨z,_,rfl⟩:=List.mem_map.1 hy;exact Zrz z
  refine⟨λxs _ _ m'' q=>q<=x.nodes.length/\xs=[.int .i64 ((1+(Zar (t.subs.take i)).length+q:Nat):Int)]/\m3.le m'',⟨Nat.zero_le _,rfl,Mem.le_refl _⟩,?_,?_⟩
  ·rintro y n0 n1 n2 n3 n4 n5 n6 a n7 c m4 q bK hq ⟨kA,hy,_⟩ b4
   simp only[List.cons.injEq,Value.int.injEq,true_and,and_true]at hy
   subst hy
   have hq':(List.map (λz:T=>[z.v]) x.nodes)[(q:Nat)]?=some [Value.agg #[.int .u8 n0,.int .u64 n1,.int .u64 n2,.int .u64 n3,.int .u64 n4,.int .i64 n5,.int .i64 n6,.slice a n7 c]]:=hq
   rw[List.getElem?_map]at hq'
   obtain⟨z,hz,uN⟩:=Option.map_eq_some_iff.1 hq'
   have AH:q < x.nodes.length:=(List.getElem?_eq_some_iff.1 hz).1
   refine⟨⟨rfl,by omega,?_⟩,⟨rfl,by omega,?_,bK⟩,rfl,.inr rfl⟩
   ·rw[Int.toNat_natCast]
    show(t.nodes.map λx=>[x.v])[1+(Zar (t.subs.take i)).length+q]?=_
    rw[List.getElem?_map,Zwm hx hz,<-uN];rfl
   ·congr 2
  ·rintro y m4 bK ⟨kA,hy,_⟩
   simp only[List.cons.injEq,Value.int.injEq,true_and,and_true]at hy
   subst hy
   refine⟨rfl,t.subs.length - (i+1),by omega,i+1,by omega,?_,mLt kW (mLt aX bK),rfl⟩
   rw[ZaA (by omega) (by omega),ZkL hx,List.length_append]
   simp[T.v,Nat.add_assoc]
 ·have hi':i=t.subs.length:=by
   have:¬((i:Int) < (t.subs.length:Int)):=by simpa using bR
   omega
  subst hi'
  left
  rw[List.take_length,Zbv]
  simp
  omega
termination_by SizeOf.sizeOf t
decreasing_by exact bA
theorem Zqw(least most:Int)(m:Mem):CX Try.prog 91 #[.int .i64 least,.int .i64 most] m [] (Ret (.bool (Zcc least most))):=by
 apply Zog
 unfold Zix
 refine⟨decide (least < 0)||decide (least > 16)||(least == 1&&most == 1),?_,Zab (λh=>Zaj (Mem.le_refl _) ?_) (λh=>⟨most == -1||(decide (most ≥ 1)&&decide (most<=16)&&decide (most ≥ least)),?_,Zaj (Mem.le_refl _) ?_⟩)⟩
 ·simp only[Zup];(repeat' split) <;> simp_all <;> omega
 ·simp[Ret,Zcc,h]
 ·simp only[Zup];(repeat' split) <;> simp_all <;> omega
 ·simp[Ret,Zcc,h]
theorem Ziz(l:List T)(a:Option Addr)(c:Nat)(g:Nat)(ca:List Value)(p:T->Bool)(m:Mem)(hl:l.length<=1000000000000000)(hr:l=[]\/∃b o,a=some ⟨b,o,none⟩/\RepAt m b o l)
  (hp:∀x∈l,∀m',m.le m'->Rep m' x->CX Try.prog g (x.v::ca).toArray m' [] (Ret (.bool (p x)))):
  CX Try.prog 87 #[.slice a l.length c,.func (.func g) #[] ca.toArray] m [] (Ret (.int .i64 (if l.any p then(l.findIdx p:Nat)else(-1:Int)))):=by
 apply ZbQ a l.length c g [] ca
 unfold Za8
 refine⟨λxs _ _ m'' q=>∃i:Nat,i<=l.length/\xs=[.int .i64 i]/\(∀x∈l.take i,p x=false)/\m.le m''/\q=l.length - i,⟨l.length,0,by omega,rfl,by simp,Mem.le_refl _,by omega⟩,?_⟩
 rintro n m' q hm ⟨i,hi,hn,dR,bE,hq⟩
 obtain rfl:n=i:=by simpa using hn
 refine Zab (λaS=>?_) (λbR=>?_)
 ·have aQ:i < l.length:=by simpa using aS
  obtain⟨x,hx⟩:∃x,l[i]?=some x:=⟨_,List.getElem?_eq_getElem aQ⟩
  have bQ:x∈l:=List.mem_of_getElem? hx
  rcases hr with h0|⟨b1,o1,ha,bP⟩
  ·rw[h0]at aQ;simp at aQ
  obtain⟨cW,iD⟩:=(bP.mono hm).get hx
  refine⟨b1,o1,ha,⟨by omega,by omega⟩,_,_,_,_,_,_,_,_,cW,Zak (hp x bQ m' hm iD) λm1 aO=>Zab (λnR=>?_) (λnR=>?_)⟩
  ·refine Zaj (mLt hm aO) ?_
   have eM:l.any p=true:=List.any_eq_true.2 ⟨x,bQ,nR⟩
   have rN:l.findIdx p=i:=by
    rw[List.findIdx_eq aQ]
    refine⟨by rw[(List.getElem?_eq_some_iff.1 hx).2];exact nR,λj hj=>?_⟩
    exact dR _ (List.mem_of_getElem? (i:=j) (by rw[List.getElem?_take_of_lt hj];exact List.getElem?_eq_getElem (by omega)))
   simp[Ret,eM,rN]
  ·refine⟨l.length - (i+1),by omega,i+1,by omega,by rw[ZaA (by omega) (by omega)];rfl,?_,mLt hm aO,rfl⟩
   intro y hy
   rw[List.take_add_one,hx]at hy
   rcases List.mem_append.1 hy with hy|hy
   ·exact dR y hy
   ·simp at hy;rw[hy];exact nR
 ·have hi':i=l.length:=by
   have:¬((i:Int) < (l.length:Int)):=by simpa using bR
   omega
  subst hi'
  refine Zaj hm ?_
  have eM:l.any p=false:=by
   rw[List.any_eq_false]
   rw[List.take_length]at dR
   exact λx hx=>by simp[dR x hx]
  simp[Ret,eM]
theorem ZiA(l:List T)(a:Option Addr)(c:Nat)(g:Nat)(ca:List Value)(p:T->Bool)(m:Mem)(hl:l.length<=1000000000000000)(hr:l=[]\/∃b o,a=some ⟨b,o,none⟩/\RepAt m b o l)
  (hp:∀x∈l,∀m',m.le m'->Rep m' x->CX Try.prog g (x.v::ca).toArray m' [] (Ret (.bool (p x)))):
  CX Try.prog 110 #[.slice a l.length c,.func (.func g) #[] ca.toArray] m [] (Ret (.bool (l.any p))):=by
 apply Zbx a l.length c g [] ca
 unfold Za4
 refine Zc4 (Ziz l a c g ca p m hl hr hp) λm' hm=>Zaj hm ?_
 cases h:l.any p <;> simp[Ret]
theorem Zyp(t:T)(k:Int)(b:Nat)(m:Mem)(hb:m.reads b 0 [.int .u8 k]):CX Try.prog 111 #[t.v,.pointer (some ⟨b,0,none⟩)] m [] (Ret (.bool (t.k == k))):=by
 apply Zqs (c0b:=b) (c0o:=0)
 unfold ZkX
 intro b' m' hm _
 exact⟨_,hm _ _ _ (hb 0 _ rfl),Zaa rfl (Zaj hm rfl)⟩
theorem ZuP(t:T)(k:Int)(m:Mem)(hr:Rep m t):CX Try.prog 90 #[t.v,.int .u8 k] m [] (Ret (.bool (t.has k))):=by
 apply ZuL
 unfold Zqt
 intro b m1 aO _ b2 m2 aP hU
 have hr':=ZgZ (hr.mono (mLt aO aP))
 exact Zak (ZiA t.subs t.a t.c _ [.pointer (some ⟨b2,0,none⟩)] (λx=>x.k == k) m2 hr'.1 hr'.2 λx _ m' hm' _=>Zyp x k b2 m' (hU.mono hm')) λm3 aX=>Zaj (mLt aO (mLt aP aX)) rfl
theorem ZjB(t:T)(m:Mem)(hr:Rep m t):CX Try.prog 54 #[t.v] m [] (Ret (.bool t.light)):=by
 apply Zqq
 unfold ZkW
 intro b m1 aO _ b2
 refine Zag (ZlZ t m1) (λv m' css h=>by obtain⟨_,rfl,_⟩:=h;rfl) ?_
 rintro g fi ca m2 aP ⟨b3,hv,gO⟩
 obtain⟨rfl,rfl,rfl⟩:=ZeE hv
 have bE:=mLt aO aP
 refine⟨_,Ziy t m2 b3 gO (hr.mono bE),λy hy=>?_,λ_ css _ m' q=>css=[[.int .i64 q]]/\q<=10000/\q<=t.nodes.length,⟨rfl,by omega,by omega⟩,?_,?_⟩
 ·obtain⟨z,_,rfl⟩:=List.mem_map.1 hy;exact Zrz z
 ·rintro n0 n1 n2 n3 n4 n5 n6 a n7 c cs m3 q aX hq ⟨cI,kA,_⟩
  obtain rfl:cs=[.int .i64 q]:=by simpa using cI
  have aS:q < t.nodes.length:=by
   have:=(List.getElem?_eq_some_iff.1 (show(List.map (λz:T=>[z.v]) t.nodes)[(q:Nat)]?=some _ from hq)).1
   simpa using this
  refine Zas rfl (Zaa rfl ?_)
  have hw:IntKind.i64.wrap (intOf (Value.int .i64 (q:Int))+1)=(q:Int)+1:=ZaA (n:=(q:Int)+1) (by omega) (by omega)
  simp only[hw]
  refine Zab (λh=>⟨by trivial,Zaj (mLt bE aX) ?_⟩) (λh=>⟨by trivial,?_,?_,by omega⟩)
  ·have:((q:Int)+1 > 10000):=by simpa using h
   simp[Ret,T.light];omega
  ·simp
  ·have:¬((q:Int)+1 > 10000):=by simpa using h
   omega
 ·rintro cs m3 aX ⟨cI,kA,_⟩
  obtain rfl:cs=[.int .i64 t.nodes.length]:=by simpa using cI
  refine Zas rfl (Zaa rfl (Zaj (mLt bE aX) ?_))
  show Value.bool (decide ((t.nodes.length:Int)<=10000))=Value.bool t.light
  congr 1
  rw[T.light,decide_eq_decide];omega
end Go.Proofs.Ytfgfahnakepegaa
set_option linter.unusedVariables false
set_option linter.unusedSimpArgs false
namespace Go.Proofs.Ytfgfahnakepegaa
open Go Go.Eng Go.Proofs Go.RowKit
theorem Zei{P:Program}{T:TypeId}(hg:P.eqGuardType P.depth T=false)(op:BinOp)(ox oy:Operand)(xs ys:Array Value)(w:World):(eqGuard op T ox oy (.agg xs) (.agg ys)).run P w=.ok () w:=by
 unfold eqGuard
 have h1:(P.eqGuardType P.depth T)=true->False:=λh=>by rw[hg]at h;cases h
 split
 ·simp[go_sem];exact λh=>(h1 h).elim
 ·simp[go_sem];exact λh=>(h1 h).elim
 ·simp
theorem Zr0(a b c d a' b' c' d':Int):EqIs Try.prog 24 (.agg #[.int .u64 a,.int .u64 b,.int .u64 c,.int .u64 d]) (.agg #[.int .u64 a',.int .u64 b',.int .u64 c',.int .u64 d']) (a == a'&&b == b'&&c == c'&&d == d'):=by
 refine⟨λw=>?_,λop ox oy w=>Zei (by kernel_rfl) op ox oy _ _ w⟩
 have u3:=Try.underlying22
 have a3:=Try.isAgg22
 have z3:=Try.sizeOf22
 rw[Op.equal,Op.maxDepth,show(10000:Nat)=9999+1 from rfl,Op.equalIn]
 simp only[Sem.run_bind,run_underlying Try.underlying24,Result.andThen_ok]
 simp only[Std.Legacy.Range.forIn_eq_forIn_range',Std.Legacy.Range.size,Nat.sub_zero,Nat.add_sub_cancel,Nat.div_one,List.range'_succ,List.range'_zero,List.forIn_cons,List.forIn_nil]
 go_simp
 by_cases h1:a=a' <;> by_cases h2:b=b' <;> by_cases h3:c=c' <;> by_cases h4:d=d' <;> simp[h1,h2,h3,h4]
end Go.Proofs.Ytfgfahnakepegaa
set_option linter.unusedVariables false
set_option linter.unusedSimpArgs false
namespace Go.Proofs.Ytfgfahnakepegaa
open Go Go.Eng Go.Rx Go.Proofs Go.RowKit
set_option maxRecDepth 100000
theorem ZwK(t:T)(m:Mem)(hr:Rep m t):CX Try.prog 56 #[t.v] m [] (Ret (.bool t.right)):=by
 apply Zqu
 unfold ZkY
 intro b m1 aO _
 have dK:=hr.mono aO
 refine⟨t.k != 2&&!t.setZ||(t.k != 5&&(t.mn != 0||t.mx != 0)||(decide (t.k < 3)&&decide (0 < t.subs.length))),?_,Zab (λh=>Zaj aO ?_) (λh=>?_)⟩
 ·refine Zab (λh1=>?_) (λh1=>?_)
  ·refine⟨t.setZ,Zr0 _ _ _ _ _ _ _ _,?_⟩
   simp only[Zup]
   (repeat' split) <;> simp_all <;> omega
  ·simp only[Zup]
   (repeat' split) <;> simp_all <;> omega
 ·simp[Ret,T.right,h]
 ·refine Zab (λh1=>Zaj aO ?_) (λh1=>Zab (λh2=>⟨t.setZ,Zr0 _ _ _ _ _ _ _ _,Zaj aO ?_⟩) (λh2=>Zab (λh3=>?_) (λh3=>Zab (λh4=>?_) (λh4=>Zab (λh5=>?_) (λh5=>?_)))))
  ·have:t.k=1:=by simpa using h1
   show Value.bool _=Value.bool t.right;rw[T.right,h];simp[this]
  ·have:t.k=2:=by simpa using h2
   show Value.bool _=Value.bool t.right;rw[T.right,h];simp[this]
  ·have:t.k=3:=by simpa using h3
   refine⟨decide (1 < t.subs.length)&&(!t.has 1&&!t.has 3),Zab (λh4=>?_) (λh4=>?_),Zaj aO ?_⟩
   ·refine Zak (ZuP t 1 m1 dK) λm2 aP=>Zab (λh5=>?_) (λh5=>?_)
    ·refine Zak (ZuP t 3 m2 (dK.mono aP)) λm3 aX=>⟨rfl,Zbu ?_⟩
     simp_all <;> (intros;omega)
    ·refine⟨rfl,Zbu ?_⟩
     simp_all <;> (intros;omega)
   ·refine⟨rfl,Zbu ?_⟩
    simp_all <;> (intros;omega)
   ·show Value.bool _=Value.bool t.right;rw[T.right,h];simp[this]
  ·have:t.k=4:=by simpa using h4
   refine⟨decide (1 < t.subs.length)&&!t.has 4,Zab (λh4=>?_) (λh4=>?_),Zaj aO ?_⟩
   ·refine Zak (ZuP t 4 m1 dK) λm2 aP=>⟨rfl,Zbu ?_⟩
    simp_all <;> (intros;omega)
   ·refine⟨rfl,Zbu ?_⟩
    simp_all <;> (intros;omega)
   ·show Value.bool _=Value.bool t.right;rw[T.right,h];simp[this]
  ·have:t.k=5:=by simpa using h5
   refine⟨t.subs.length == 1&&(Zcc t.mn t.mx&&!t.has 1),Zab (λh4=>?_) (λh4=>?_),Zaj aO ?_⟩
   ·refine Zak (Zqw t.mn t.mx m1) λm2 aP=>Zab (λh5=>?_) (λh5=>?_)
    ·refine Zak (ZuP t 1 m2 (dK.mono aP)) λm3 aX=>⟨rfl,Zbu ?_⟩
     have h4':((t.subs.length:Int) == 1)=true:=h4
     have:t.subs.length=1:=by have:=of_decide_eq_true h4';omega
     simp_all <;> (intros;omega)
    ·refine⟨rfl,Zbu ?_⟩
     simp_all <;> (intros;omega)
   ·refine⟨rfl,Zbu ?_⟩
    have h4':((t.subs.length:Int) == 1)=false:=h4
    have:¬t.subs.length=1:=by have:=of_decide_eq_false h4';omega
    simp_all <;> (intros;omega)
   ·show Value.bool _=Value.bool t.right;rw[T.right,h];simp[this]
  ·refine⟨t.k == 6&&t.subs.length == 1,Zab (λh4=>⟨rfl,Zbu ?_⟩) (λh4=>⟨rfl,Zbu ?_⟩),Zaj aO ?_⟩
   ·have:(t.k == 6)=true:=h4
    rw[this,Bool.true_and]
    show(decide ((t.subs.length:Int)=1))=decide (t.subs.length=1)
    rw[decide_eq_decide];omega
   ·have:(t.k == 6)=false:=h4
    simp[this]
   ·show Value.bool _=Value.bool t.right;rw[T.right,h]
    have e1:¬t.k=1:=by simpa using h1
    have e2:¬t.k=2:=by simpa using h2
    have e3:¬t.k=3:=by simpa using h3
    have e4:¬t.k=4:=by simpa using h4
    have e5:¬t.k=5:=by simpa using h5
    simp[e1,e2,e3,e4,e5]
theorem ZjC(t:T)(m:Mem)(hr:Rep m t):CX Try.prog 19 #[t.v] m [] (Ret (.bool t.clean)):=by
 apply Zqv
 unfold ZkZ
 intro b m1 aO _ b2
 refine Zak (ZjB t m1 (hr.mono aO)) λm2 aP=>Zab (λh=>Zaj (mLt aO aP) ?_) (λh=>?_)
 ·have:t.light=false:=by simpa using h
  simp[Ret,T.clean,this]
 have hl:t.light=true:=by simpa using h
 refine Zag (ZlZ t m2) (λv m' css h=>by obtain⟨_,rfl,_⟩:=h;rfl) ?_
 rintro g fi ca m3 aX ⟨b3,hv,gO⟩
 obtain⟨rfl,rfl,rfl⟩:=ZeE hv
 have bE:=mLt aO (mLt aP aX)
 refine⟨_,Ziy t m3 b3 gO (hr.mono bE),λy hy=>?_,λ_ css _ m' q=>m3.le m'/\∀x∈t.nodes.take q,x.right=true,⟨Mem.le_refl _,by simp⟩,?_,?_⟩
 ·obtain⟨z,_,rfl⟩:=List.mem_map.1 hy;exact Zrz z
 ·rintro n0 n1 n2 n3 n4 n5 n6 a n7 c cs m4 q bK hq ⟨_,kA⟩ b4
  have hq':(List.map (λz:T=>[z.v]) t.nodes)[(q:Nat)]?=some [Value.agg #[.int .u8 n0,.int .u64 n1,.int .u64 n2,.int .u64 n3,.int .u64 n4,.int .i64 n5,.int .i64 n6,.slice a n7 c]]:=hq
  rw[List.getElem?_map]at hq'
  obtain⟨z,hz,uN⟩:=Option.map_eq_some_iff.1 hq'
  have uO:z.v=Value.agg #[.int .u8 n0,.int .u64 n1,.int .u64 n2,.int .u64 n3,.int .u64 n4,.int .i64 n5,.int .i64 n6,.slice a n7 c]:=by simpa using uN
  have yD:Rep m4 z:=(Zlz (hr.mono bE) (List.mem_of_getElem? hz)).mono bK
  have gW:=ZwK z m4 yD
  rw[uO]at gW
  refine Zak gW λm5 cU=>Zab (λh=>⟨rfl,Zaj (mLt bE (mLt bK cU)) ?_⟩) (λh=>⟨rfl,mLt bK cU,λx hx=>?_⟩)
  ·have t7:z.right=false:=by simpa using h
   have:t.nodes.all T.right=false:=by
    rw[List.all_eq_false];exact⟨z,List.mem_of_getElem? hz,by simp[t7]⟩
   simp[Ret,T.clean,this]
  ·rw[List.take_add_one,hz]at hx
   rcases List.mem_append.1 hx with hx|hx
   ·exact kA x hx
   ·simp at hx;rw[hx];simpa using h
 ·rintro cs m4 bK ⟨_,kA⟩
  refine Zaj (mLt bE bK) ?_
  rw[List.length_map,List.take_length]at kA
  have:t.nodes.all T.right=true:=List.all_eq_true.2 kA
  simp[Ret,T.clean,this,hl]
theorem ZnA(t:T)(m:Mem)(hr:Rep m t):CX Try.prog 27 #[t.v] m [] (Ret (.int .i64 t.size)):=by
 apply ZrX
 unfold Znx
 intro b m1 aO _
 refine Zak (ZjB t m1 (hr.mono aO)) λm2 aP=>Zab (λh=>Zaj (mLt aO aP) ?_) (λh=>?_)
 ·have:t.light=false:=by simpa using h
  simp[Ret,T.size,this]
 have hl:t.light=true:=by simpa using h
 have uP:t.nodes.length<=10000:=of_decide_eq_true hl
 intro b2
 refine Zag (ZlZ t m2) (λv m' css h=>by obtain⟨_,rfl,_⟩:=h;rfl) ?_
 rintro g fi ca m3 aX ⟨b3,hv,gO⟩
 obtain⟨rfl,rfl,rfl⟩:=ZeE hv
 have bE:=mLt aO (mLt aP aX)
 refine⟨_,Ziy t m3 b3 gO (hr.mono bE),λy hy=>?_,λ_ css _ m' q=>css=[[.int .i64 q]]/\q<=t.nodes.length,⟨rfl,by omega⟩,?_,?_⟩
 ·obtain⟨z,_,rfl⟩:=List.mem_map.1 hy;exact Zrz z
 ·rintro n0 n1 n2 n3 n4 n5 n6 a n7 c cs m4 q bK hq ⟨cI,_⟩
  obtain rfl:cs=[.int .i64 q]:=by simpa using cI
  have aS:q < t.nodes.length:=by
   have:=(List.getElem?_eq_some_iff.1 (show(List.map (λz:T=>[z.v]) t.nodes)[(q:Nat)]?=some _ from hq)).1
   simpa using this
  have hw:IntKind.i64.wrap (intOf (Value.int .i64 (q:Int))+1)=(q:Int)+1:=ZaA (n:=(q:Int)+1) (by omega) (by omega)
  refine Zas rfl (Zaa rfl ?_)
  simp only[hw]
  exact⟨by trivial,by simp,by omega⟩
 ·rintro cs m4 bK ⟨cI,kA⟩
  obtain rfl:cs=[.int .i64 t.nodes.length]:=by simpa using cI
  refine Zas rfl (Zaj (mLt bE bK) ?_)
  simp[Ret,T.size,hl]
theorem Zoh(l l':List T)(a a':Option Addr)(c c':Nat)(m:Mem)(hl:l.length<=1000000000000000)(hr:l=[]\/∃b o,a=some ⟨b,o,none⟩/\RepAt m b o l)(hr':l'=[]\/∃b o,a'=some ⟨b,o,none⟩/\RepAt m b o l')
  (hp:∀x∈l,∀y∈l',∀m',m.le m'->Rep m' x->Rep m' y->CX Try.prog 57 #[x.v,y.v] m' [] (Ret (.bool (x.same y)))):
  CX Try.prog 92 #[.slice a l.length c,.slice a' l'.length c',.func (.func 57) #[] #[]] m [] (Ret (.bool (ZdR l l'))):=by
 apply ZaZ a l.length c a' l'.length c' _ [] []
 unfold ZaE
 refine Zab (λh=>Zaj (Mem.le_refl _) ?_) (λh=>?_)
 ·have:¬l.length=l'.length:=by
   intro e;rw[e]at h;simp at h
  show Value.bool false=_
  rw[ZlA this]
 have gE:l.length=l'.length:=by
  have h2:((l.length:Int) == (l'.length:Int))=true:=by simpa using h
  have:=of_decide_eq_true h2;omega
 refine⟨λxs _ _ m'' q=>∃i:Nat,i<=l.length/\xs=[.int .i64 i]/\ZdR (l.take i) (l'.take i)=true/\m.le m''/\q=l.length - i,⟨l.length,0,by omega,rfl,by simp[ZdR],Mem.le_refl _,by omega⟩,?_⟩
 rintro n m' q hm ⟨i,hi,hn,dD,bE,hq⟩
 obtain rfl:n=i:=by simpa using hn
 refine Zab (λaS=>?_) (λbR=>?_)
 ·have aQ:i < l.length:=by simpa using aS
  obtain⟨x,hx⟩:∃x,l[i]?=some x:=⟨_,List.getElem?_eq_getElem aQ⟩
  obtain⟨y,hy⟩:∃y,l'[i]?=some y:=⟨_,List.getElem?_eq_getElem (by omega)⟩
  have lS:x∈l:=List.mem_of_getElem? hx
  have yE:y∈l':=List.mem_of_getElem? hy
  rcases hr with h0|⟨b1,o1,ha,bP⟩
  ·rw[h0]at aQ;simp at aQ
  rcases hr' with h0|⟨b2,o2,ha',pF⟩
  ·rw[h0]at gE;simp at gE;rw[gE]at aQ;simp at aQ
  obtain⟨cW,iD⟩:=(bP.mono hm).get hx
  obtain⟨oF,rO⟩:=(pF.mono hm).get hy
  refine⟨b1,o1,ha,⟨by omega,by omega⟩,_,_,_,_,_,_,_,_,cW,λb3=>Zaa rfl ⟨b2,o2,ha',⟨by omega,by omega⟩,_,_,_,_,_,_,_,_,oF,λb4=>Zaa rfl ?_⟩⟩
  refine Zak (hp x lS y yE m' hm iD rO) λm1 aO=>Zab (λnR=>?_) (λnR=>?_)
  ·have hf:x.same y=false:=by simpa using nR
   refine Zaj (mLt hm aO) ?_
   show Value.bool false=_
   rw[ZoW hx hy hf]
  ·have hf:x.same y=true:=by simpa using nR
   refine⟨l.length - (i+1),by omega,i+1,by omega,by rw[ZaA (by omega) (by omega)];rfl,Zjp hx hy dD hf trivial,mLt hm aO,rfl⟩
 ·have hi':i=l.length:=by
   have:¬((i:Int) < (l.length:Int)):=by simpa using bR
   omega
  subst hi'
  refine Zaj hm ?_
  rw[List.take_length,gE,List.take_length]at dD
  show Value.bool true=_
  rw[dD]
theorem Ztq(t u:T)(m:Mem)(hr:Rep m t)(hu:Rep m u):CX Try.prog 57 #[t.v,u.v] m [] (Ret (.bool (t.same u))):=by
 apply ZrY
 unfold Zny
 intro b m1 aO _ b' m2 aP _
 have hm:=mLt aO aP
 refine⟨t.same u,?_,Zaj hm rfl⟩
 rw[ZvD]
 refine Zab (λh1=>⟨_,Zr0 _ _ _ _ _ _ _ _,Zab (λh2=>Zab (λh3=>Zab (λh4=>?_) (λh4=>⟨rfl,Zbu ?_⟩)) (λh3=>⟨rfl,Zbu ?_⟩)) (λh2=>⟨rfl,Zbu ?_⟩)⟩) (λh1=>⟨rfl,Zbu ?_⟩)
 ·have hr':=ZgZ (hr.mono hm)
  have hu':=ZgZ (hu.mono hm)
  refine Zak (Zoh t.subs u.subs t.a u.a t.c u.c m2 hr'.1 hr'.2 hu'.2 λx hx y hy m' _ cW oF=>?_) λm3 aX=>⟨rfl,Zbu ?_⟩
  ·have bA:=Zdk hx
   exact Ztq x y m' cW oF
  ·rw[h1,h2,h3,h4];rfl
 ·rw[h1,h2,h3,h4];rfl
 ·rw[h1,h2,h3];rfl
 ·rw[h1,h2];rfl
 ·rw[h1];rfl
termination_by SizeOf.sizeOf t
decreasing_by exact bA
theorem Zyq(t u:T)(m:Mem)(hr:Rep m t)(hu:Rep m u):CX Try.prog 20 #[t.v,u.v] m [] (Ret (.bool (t.light&&(u.light&&t.same u)))):=by
 apply ZrZ
 unfold Znz
 intro b m1 aO _ b' m2 aP _
 have hm:=mLt aO aP
 refine⟨t.light&&(u.light&&t.same u),?_,Zaj hm rfl⟩
 refine Zak (ZjB t m2 (hr.mono hm)) λm3 aX=>Zab (λh1=>?_) (λh1=>⟨rfl,Zbu ?_⟩)
 ·refine Zak (ZjB u m3 (hu.mono (mLt hm aX))) λm4 bK=>Zab (λh2=>?_) (λh2=>?_)
  ·have cU:=mLt (mLt hm aX) bK
   refine Zak (Ztq t u m4 (hr.mono cU) (hu.mono cU)) λm6 dU=>⟨rfl,Zbu ?_⟩
   rw[h1,h2];rfl
  ·refine⟨rfl,Zbu ?_⟩
   rw[h1,h2];rfl
 ·rw[h1];rfl
end Go.Proofs.Ytfgfahnakepegaa
set_option linter.unusedVariables false
set_option linter.unusedSimpArgs false
set_option linter.unusedSectionVars false
namespace Go.Proofs.Ytfgfahnakepegaa
open Go Go.Eng Go.Rx Go.Proofs Go.RowKit
theorem ZvM{b:Bool}{p q:Prop}(h:b=true)(k:p):br b p q:=by subst h;exact k
theorem ZnB{b:Bool}{p q:Prop}(h:b=false)(k:q):br b p q:=by subst h;exact k
theorem Zb2{α:Type}{l:List α}{k:Nat}(h:k < l.length):∃x,l[k]?=some x:=⟨l[k],List.getElem?_eq_getElem h⟩
theorem Zqx(t:T):Rx.ZcA [t]=t.cs:=by simp[Rx.ZcA]
theorem ZcH{m:Mem}{a:Option Addr}{ts:List T}(h:rowRd m a (Rx.ZcA ts)){i:Nat}{t:T}(hi:ts[i]?=some t):∃b o,a=some ⟨b,o,none⟩/\m.reads b (o+i*8) t.cs:=by
 rcases h with h|⟨b,o,ha,h⟩
 ·have hl:(Rx.ZcA ts).length=0:=by rw[h];rfl
  rw[ZaJ]at hl
  have:=(List.getElem?_eq_some_iff.1 hi).1
  omega
 ·refine⟨b,o,ha,λj v hj=>?_⟩
  rw[Nat.add_assoc]
  refine h (i*8+j) v ?_
  have e:ts=ts.take i++(t::ts.drop (i+1)):=by
   have aS:=(List.getElem?_eq_some_iff.1 hi).1
   have h2:=List.drop_eq_getElem_cons aS
   rw[(List.getElem?_eq_some_iff.1 hi).2]at h2
   rw[<-h2,List.take_append_drop]
  have aS:=(List.getElem?_eq_some_iff.1 hi).1
  have yF:=(List.getElem?_eq_some_iff.1 hj).1
  rw[e,Zcl,List.getElem?_append_right (by rw[ZaJ,List.length_take,Nat.min_eq_left (by omega)];omega),ZaJ,List.length_take,Nat.min_eq_left (by omega),show i*8+j - i*8=j by omega]
  have e2:Rx.ZcA (t::ts.drop (i+1))=t.cs++Rx.ZcA (ts.drop (i+1)):=by simp[Rx.ZcA]
  rw[e2,List.getElem?_append_left yF];exact hj
def Zxq(mb M0:Mem)(φ:T->Prop):Value->Mem->List (List Value)->Prop:=λv M' css=>∃m0,mb.le m0/\m0.le M'/\(∀b o u,M0 b o=some u->∀o',m0 b o'=mb b o')/\Zdx φ v m0 css
theorem Zyr{mb M0:Mem}{φ:T->Prop}{m:Mem}{K:TRK}(k:∀(t:T)(m0 m':Mem),m.le m'->mb.le m0->m0.le m'->(∀b o u,M0 b o=some u->∀o',m0 b o'=mb b o')->Rep m0 t->φ t->K t.k t.s0 t.s1 t.s2 t.s3 t.mn t.mx t.a t.subs.length t.c m'):
  ∀(n0 n1 n2 n3 n4 n5 n6:Int)(a:Option Addr)(n c:Nat)(m':Mem),m.le m'->Zxq mb M0 φ (.agg #[.int .u8 n0,.int .u64 n1,.int .u64 n2,.int .u64 n3,.int .u64 n4,.int .i64 n5,.int .i64 n6,.slice a n c]) m' []->K n0 n1 n2 n3 n4 n5 n6 a n c m':=by
 rintro n0 n1 n2 n3 n4 n5 n6 a n c m' hm ⟨m0,h1,h2,h3,t,hv,hr,hp⟩
 simp only[T.v,Value.agg.injEq,Array.mk.injEq,List.cons.injEq,Value.int.injEq,Value.slice.injEq,true_and,and_true]at hv
 obtain⟨rfl,rfl,rfl,rfl,rfl,rfl,rfl,rfl,rfl,rfl⟩:=hv
 exact k t m0 m' hm h1 h2 h3 hr hp
theorem Zr1{mb M0:Mem}{φ:T->Prop}:∀(v:Value)(m':Mem) (css:List (List Value)),Zxq mb M0 φ v m' css->Shape.fits (.agg [.int .u8,.int .u64,.int .u64,.int .u64,.int .u64,.int .i64,.int .i64,.slice]) v=true:=λv _ _ ⟨_,_,_,_,t,e,_⟩=>by rw[e];rfl
def Apart(mb:Mem)(a:Option Addr):Prop:=a=none\/∃b,a=some ⟨b,0,none⟩/\mb.free b
theorem Apart.tok{mb M:Mem}{a a':Option Addr}{n c:Nat}(h:Apart mb a)(hm:mb.le M)(ht:TokFact M a a' n c):Apart mb a':=by
 rcases ht.2 with h1|⟨b,o,h1,h2⟩
 ·exact .inl h1
 rcases h2 with h2|⟨h3,h2⟩
 ·rw[<-h2];exact h
 ·subst h3
  refine .inr ⟨b,h1,λo=>?_⟩
  cases hb:mb b o with
  | none=>rfl
  | some v=>have:=hm _ _ _ hb;rw[h2 o]at this;cases this
theorem ZwL{m:Mem}{a:Option Addr}{ts r:List T}(h:rowRd m a (Rx.ZcA (ts++r))):rowRd m a (Rx.ZcA ts):=by
 rw[Zcl]at h
 rcases h with h|⟨b,o,ha,h⟩
 ·exact .inl (List.append_eq_nil_iff.1 h).1
 ·refine .inr ⟨b,o,ha,λj v hj=>h j v ?_⟩
  rw[List.getElem?_append_left (List.getElem?_eq_some_iff.1 hj).1];exact hj
theorem Apart.base{mb m:Mem}{a:Option Addr}{ts:List T}(h:Apart mb a)(aR:rowRd m a (Rx.ZcA ts))(hn:ts≠[]):∃b,a=some ⟨b,0,none⟩/\mb.free b/\∃o u,m b o=some u:=by
 obtain⟨t,r,rfl⟩:∃t r,ts=t::r:=by cases ts with
  | nil=>exact absurd rfl hn
  | cons t r=>exact⟨t,r,rfl⟩
 obtain⟨b',o,ha,bC⟩:=ZcH aR (i:=0) (t:=t) rfl
 rcases h with h|⟨b,hb,hf⟩
 ·rw[h]at ha;cases ha
 ·rw[hb]at ha;cases ha
  exact⟨b',hb,hf,_,_,bC 0 (.int .u8 t.k) rfl⟩
end Go.Proofs.Ytfgfahnakepegaa
set_option linter.unusedVariables false
set_option linter.unusedSimpArgs false
set_option linter.unusedSectionVars false
namespace Go.Proofs.Ytfgfahnakepegaa
open Go Go.Eng Go.Rx Go.Proofs Go.RowKit
set_option maxRecDepth 100000
def Zed(b:Nat):Value:=.pointer (some ⟨b,0,none⟩)
theorem ZwM{α β:Type}{ys:α->List β}{l:List α}{i:Nat}{x:α}(h:l[i]?=some x){j:Nat}{v:β}(hj:(ys x)[j]?=some v):(l.flatMap ys)[((l.take i).flatMap ys).length+j]?=some v:=by
 obtain⟨aS,e⟩:=List.getElem?_eq_some_iff.1 h
 have h1:l=l.take i++x::l.drop (i+1):=by
  rw[<-e,<-List.drop_eq_getElem_cons aS,List.take_append_drop]
 rw[h1,List.flatMap_append,List.getElem?_append_right (by simp[List.take_append,Nat.min_eq_left (Nat.le_of_lt aS)]),List.flatMap_cons]
 have uH:=(List.getElem?_eq_some_iff.1 hj).1
 rw[<-h1,show(List.flatMap ys (List.take i l)).length+j - (List.flatMap ys (List.take i l)).length=j by omega,List.getElem?_append_left uH]
 exact hj
theorem Zoi(l:List T)(a:Option Addr)(c:Nat)(g:Nat)(ca:List Value)(ys:T->List (List Value))(m:Mem)(lab:Nat)(hl:RepL m a l)
  (hp:∀x∈l,∀m',m.le m'->Rep m' x->CY Try.prog g (x.v::ca) m' lab (ys x) (λv=>v=.bool false) (λv=>v=.bool true)):
  CY Try.prog 87 [.slice a l.length c,.func (.func g) #[] ca.toArray] m lab (l.flatMap ys) (λv=>v=.int .i64 (-1)) (λv=>∃i:Nat,v=.int .i64 i):=by
 apply Zbw a l.length c g [] ca
 unfold Za3
 have aR:=ZaL hl
 have cA:=ZbC hl
 have aU:=hl.1
 refine⟨λxs _ _ m'' q=>∃i:Nat,i<=l.length/\xs=[.int .i64 (((l.take i).flatMap ys).length:Nat),.int .i64 i]/\q=l.length - i,⟨_,0,by omega,rfl,rfl⟩,?_⟩
 rintro y n m' q hm ⟨i,hi,bB,hq⟩
 simp only[List.cons.injEq,Value.int.injEq,true_and,and_true]at bB
 obtain⟨rfl,rfl⟩:=bB
 refine Zab (λaS=>?_) (λbR=>?_)
 ·have aQ:i < l.length:=by have:=of_decide_eq_true aS;omega
  obtain⟨x,hx⟩:=Zb2 aQ
  have bQ:=List.mem_of_getElem? hx
  obtain⟨b0,o0,eL,bC⟩:=ZcH (aR.mono hm) hx
  refine⟨b0,o0,eL,⟨by omega,by omega⟩,_,_,_,_,_,_,_,_,bC,lab,ys x,_,_,hp x bQ m' hm ((cA x bQ).mono hm),λj v hj=>⟨rfl,by omega,?_⟩,λv hv=>by rcases hv with rfl|rfl <;> rfl,λb=>⟨λhb=>?_,λhb=>?_⟩⟩
  ·rw[show(((((l.take i).flatMap ys).length:Nat):Int)+(j:Int)).toNat=((l.take i).flatMap ys).length+j by omega]
   exact ZwM hx hj
  ·cases hb
   have hw:IntKind.i64.wrap ((i:Int)+1)=((i+1:Nat):Int):=by rw[ZaA (by omega) (by omega)];rfl
   rw[hw]
   refine ZnB rfl ⟨l.length - (i+1),by omega,i+1,by omega,?_,rfl⟩
   rw[Zcd hx,List.flatMap_append,List.length_append]
   simp
  ·cases hb
   exact ZvM rfl (.inr ⟨rfl,i,rfl⟩)
 ·have:i=l.length:=by have:=of_decide_eq_false bR;omega
  subst this
  rw[List.take_length]
  exact .inl ⟨rfl,rfl⟩
theorem ZiB(l:List T)(a:Option Addr)(c:Nat)(g:Nat)(ca:List Value)(ys:T->List (List Value))(m:Mem)(lab:Nat)(hl:RepL m a l)
  (hp:∀x∈l,∀m',m.le m'->Rep m' x->CY Try.prog g (x.v::ca) m' lab (ys x) (λv=>v=.bool false) (λv=>v=.bool true)):
  CY Try.prog 110 [.slice a l.length c,.func (.func g) #[] ca.toArray] m lab (l.flatMap ys) (λv=>v=.bool false) (λv=>v=.bool true):=by
 apply Zbj a l.length c g [] ca
 unfold ZaU
 refine⟨lab,l.flatMap ys,_,_,Zoi l a c g ca ys m lab hl hp,λj v hj=>⟨rfl,by omega,?_⟩,λv hv=>?_,λn=>⟨λhn=>?_,λhn=>?_⟩⟩
 ·rw[show((0:Int)+(j:Int)).toNat=j by omega];exact hj
 ·rcases hv with rfl|⟨i,rfl⟩ <;> rfl
 ·cases hn
  exact .inl ⟨by omega,rfl⟩
 ·obtain⟨i,hi⟩:=hn
  cases hi
  exact .inr ⟨rfl,by rw[decide_eq_true (by omega)]⟩
theorem ZA4(l:List T):(l.flatMap λx=>x.alts.map λa=>[a.v])=(Zax l).map λa=>[a.v]:=by
 induction l with
 | nil=>rfl
 | cons t l ih=>rw[List.flatMap_cons,ih,Zax,List.map_append]
theorem ZvN(m:Mem)(yb wb lab:Nat)(hy:m yb 0=some (.func (.yield lab) #[] #[]))(hw:m wb 0=some (.func (.func 113) #[] #[Zed yb,Zed wb]))(t:T)(m':Mem)(hm:m.le m')(hr:Rep m' t):
  CY Try.prog 113 [t.v,Zed yb,Zed wb] m' lab (t.alts.map λa=>[a.v]) (λv=>v=.bool true) (λv=>v=.bool false):=by
 apply Zfu
 unfold ZdD
 intro b m1 aO hb
 have bE:=mLt hm aO
 have ih:∀x∈t.subs,∀m2,m1.le m2->Rep m2 x->CY Try.prog 114 (x.v::[Zed wb]) m2 lab (x.alts.map λa=>[a.v]) (λv=>v=.bool false) (λv=>v=.bool true):=by
  intro x hx m2 aP cW
  apply ZeC
  unfold ZcX
  intro b2 m3 aX hU
  refine⟨_,mLt bE (mLt aP aX) _ _ _ hw,_,[],[Zed yb,Zed wb],rfl,lab,_,_,_,ZvN m yb wb lab hy hw x m3 (mLt bE (mLt aP aX)) (cW.mono aX),λj v hj=>⟨rfl,by omega,?_⟩,λv hv=>by rcases hv with rfl|rfl <;> rfl,λb=>⟨λhb=>?_,λhb=>?_⟩⟩
  ·rw[show((0:Int)+(j:Int)).toNat=j by omega];exact hj
  ·cases hb;exact .inl ⟨by omega,rfl⟩
  ·cases hb;exact .inr ⟨rfl,rfl⟩
 have mM:=ZiB t.subs t.a t.c 114 [Zed wb] (λx=>x.alts.map λa=>[a.v]) m1 lab (hr.mono aO).subs ih
 rw[ZA4]at mM
 have iC:=Zeo t
 refine Zab (λhk=>?_) (λhk=>?_)
 ·have hk':t.k=4:=by simpa using hk
  rw[if_pos hk']at iC
  rw[iC]
  refine⟨_,bE _ _ _ hy,lab,rfl,⟨rfl,by omega,rfl⟩,⟨lab,_,_,_,mM,λj v hj=>⟨rfl,by omega,?_⟩,λv hv=>by rcases hv with rfl|rfl <;> rfl,λb=>⟨λhb=>?_,λhb=>?_⟩⟩,.inr ⟨rfl,rfl⟩⟩
  ·rw[show((0:Int)+1+(j:Int)).toNat=j+1 by omega]
   simpa using hj
  ·cases hb;exact .inl ⟨by simp;omega,rfl⟩
  ·cases hb;exact .inr ⟨rfl,rfl⟩
 ·have hk':¬t.k=4:=by simpa using hk
  rw[if_neg hk',List.nil_append]at iC
  rw[iC]
  refine⟨lab,_,_,_,mM,λj v hj=>⟨rfl,by omega,?_⟩,λv hv=>by rcases hv with rfl|rfl <;> rfl,λb=>⟨λhb=>?_,λhb=>?_⟩⟩
  ·rw[show((0:Int)+(j:Int)).toNat=j by omega];exact hj
  ·cases hb;exact .inl ⟨by omega,rfl⟩
  ·cases hb;exact .inr ⟨rfl,rfl⟩
termination_by SizeOf.sizeOf t
decreasing_by exact Zdk hx
theorem Zys(t:T)(m:Mem)(c0b:Nat)(bC:m.reads c0b 0 t.cs)(hr:Rep m t):IX Try.prog 112 [] [Zed c0b] m (t.alts.map λa=>[a.v]):=by
 apply ZhM 0 [] [] c0b 0
 unfold Zet
 intro l b m1 aO hb b2
 refine⟨_,_,_,_,_,_,_,_,λj v hj=>aO _ _ _ (bC j v hj),λm2 aP hU=>?_⟩
 refine⟨l,_,_,_,ZvN m2 b b2 l (aP _ _ _ (by have:=hb 0 _ rfl;simpa using this)) (by have:=hU 0 _ rfl;rw[Nat.zero_add]at this;exact this) t m2 (Mem.le_refl _) (hr.mono (mLt aO aP)),λj v hj=>⟨rfl,by omega,?_⟩,λv hv=>by rcases hv with rfl|rfl <;> rfl,λb=>⟨λhb=>.inl (by omega),λhb=>.inr rfl⟩⟩
 rw[show((0:Int)+(j:Int)).toNat=j by omega];exact hj
end Go.Proofs.Ytfgfahnakepegaa
set_option linter.unusedVariables false
namespace Go.Proofs.Ytfgfahnakepegaa
open Go Go.Eng Go.Proofs Go.RowKit
open Go.Value (int slice agg bool string tuple func)
open Go.IntKind (u8 u64 i64)
set_option maxRecDepth 100000
noncomputable def ZuQ:Env:={ EB with
 joins:=(λi=>bif Nat.beq i 1 then some [(2,.bool)]else none)
 frzNew:=[1] }
def ZnC(aD aE aF aG aJ aH aI:Int)(aB:Option Addr)(aA aC:Nat)(m:Mem)(R:RT):Prop:=
 ∀(b:Nat)(m':Mem),Mem.le m m'->Mem.reads m' b 0 [int u8 aD,int u64 aE,int u64 aF,int u64 aG,int u64 aJ,int i64 aH,int i64 aI,slice aB aA aC]->∃(b_1:Bool),(∃(R:RT),True/\CX
 Try.prog 57 (Array.mk [agg (Array.mk [int u8 aD,int u64 aE,int u64 aF,int u64 aG,int u64 aJ,int i64 aH,int i64 aI,slice aB aA aC]),agg (Array.mk [int u8 0,int u64 0,int u64 0,int u64 0,
 int u64 0,int i64 0,int i64 0,slice none 0 0])]) m' [] R/\Zau Shape.bool R/\∀(b_2:Bool)(m'_1:Mem),Mem.le m' m'_1->R (bool b_2) m'_1 []->br b_2 ([some (Box.mk b [int u8 aD,int u64 aE,int u64 aF,
 int u64 aG,int u64 aJ,int i64 aH,int i64 aI,slice aB aA aC] 27 8 true true)]=[some (Box.mk b [int u8 aD,int u64 aE,int u64 aF,int u64 aG,int u64 aJ,int i64 aH,int i64 aI,slice
 aB aA aC] 27 8 true true)]/\[bool true]=[bool b_1]) (∃(R:RT),True/\CX Try.prog 19 (Array.mk [agg (Array.mk [int u8 aD,int u64 aE,int u64 aF,int u64 aG,int u64 aJ,int i64 aH,int i64
 aI,slice aB aA aC])]) m'_1 [] R/\Zau Shape.bool R/\∀(b_3:Bool)(m':Mem),Mem.le m'_1 m'->R (bool b_3) m' []->[some (Box.mk b [int u8 aD,int u64 aE,int u64 aF,int u64 aG,int u64 aJ,
 int i64 aH,int i64 aI,slice aB aA aC] 27 8 true true)]=[some (Box.mk b [int u8 aD,int u64 aE,int u64 aF,int u64 aG,int u64 aJ,int i64 aH,int i64 aI,slice aB aA aC] 27 8
 true true)]/\[bool b_3]=[bool b_1]))/\∃(m'':Mem),Mem.le m m''/\Mem.le m'' m'/\R (bool b_1) m'' []
theorem Zr2(aD aE aF aG aJ aH aI:Int)(aB:Option Addr)(aA aC:Nat)(m:Mem)(R:RT)(h:ZnC aD aE aF aG aJ aH aI aB aA aC m R):CX Try.prog 49 #[.agg #[.int .u8 aD,.int .u64 aE,.int .u64 aF,.int .u64 aG,.int .u64 aJ,.int .i64 aH,.int .i64 aI,.slice aB aA aC]] m [] R:=
 Zaf (E:=ZuQ) ZaH mix Try.func49 [.v (.agg #[.int .u8 aD,.int .u64 aE,.int .u64 aF,.int .u64 aG,.int .u64 aJ,.int .i64 aH,.int .i64 aI,.slice aB aA aC])] [] (by kernel_rfl) (Eq.mp (by kernel_rfl) h)
noncomputable def Zoj:Env:={ EB with
 frzNew:=[1] }
def Zha(aD aE aF aG aJ aH aI:Int)(aB:Option Addr)(aA aC:Nat)(m:Mem)(R:RT):Prop:=
 ∀(b:Nat)(m':Mem),Mem.le m m'->Mem.reads m' b 0 [int u8 aD,int u64 aE,int u64 aF,int u64 aG,int u64 aJ,int i64 aH,int i64 aI,slice aB aA aC]->∀(b:Nat),∃(R_1:RT),True/\CX
 Try.prog 19 (Array.mk [agg (Array.mk [int u8 aD,int u64 aE,int u64 aF,int u64 aG,int u64 aJ,int i64 aH,int i64 aI,slice aB aA aC])]) m' [] R_1/\Zau Shape.bool R_1/\∀(b:Bool) (m'_1:
 Mem),Mem.le m' m'_1->R_1 (bool b) m'_1 []->br (!b) (∃(m'':Mem),Mem.le m m''/\Mem.le m'' m'_1/\R (agg (Array.mk [int u8 0,int u64 0,int u64 0,int u64 0,int u64 0,int i64 0,int i64 0,slice none 0 0])) m''
 []) (∃(R_2:RT),True/\CX Try.prog 86 (Array.mk [agg (Array.mk [int u8 aD,int u64 aE,int u64 aF,int u64 aG,int u64 aJ,int i64 aH,int i64 aI,slice aB aA aC])]) m'_1 [] R_2/\Zau (shT)
 R_2/\∀(n n_1 n_2 n_3 n_4 n_5 n_6:Int)(a:Option Addr)(n_7 c:Nat)(m':Mem),Mem.le m'_1 m'->R_2 (agg (Array.mk [int u8 n,int u64 n_1,int u64 n_2,int u64 n_3,int u64 n_4,int i64 n_5,int i64 n_6,slice a
 n_7 c])) m' []->∃(m'':Mem),Mem.le m m''/\Mem.le m'' m'/\R (agg (Array.mk [int u8 n,int u64 n_1,int u64 n_2,int u64 n_3,int u64 n_4,int i64 n_5,int i64 n_6,slice a n_7 c])) m'' [])
theorem Zl0(aD aE aF aG aJ aH aI:Int)(aB:Option Addr)(aA aC:Nat)(m:Mem)(R:RT)(h:Zha aD aE aF aG aJ aH aI aB aA aC m R):CX Try.prog 58 #[.agg #[.int .u8 aD,.int .u64 aE,.int .u64 aF,.int .u64 aG,.int .u64 aJ,.int .i64 aH,.int .i64 aI,.slice aB aA aC]] m [] R:=
 Zaf (E:=Zoj) ZaH mix Try.func58 [.v (.agg #[.int .u8 aD,.int .u64 aE,.int .u64 aF,.int .u64 aG,.int .u64 aJ,.int .i64 aH,.int .i64 aI,.slice aB aA aC])] [] (by kernel_rfl) (Eq.mp (by kernel_rfl) h)
noncomputable def ZuR:Env:={ EB with
 loops:=(λi=>bif Nat.beq i 3 then⟨[(7,.slice),(12,.int .i64)],[],[(28,8)],false⟩ else⟨[],[],[],false⟩)
 tokOf:=(λi=>bif Nat.beq i 21 then 28 else bif Nat.beq i 28 then 28 else 0) }
def ZnD(p0 p1:Int)(p2a:Option Addr)(p2n p2c:Nat)(m:Mem)(R:RT):Prop:=
 ∃(I:IT),(∃(n:Nat),I [slice none 0 0,int i64 0] [] [slice none 0 0] m n)/\∀(a:Option Addr)(n c:Nat)(n_1:Int)(a_1:Option Addr)(n_2 c_1:Nat)(m':Mem)(n_3:Nat),Mem.le m m'->I [slice a n c,
 int i64 n_1] [] [slice a_1 n_2 c_1] m' n_3->br (decide (n_1 < (↑p2n:Int))) (∃(b:Nat),∃(o:Nat),p2a=some (Addr.mk b o none)/\Zad n_1 p2n/\∃(v:Value),∃(v_1:Value),∃(v_2:Value),∃(v_3:
 Value),∃(v_4:Value),∃(v_5:Value),∃(v_6:Value),∃(v_7:Value),Mem.reads m' b (o+Int.toNat n_1*8) [v,v_1,v_2,v_3,v_4,v_5,v_6,v_7]/\∀(b:Nat),chk (Value.oneCell' v&&(Value.oneCell' v_1 &&
 (Value.oneCell' v_2&&(Value.oneCell' v_3&&(Value.oneCell' v_4&&(Value.oneCell' v_5&&(Value.oneCell' v_6&&(Value.oneCell' v_7&&true)))))))) (chk (ZaG u8 v&&decide (u8=u8)) (br (RowKit.intOf v == p0)
 (chk (Zcn v_7&&true) ((Tok.mk (slice a_1 n_2 c_1) 8=Tok.mk (slice a n c) 8\/slice a n c=slice none 0 0\/c < n+slN v_7)/\∃(xs:List Value),∃(ys:List Value),List.length xs=n*8/\List.length ys=slN
 v_7*8/\rowRd m' a xs/\rowRd m' (slA v_7) ys/\(∀(u:Value),u∈ys->Value.oneCell' u=true)/\(n+slN v_7)*80<=140737488355328/\n+slN v_7<=9223372036854775807/\∀(a':Option Addr)(c':Nat) (m'_1:
 Mem),Mem.le m' m'_1->rowRd m'_1 a' (List.append xs ys)->∃(n':Nat),n' < n_3/\I [slice a' (n+slN v_7) c',int i64 (IntKind.wrap i64 (n_1+(1:Int)))] [] [slice a' (n+slN v_7) c'] m'_1 n')) (chk (ZaG u8 v
 && decide (u8=u8)) (br (RowKit.intOf v == p1) (∃(n':Nat),n' < n_3/\I [slice a n c,int i64 (IntKind.wrap i64 (n_1+(1:Int)))] [] [slice a_1 n_2 c_1] m' n') (∀(b:Nat),Mem.free m' b->(Tok.mk (slice a_1 n_2
 c_1) 8=Tok.mk (slice a n c) 8\/slice a n c=slice none 0 0\/c < n+1)/\∃(xs:List Value),∃(ys:List Value),List.length xs=n*8/\List.length ys=1*8/\rowRd (Mem.add m' b [v,v_1,v_2,v_3,v_4,v_5,
 v_6,v_7]) a xs/\rowRd (Mem.add m' b [v,v_1,v_2,v_3,v_4,v_5,v_6,v_7]) (some (Addr.mk b 0 none)) ys/\(∀(u:Value),u∈ys->Value.oneCell' u=true)/\(n+1)*80<=140737488355328/\n+1 <=
 9223372036854775807/\∀(a':Option Addr)(c':Nat)(m'_1:Mem),Mem.le (Mem.add m' b [v,v_1,v_2,v_3,v_4,v_5,v_6,v_7]) m'_1->rowRd m'_1 a' (List.append xs ys)->∃(n':Nat),n' < n_3/\I [slice a' (n+1)
 c',int i64 (IntKind.wrap i64 (n_1+(1:Int)))] [] [slice a' (n+1) c'] m'_1 n')))))) (∃(m'':Mem),Mem.le m m''/\Mem.le m'' m'/\R (slice a n c) m'' [])
theorem Zr3(p0 p1:Int)(p2a:Option Addr)(p2n p2c:Nat)(m:Mem)(R:RT)(h:ZnD p0 p1 p2a p2n p2c m R):CX Try.prog 48 #[.int .u8 p0,.int .u8 p1,.slice p2a p2n p2c] m [] R:=
 Zaf (E:=ZuR) ZaH mix Try.func48 [.v (.int .u8 p0),.v (.int .u8 p1),.v (.slice p2a p2n p2c)] [] (by kernel_rfl) (Eq.mp (by kernel_rfl) h)
noncomputable def Zqy:Env:={ EB with
 frzNew:=[5] }
def ZiC(p0:Int)(p1a:Option Addr)(p1n p1c:Nat)(jO jP jQ jR jS jT jU:Int)(gG:Option Addr)(gH gI:Nat)(m:Mem)(R:RT):Prop:=
 ∀(b:Nat)(m':Mem),Mem.le m m'->Mem.reads m' b 0 [int u8 jO,int u64 jP,int u64 jQ,int u64 jR,int u64 jS,int i64 jT,int i64 jU,slice gG gH gI]->∀(b:Nat),br ((↑p1n:Int) == (0:
 Int)) (∃(m'':Mem),Mem.le m m''/\Mem.le m'' m'/\R (agg (Array.mk [int u8 jO,int u64 jP,int u64 jQ,int u64 jR,int u64 jS,int i64 jT,int i64 jU,slice gG gH gI])) m'' []) (br ((↑p1n:
 Int) == (1:Int)) (∃(b:Nat),∃(o:Nat),p1a=some (Addr.mk b o none)/\Zad (0:Int) p1n/\∃(v:Value),∃(v_1:Value),∃(v_2:Value),∃(v_3:Value),∃(v_4:Value),∃(v_5:Value),∃(v_6:Value),
 ∃(v_7:Value),Mem.reads m' b (o+0) [v,v_1,v_2,v_3,v_4,v_5,v_6,v_7]/\∃(R_1:RT),True/\CX Try.prog 58 (Array.mk [agg (Array.mk [v,v_1,v_2,v_3,v_4,v_5,v_6,v_7])]) m' [] R_1/\Zau (shT) R_1/\∀(n
 n_1 n_2 n_3 n_4 n_5 n_6:Int) (a:Option Addr) (n_7 c:Nat) (m'_1:Mem),Mem.le m' m'_1->R_1 (agg (Array.mk [int u8 n,int u64 n_1,int u64 n_2,int u64 n_3,int u64 n_4,int i64 n_5,int i64 n_6,slice a n_7 c]))
 m'_1 []->∃(m'':Mem),Mem.le m m''/\Mem.le m'' m'_1/\R (agg (Array.mk [int u8 n,int u64 n_1,int u64 n_2,int u64 n_3,int u64 n_4,int i64 n_5,int i64 n_6,slice a n_7 c])) m'' []) (∃(R_1:RT),True/\CX
 Try.prog 58 (Array.mk [agg (Array.mk [int u8 p0,int u64 0,int u64 0,int u64 0,int u64 0,int i64 0,int i64 0,slice p1a p1n p1c])]) m' [] R_1/\Zau (shT) R_1/\∀(n n_1 n_2 n_3 n_4 n_5 n_6:Int)(a:Option Addr)
 (n_7 c:Nat) (m'_1:Mem),Mem.le m' m'_1->R_1 (agg (Array.mk [int u8 n,int u64 n_1,int u64 n_2,int u64 n_3,int u64 n_4,int i64 n_5,int i64 n_6,slice a n_7 c])) m'_1 []->∃(m'':Mem),Mem.le m m''/\Mem.le
 m'' m'_1/\R (agg (Array.mk [int u8 n,int u64 n_1,int u64 n_2,int u64 n_3,int u64 n_4,int i64 n_5,int i64 n_6,slice a n_7 c])) m'' []))
theorem Zok(p0:Int)(p1a:Option Addr)(p1n p1c:Nat)(jO jP jQ jR jS jT jU:Int)(gG:Option Addr)(gH gI:Nat)(m:Mem)(R:RT)(h:ZiC p0 p1a p1n p1c jO jP jQ jR jS jT jU gG gH gI m R):CX Try.prog 47 #[.int .u8 p0,.slice p1a p1n p1c,.agg #[.int .u8 jO,.int .u64 jP,.int .u64 jQ,.int .u64 jR,.int .u64 jS,.int .i64 jT,.int .i64 jU,.slice gG gH gI]] m [] R:=
 Zaf (E:=Zqy) ZaH mix Try.func47 [.v (.int .u8 p0),.v (.slice p1a p1n p1c),.v (.agg #[.int .u8 jO,.int .u64 jP,.int .u64 jQ,.int .u64 jR,.int .u64 jS,.int .i64 jT,.int .i64 jU,.slice gG gH gI])] [] (by kernel_rfl) (Eq.mp (by kernel_rfl) h)
noncomputable def Zyt:Env:={ EB with
 loops:=(λi=>bif Nat.beq i 2 then⟨[(7,.int .i64)],[2],[],false⟩ else⟨[],[],[],false⟩) }
def Ztr(p0a:Option Addr)(p0n p0c:Nat)(m:Mem)(R:RT):Prop:=
 ∀(b:Nat),∃(I:IT),(∃(n:Nat),I [int i64 0] [[int u8 0,int u64 0,int u64 0,int u64 0,int u64 0,int i64 0,int i64 0,slice none 0 0]] [] m n)/\∀(n:Int)(cs:List Value)(m':Mem)(n_1:Nat),Mem.le
 m m'->I [int i64 n] [cs] [] m' n_1->br (decide (n < (↑p0n:Int))) (∃(b_1:Nat),∃(o:Nat),p0a=some (Addr.mk b_1 o none)/\Zad n p0n/\∃(v:Value),∃(v_1:Value),∃(v_2:Value),∃(v_3:Value),∃
 (v_4:Value),∃(v_5:Value),∃(v_6:Value),∃(v_7:Value),Mem.reads m' b_1 (o+Int.toNat n*8) [v,v_1,v_2,v_3,v_4,v_5,v_6,v_7]/\∀(b_2:Nat),chk (Value.oneCell' v&&(Value.oneCell' v_1 &&
 (Value.oneCell' v_2&&(Value.oneCell' v_3&&(Value.oneCell' v_4&&(Value.oneCell' v_5&&(Value.oneCell' v_6&&(Value.oneCell' v_7&&true)))))))) (∃(R_1:RT),True/\CX Try.prog 49 (Array.mk [agg (Array.mk [v,
 v_1,v_2,v_3,v_4,v_5,v_6,v_7])]) m' [] R_1/\Zau Shape.bool R_1/\∀(b_3:Bool)(m'_1:Mem),Mem.le m' m'_1->R_1 (bool b_3) m'_1 []->br (!b_3) (∃(m'':Mem),Mem.le m m''/\Mem.le m'' m'_1/\R (agg (Array.mk
 [int u8 0,int u64 0,int u64 0,int u64 0,int u64 0,int i64 0,int i64 0,slice none 0 0])) m'' []) ([some (Box.mk b [] 27 8 false true)]=[some (Box.mk b [] 27 8 false true)]/\∃(n':Nat),n' < n_1/\I [int i64
 (IntKind.wrap i64 (n+(1:Int)))] [cs] [] m'_1 n'))) (∃(R_1:RT),True/\CX Try.prog 48 (Array.mk [int u8 4,int u8 0,slice p0a p0n p0c]) m' [] R_1/\Zau Shape.slice R_1/\∀(a:Option Addr)(n c:Nat) (m'_1:
 Mem),Mem.le m' m'_1->R_1 (slice a n c) m'_1 []->∃(R_2:RT),True/\CX Try.prog 47 (Array.mk [int u8 4,slice a n c,agg (Array.mk [int u8 0,int u64 0,int u64 0,int u64 0,int u64 0,int i64 0,int i64 0,slice
 none 0 0])]) m'_1 [] R_2/\Zau (shT) R_2/\∀(n n_2 n_3 n_4 n_5 n_6 n_7:Int)(a:Option Addr)(n_8 c:Nat)(m':Mem),Mem.le m'_1 m'->R_2 (agg (Array.mk [int u8 n,int u64 n_2,int u64 n_3,int u64 n_4,int u64
 n_5,int i64 n_6,int i64 n_7,slice a n_8 c])) m' []->∃(m'':Mem),Mem.le m m''/\Mem.le m'' m'/\R (agg (Array.mk [int u8 n,int u64 n_2,int u64 n_3,int u64 n_4,int u64 n_5,int i64 n_6,int i64 n_7,slice a n_8
 c])) m'' [])
theorem ZwN(p0a:Option Addr)(p0n p0c:Nat)(m:Mem)(R:RT)(h:Ztr p0a p0n p0c m R):CX Try.prog 16 #[.slice p0a p0n p0c] m [] R:=
 Zaf (E:=Zyt) ZaH mix Try.func16 [.v (.slice p0a p0n p0c)] [] (by kernel_rfl) (Eq.mp (by kernel_rfl) h)
noncomputable def ZwO:Env:={ EB with
 loops:=(λi=>bif Nat.beq i 2 then⟨[(7,.int .i64)],[2],[],false⟩ else⟨[],[],[],false⟩)
 joins:=(λi=>bif Nat.beq i 4 then some [(18,.bool)]else none) }
def Zqz(p0a:Option Addr)(p0n p0c:Nat)(m:Mem)(R:RT):Prop:=
 ∀(b:Nat),∃(I:IT),(∃(n:Nat),I [int i64 0] [[int u8 0,int u64 0,int u64 0,int u64 0,int u64 0,int i64 0,int i64 0,slice none 0 0]] [] m n)/\∀(n:Int)(cs:List Value)(m':Mem)(ak:Nat),Mem.le m
 m'->I [int i64 n] [cs] [] m' ak->br (decide (n < (↑p0n:Int))) (∃(al:Nat),∃(o:Nat),p0a=some (Addr.mk al o none)/\Zad n p0n/\∃(v:Value),∃(aa:Value),∃(ab:Value),∃(ac:Value),∃(ad:
 Value),∃(ae:Value),∃(af:Value),∃(ag:Value),Mem.reads m' al (o+Int.toNat n*8) [v,aa,ab,ac,ad,ae,af,ag]/\∀(ai:Nat),chk (Value.oneCell' v&&(Value.oneCell' aa&&(Value.oneCell' ab &&
 (Value.oneCell' ac&&(Value.oneCell' ad&&(Value.oneCell' ae&&(Value.oneCell' af&&(Value.oneCell' ag&&true)))))))) (∃(aj:Bool),chk (ZaG u8 v&&decide (u8=u8)) (br (RowKit.intOf v == (0:Int)) ([some
 (Box.mk ai [v,aa,ab,ac,ad,ae,af,ag] 27 8 false true),some (Box.mk b cs 27 8 false true)]=[some (Box.mk ai [v,aa,ab,ac,ad,ae,af,ag] 27 8 false true),some (Box.mk b cs 27 8 false true)]/\[bool true] =
 [bool aj]) (∃(R:RT),True/\CX Try.prog 19 (Array.mk [agg (Array.mk [v,aa,ab,ac,ad,ae,af,ag])]) m' [] R/\Zau Shape.bool R/\∀(am:Bool)(ah:Mem),Mem.le m' ah->R (bool am) ah []->[some (Box.mk ai [v,
 aa,ab,ac,ad,ae,af,ag] 27 8 false true),some (Box.mk b cs 27 8 false true)]=[some (Box.mk ai [v,aa,ab,ac,ad,ae,af,ag] 27 8 false true),some (Box.mk b cs 27 8 false true)]/\[bool !am]=[bool aj]))/\br
 aj (∃(m'':Mem),Mem.le m m''/\Mem.le m'' m'/\R (agg (Array.mk [int u8 0,int u64 0,int u64 0,int u64 0,int u64 0,int i64 0,int i64 0,slice none 0 0])) m'' []) ([some (Box.mk b [] 27 8 false true)]=[some
 (Box.mk b [] 27 8 false true)]/\∃(n':Nat),n' < ak/\I [int i64 (IntKind.wrap i64 (n+(1:Int)))] [cs] [] m' n'))) (∃(R_1:RT),True/\CX Try.prog 48 (Array.mk [int u8 3,int u8 1,slice p0a p0n p0c]) m' [] R_1
 /\ Zau Shape.slice R_1/\∀(a:Option Addr)(n c:Nat)(ah:Mem),Mem.le m' ah->R_1 (slice a n c) ah []->∃(R_2:RT),True/\CX Try.prog 47 (Array.mk [int u8 3,slice a n c,agg (Array.mk [int u8 1,int u64 0,int
 u64 0,int u64 0,int u64 0,int i64 0,int i64 0,slice none 0 0])]) ah [] R_2/\Zau (shT) R_2/\∀(n an ao ap aq ar au:Int)(a:Option Addr)(av c:Nat)(m':Mem),Mem.le ah m'->R_2 (agg (Array.mk [int u8 n,
 int u64 an,int u64 ao,int u64 ap,int u64 aq,int i64 ar,int i64 au,slice a av c])) m' []->∃(m'':Mem),Mem.le m m''/\Mem.le m'' m'/\R (agg (Array.mk [int u8 n,int u64 an,int u64 ao,int u64 ap,int u64 aq,
 int i64 ar,int i64 au,slice a av c])) m'' [])
theorem ZuS(p0a:Option Addr)(p0n p0c:Nat)(m:Mem)(R:RT)(h:Zqz p0a p0n p0c m R):CX Try.prog 15 #[.slice p0a p0n p0c] m [] R:=
 Zaf (E:=ZwO) ZaH mix Try.func15 [.v (.slice p0a p0n p0c)] [] (by kernel_rfl) (Eq.mp (by kernel_rfl) h)
noncomputable def Zr4:Env:={ EB with
 joins:=(λi=>bif Nat.beq i 1 then some [(7,.bool),(8,.bool)]else bif Nat.beq i 2 then some [(21,.bool)]else bif Nat.beq i 4 then some [(40,.bool)]else bif Nat.beq i 6 then some [(49,.bool)]else none)
 frzNew:=[3] }
def Zk0(aD aE aF aG aJ aH aI:Int)(aB:Option Addr)(aA aC:Nat)(p1 p2:Int)(m:Mem)(R:RT):Prop:=
 ∀(b:Nat)(m':Mem),Mem.le m m'->Mem.reads m' b 0 [int u8 aD,int u64 aE,int u64 aF,int u64 aG,int u64 aJ,int i64 aH,int i64 aI,slice aB aA aC]->∀(aa:Nat),∃(ad:Bool),∃(ae:
 Bool),br (p1 == (0:Int)) (br (p1 == (1:Int)) ([some (Box.mk aa [int u8 0,int u64 0,int u64 0,int u64 0,int u64 0,int i64 0,int i64 0,slice none 0 0] 27 8 false true),some (Box.mk b [int u8 aD,int u64
 aE,int u64 aF,int u64 aG,int u64 aJ,int i64 aH,int i64 aI,slice aB aA aC] 27 8 true true)]=[some (Box.mk aa [int u8 0,int u64 0,int u64 0,int u64 0,int u64 0,int i64 0,int i64 0,slice
 none 0 0] 27 8 false true),some (Box.mk b [int u8 aD,int u64 aE,int u64 aF,int u64 aG,int u64 aJ,int i64 aH,int i64 aI,slice aB aA aC] 27 8 true true)]/\[bool (p2 == (0:Int)),bool (p2
 == (1:Int))]=[bool ad,bool ae]) ([some (Box.mk aa [int u8 0,int u64 0,int u64 0,int u64 0,int u64 0,int i64 0,int i64 0,slice none 0 0] 27 8 false true),some (Box.mk b [int u8 aD,int u64 aE,int u64
 aF,int u64 aG,int u64 aJ,int i64 aH,int i64 aI,slice aB aA aC] 27 8 true true)]=[some (Box.mk aa [int u8 0,int u64 0,int u64 0,int u64 0,int u64 0,int i64 0,int i64 0,slice none 0 0] 27
 8 false true),some (Box.mk b [int u8 aD,int u64 aE,int u64 aF,int u64 aG,int u64 aJ,int i64 aH,int i64 aI,slice aB aA aC] 27 8 true true)]/\[bool (p2 == (0:Int)),bool false]=[bool
 ad,bool ae])) (br (p1 == (1:Int)) ([some (Box.mk aa [int u8 0,int u64 0,int u64 0,int u64 0,int u64 0,int i64 0,int i64 0,slice none 0 0] 27 8 false true),some (Box.mk b [int u8 aD,int u64 aE,int u64
 aF,int u64 aG,int u64 aJ,int i64 aH,int i64 aI,slice aB aA aC] 27 8 true true)]=[some (Box.mk aa [int u8 0,int u64 0,int u64 0,int u64 0,int u64 0,int i64 0,int i64 0,slice none 0 0] 27
 8 false true),some (Box.mk b [int u8 aD,int u64 aE,int u64 aF,int u64 aG,int u64 aJ,int i64 aH,int i64 aI,slice aB aA aC] 27 8 true true)]/\[bool false,bool (p2 == (1:Int))]=[bool
 ad,bool ae]) ([some (Box.mk aa [int u8 0,int u64 0,int u64 0,int u64 0,int u64 0,int i64 0,int i64 0,slice none 0 0] 27 8 false true),some (Box.mk b [int u8 aD,int u64 aE,int u64 aF,int u64 aG,int
 u64 aJ,int i64 aH,int i64 aI,slice aB aA aC] 27 8 true true)]=[some (Box.mk aa [int u8 0,int u64 0,int u64 0,int u64 0,int u64 0,int i64 0,int i64 0,slice none 0 0] 27 8 false true),some
 (Box.mk b [int u8 aD,int u64 aE,int u64 aF,int u64 aG,int u64 aJ,int i64 aH,int i64 aI,slice aB aA aC] 27 8 true true)]/\[bool false,bool false]=[bool ad,bool ae]))/\∃(ag:Bool),(∃
 (R:RT),True/\CX Try.prog 49 (Array.mk [agg (Array.mk [int u8 aD,int u64 aE,int u64 aF,int u64 aG,int u64 aJ,int i64 aH,int i64 aI,slice aB aA aC])]) m' [] R/\Zau Shape.bool R/\∀(af
 : Bool) (ab:Mem),Mem.le m' ab->R (bool af) ab []->br (!af) ([some (Box.mk aa [int u8 0,int u64 0,int u64 0,int u64 0,int u64 0,int i64 0,int i64 0,slice none 0 0] 27 8 false true),some (Box.mk b [int u8
 aD,int u64 aE,int u64 aF,int u64 aG,int u64 aJ,int i64 aH,int i64 aI,slice aB aA aC] 27 8 true true)]=[some (Box.mk aa [int u8 0,int u64 0,int u64 0,int u64 0,int u64 0,int i64 0,
 int i64 0,slice none 0 0] 27 8 false true),some (Box.mk b [int u8 aD,int u64 aE,int u64 aF,int u64 aG,int u64 aJ,int i64 aH,int i64 aI,slice aB aA aC] 27 8 true true)]/\[bool true] =
 [bool ag]) (br (!ad) (br (!ae) (∃(R:RT),True/\CX Try.prog 91 (Array.mk [int i64 p1,int i64 p2]) ab [] R/\Zau Shape.bool R/\∀(ac:Bool)(m':Mem),Mem.le ab m'->R (bool ac) m' []->[some (Box.mk aa [int u8
 0,int u64 0,int u64 0,int u64 0,int u64 0,int i64 0,int i64 0,slice none 0 0] 27 8 false true),some (Box.mk b [int u8 aD,int u64 aE,int u64 aF,int u64 aG,int u64 aJ,int i64 aH,int i64 aI,
 slice aB aA aC] 27 8 true true)]=[some (Box.mk aa [int u8 0,int u64 0,int u64 0,int u64 0,int u64 0,int i64 0,int i64 0,slice none 0 0] 27 8 false true),some (Box.mk b [int u8 aD,int u64 aE,int
 u64 aF,int u64 aG,int u64 aJ,int i64 aH,int i64 aI,slice aB aA aC] 27 8 true true)]/\[bool !ac]=[bool ag]) ([some (Box.mk aa [int u8 0,int u64 0,int u64 0,int u64 0,int u64 0,int i64 0,
 int i64 0,slice none 0 0] 27 8 false true),some (Box.mk b [int u8 aD,int u64 aE,int u64 aF,int u64 aG,int u64 aJ,int i64 aH,int i64 aI,slice aB aA aC] 27 8 true true)]=[some (Box.mk aa
 [int u8 0,int u64 0,int u64 0,int u64 0,int u64 0,int i64 0,int i64 0,slice none 0 0] 27 8 false true),some (Box.mk b [int u8 aD,int u64 aE,int u64 aF,int u64 aG,int u64 aJ,int i64 aH,int i64
 aI,slice aB aA aC] 27 8 true true)]/\[bool false]=[bool ag])) ([some (Box.mk aa [int u8 0,int u64 0,int u64 0,int u64 0,int u64 0,int i64 0,int i64 0,slice none 0 0] 27 8 false true),some (Box.mk
 b [int u8 aD,int u64 aE,int u64 aF,int u64 aG,int u64 aJ,int i64 aH,int i64 aI,slice aB aA aC] 27 8 true true)]=[some (Box.mk aa [int u8 0,int u64 0,int u64 0,int u64 0,int u64 0,int
 i64 0,int i64 0,slice none 0 0] 27 8 false true),some (Box.mk b [int u8 aD,int u64 aE,int u64 aF,int u64 aG,int u64 aJ,int i64 aH,int i64 aI,slice aB aA aC] 27 8 true true)]/\[bool
 false]=[bool ag])))/\br ag (∃(m'':Mem),Mem.le m m''/\Mem.le m'' m'/\R (agg (Array.mk [int u8 0,int u64 0,int u64 0,int u64 0,int u64 0,int i64 0,int i64 0,slice none 0 0])) m'' []) (∃(af:Bool),br
 (aD == (0:Int)) ([some (Box.mk aa [int u8 0,int u64 0,int u64 0,int u64 0,int u64 0,int i64 0,int i64 0,slice none 0 0] 27 8 false true),some (Box.mk b [int u8 aD,int u64 aE,int u64 aF,int u64 aG,
 int u64 aJ,int i64 aH,int i64 aI,slice aB aA aC] 27 8 true true)]=[some (Box.mk aa [int u8 0,int u64 0,int u64 0,int u64 0,int u64 0,int i64 0,int i64 0,slice none 0 0] 27 8 false true),some
 (Box.mk b [int u8 aD,int u64 aE,int u64 aF,int u64 aG,int u64 aJ,int i64 aH,int i64 aI,slice aB aA aC] 27 8 true true)]/\[bool (decide (p1 > (0:Int)))]=[bool af]) ([some (Box.mk aa
 [int u8 0,int u64 0,int u64 0,int u64 0,int u64 0,int i64 0,int i64 0,slice none 0 0] 27 8 false true),some (Box.mk b [int u8 aD,int u64 aE,int u64 aF,int u64 aG,int u64 aJ,int i64 aH,int i64
 aI,slice aB aA aC] 27 8 true true)]=[some (Box.mk aa [int u8 0,int u64 0,int u64 0,int u64 0,int u64 0,int i64 0,int i64 0,slice none 0 0] 27 8 false true),some (Box.mk b [int u8 aD,int u64
 aE,int u64 aF,int u64 aG,int u64 aJ,int i64 aH,int i64 aI,slice aB aA aC] 27 8 true true)]/\[bool false]=[bool af])/\br af (∃(m'':Mem),Mem.le m m''/\Mem.le m'' m'/\R (agg (Array.mk
 [int u8 0,int u64 0,int u64 0,int u64 0,int u64 0,int i64 0,int i64 0,slice none 0 0])) m'' []) (∃(ac:Bool),br ad ([some (Box.mk aa [int u8 0,int u64 0,int u64 0,int u64 0,int u64 0,int i64 0,int i64 0,
 slice none 0 0] 27 8 false true),some (Box.mk b [int u8 aD,int u64 aE,int u64 aF,int u64 aG,int u64 aJ,int i64 aH,int i64 aI,slice aB aA aC] 27 8 true true)]=[some (Box.mk aa [int u8 0,
 int u64 0,int u64 0,int u64 0,int u64 0,int i64 0,int i64 0,slice none 0 0] 27 8 false true),some (Box.mk b [int u8 aD,int u64 aE,int u64 aF,int u64 aG,int u64 aJ,int i64 aH,int i64 aI,slice
 aB aA aC] 27 8 true true)]/\[bool true]=[bool ac]) (br (aD == (0:Int)) ([some (Box.mk aa [int u8 0,int u64 0,int u64 0,int u64 0,int u64 0,int i64 0,int i64 0,slice none 0 0] 27 8 false true),
 some (Box.mk b [int u8 aD,int u64 aE,int u64 aF,int u64 aG,int u64 aJ,int i64 aH,int i64 aI,slice aB aA aC] 27 8 true true)]=[some (Box.mk aa [int u8 0,int u64 0,int u64 0,int u64 0,
 int u64 0,int i64 0,int i64 0,slice none 0 0] 27 8 false true),some (Box.mk b [int u8 aD,int u64 aE,int u64 aF,int u64 aG,int u64 aJ,int i64 aH,int i64 aI,slice aB aA aC] 27 8 true
 true)]/\[bool true]=[bool ac]) ([some (Box.mk aa [int u8 0,int u64 0,int u64 0,int u64 0,int u64 0,int i64 0,int i64 0,slice none 0 0] 27 8 false true),some (Box.mk b [int u8 aD,int u64 aE,int u64 aF,
 int u64 aG,int u64 aJ,int i64 aH,int i64 aI,slice aB aA aC] 27 8 true true)]=[some (Box.mk aa [int u8 0,int u64 0,int u64 0,int u64 0,int u64 0,int i64 0,int i64 0,slice none 0 0] 27 8
 false true),some (Box.mk b [int u8 aD,int u64 aE,int u64 aF,int u64 aG,int u64 aJ,int i64 aH,int i64 aI,slice aB aA aC] 27 8 true true)]/\[bool (aD == (1:Int))]=[bool ac]))/\br ac
 (∃(m'':Mem),Mem.le m m''/\Mem.le m'' m'/\R (agg (Array.mk [int u8 1,int u64 0,int u64 0,int u64 0,int u64 0,int i64 0,int i64 0,slice none 0 0])) m'' []) (br ae (∃(R_1:RT),True/\CX Try.prog 86
 (Array.mk [agg (Array.mk [int u8 aD,int u64 aE,int u64 aF,int u64 aG,int u64 aJ,int i64 aH,int i64 aI,slice aB aA aC])]) m' [] R_1/\Zau (shT) R_1/\∀(n ah ai aj ak al am:Int) (a:
 Option Addr) (an c:Nat) (ab:Mem),Mem.le m' ab->R_1 (agg (Array.mk [int u8 n,int u64 ah,int u64 ai,int u64 aj,int u64 ak,int i64 al,int i64 am,slice a an c])) ab []->∃(m'':Mem),Mem.le m m''/\Mem.le m''
 ab/\R (agg (Array.mk [int u8 n,int u64 ah,int u64 ai,int u64 aj,int u64 ak,int i64 al,int i64 am,slice a an c])) m'' []) (∀(b:Nat),Mem.free m' b->∃(R_1:RT),True/\CX Try.prog 58 (Array.mk [agg (Array.mk
 [int u8 5,int u64 0,int u64 0,int u64 0,int u64 0,int i64 p1,int i64 p2,slice (some (Addr.mk b 0 none)) 1 1])]) (Mem.add m' b [int u8 aD,int u64 aE,int u64 aF,int u64 aG,int u64 aJ,int i64 aH,
 int i64 aI,slice aB aA aC]) [] R_1/\Zau (shT) R_1/\∀(n ah ai aj ak al am:Int)(a:Option Addr)(an c:Nat)(ab:Mem),Mem.le (Mem.add m' b [int u8 aD,int u64 aE,int u64 aF,int u64 aG,int
 u64 aJ,int i64 aH,int i64 aI,slice aB aA aC]) ab->R_1 (agg (Array.mk [int u8 n,int u64 ah,int u64 ai,int u64 aj,int u64 ak,int i64 al,int i64 am,slice a an c])) ab []->∃(m'':Mem),Mem.le m
 m''/\Mem.le m'' ab/\R (agg (Array.mk [int u8 n,int u64 ah,int u64 ai,int u64 aj,int u64 ak,int i64 al,int i64 am,slice a an c])) m'' []))))
theorem ZqA(aD aE aF aG aJ aH aI:Int)(aB:Option Addr)(aA aC:Nat)(p1 p2:Int)(m:Mem)(R:RT)(h:Zk0 aD aE aF aG aJ aH aI aB aA aC p1 p2 m R):CX Try.prog 69 #[.agg #[.int .u8 aD,.int .u64 aE,.int .u64 aF,.int .u64 aG,.int .u64 aJ,.int .i64 aH,.int .i64 aI,.slice aB aA aC],.int .i64 p1,.int .i64 p2] m [] R:=
 Zaf (E:=Zr4) ZaH mix Try.func69 [.v (.agg #[.int .u8 aD,.int .u64 aE,.int .u64 aF,.int .u64 aG,.int .u64 aJ,.int .i64 aH,.int .i64 aI,.slice aB aA aC]),.v (.int .i64 p1),.v (.int .i64 p2)] [] (by kernel_rfl) (Eq.mp (by kernel_rfl) h)
noncomputable def Zol:Env:={ EB with
 frzNew:=[1] }
def Zhb(aD aE aF aG aJ aH aI:Int)(aB:Option Addr)(aA aC:Nat)(m:Mem)(R:RT):Prop:=
 ∀(b:Nat)(m':Mem),Mem.le m m'->Mem.reads m' b 0 [int u8 aD,int u64 aE,int u64 aF,int u64 aG,int u64 aJ,int i64 aH,int i64 aI,slice aB aA aC]->∀(b b:Nat),Mem.free m' b->∃(R_1:
 RT),True/\CX Try.prog 58 (Array.mk [agg (Array.mk [int u8 6,int u64 0,int u64 0,int u64 0,int u64 0,int i64 0,int i64 0,slice (some (Addr.mk b 0 none)) 1 1])]) (Mem.add m' b [int u8 aD,int u64 aE,int u64
 aF,int u64 aG,int u64 aJ,int i64 aH,int i64 aI,slice aB aA aC]) [] R_1/\Zau (shT) R_1/\∀(n n_1 n_2 n_3 n_4 n_5 n_6:Int)(a:Option Addr)(n_7 c:Nat)(m'_1:Mem),Mem.le (Mem.add m' b
 [int u8 aD,int u64 aE,int u64 aF,int u64 aG,int u64 aJ,int i64 aH,int i64 aI,slice aB aA aC]) m'_1->R_1 (agg (Array.mk [int u8 n,int u64 n_1,int u64 n_2,int u64 n_3,int u64 n_4,int
 i64 n_5,int i64 n_6,slice a n_7 c])) m'_1 []->∃(m'':Mem),Mem.le m m''/\Mem.le m'' m'_1/\R (agg (Array.mk [int u8 n,int u64 n_1,int u64 n_2,int u64 n_3,int u64 n_4,int i64 n_5,int i64 n_6,slice a n_7 c]))
 m'' []
theorem Zl1(aD aE aF aG aJ aH aI:Int)(aB:Option Addr)(aA aC:Nat)(m:Mem)(R:RT)(h:Zhb aD aE aF aG aJ aH aI aB aA aC m R):CX Try.prog 22 #[.agg #[.int .u8 aD,.int .u64 aE,.int .u64 aF,.int .u64 aG,.int .u64 aJ,.int .i64 aH,.int .i64 aI,.slice aB aA aC]] m [] R:=
 Zaf (E:=Zol) ZaH mix Try.func22 [.v (.agg #[.int .u8 aD,.int .u64 aE,.int .u64 aF,.int .u64 aG,.int .u64 aJ,.int .i64 aH,.int .i64 aI,.slice aB aA aC])] [] (by kernel_rfl) (Eq.mp (by kernel_rfl) h)
end Go.Proofs.Ytfgfahnakepegaa
set_option linter.unusedVariables false
namespace Go.Proofs.Ytfgfahnakepegaa
open Go Go.Eng Go.Proofs Go.RowKit
open Go.Value (int slice agg bool string tuple func)
open Go.IntKind (u8 u64 i64)
set_option maxRecDepth 100000
noncomputable def ZqB:Env:={ EB with
 loops:=(λi=>bif Nat.beq i 3 then⟨[(12,.int .i64)],[],[],false⟩ else⟨[],[],[],false⟩)
 dr:=(λi=>bif Nat.beq i 5 then[⟨0,[1],[],none,[],[]⟩,⟨1,[1],[],none,[0],[]⟩,⟨2,[],[],none,[],[]⟩,⟨3,[4],[],none,[],[]⟩,⟨4,[],[],none,[3],[]⟩,⟨5,[],[],none,[0,1,2,3,4],[]⟩]else[])
 thaw:=true
 stAt:=(λi=>bif Nat.beq i 22 then some 7 else none)
 last:=(λi=>bif Nat.beq i 5 then true else false)
 tokC:=(λi=>bif Nat.beq i 7 then some (7,8)else none) }
def ZiD(aD aE aF aG aJ aH aI:Int)(aB:Option Addr)(aA aC:Nat)(m:Mem)(R:RT):Prop:=
 ∀(b ak:Nat),∃(R_1:RT),CXT Try.prog 109 (Array.mk [slice aB aA aC]) m 8 R_1/\Zau Shape.slice R_1/\∀(a:Option Addr)(n c:Nat)(m':Mem),Mem.le m m'->R_1 (slice a n c) m' []->∃(I:IT),(∃(n
 : Nat),I [int i64 0] [] [] m' n)/\∀(aa:Int)(m':Mem)(al:Nat),True->I [int i64 aa] [] [] m' al->br (decide (aa < (↑n:Int))) (∃(am:Nat),∃(o:Nat),a=some (Addr.mk am o none)/\Zad aa n/\∃(v:
 Value),∃(ab:Value),∃(ac:Value),∃(ad:Value),∃(ae:Value),∃(af:Value),∃(ag:Value),∃(ah:Value),Mem.reads m' am (o+Int.toNat aa*8) [v,ab,ac,ad,ae,af,ag,ah]/\∀(az:Nat),chk
 (Value.oneCell' v&&(Value.oneCell' ab&&(Value.oneCell' ac&&(Value.oneCell' ad&&(Value.oneCell' ae&&(Value.oneCell' af&&(Value.oneCell' ag&&(Value.oneCell' ah&&true)))))))) (∃(f:Fx),∃(R:RT),R=f
 4 [agg (Array.mk [v,ab,ac,ad,ae,af,ag,ah])] m'/\CX Try.prog 86 (Array.mk [agg (Array.mk [v,ab,ac,ad,ae,af,ag,ah])]) m' [] R/\Zau (shT) R/\∀(an ao ap aq ar au av:Int)(aw:Option Addr)(ax ay:Nat)
 (ai:Mem),Mem.le m' ai->R (agg (Array.mk [int u8 an,int u64 ao,int u64 ap,int u64 aq,int u64 ar,int i64 au,int i64 av,slice aw ax ay])) ai []->∃(aj:Nat),∃(o:Nat),a=some (Addr.mk aj o none)/\Zad
 aa n/\∀(M:Mem),Mem.le m' M->Mem.le ai M->slice a n c=slice (some (Addr.mk aj 0 none)) n c/\o+Int.toNat aa*8+8<=n*8/\[some (Box.mk ak [int u8 0,int u64 0,int u64 0,int u64 0,int u64 0,int i64 0,
 int i64 0,slice none 0 0] 27 8 false true),some (Box.mk b [int u8 aD,int u64 aE,int u64 aF,int u64 aG,int u64 aJ,int i64 aH,int i64 aI,slice a n c] 27 8 false true)]=[some (Box.mk ak [int u8 0,
 int u64 0,int u64 0,int u64 0,int u64 0,int i64 0,int i64 0,slice none 0 0] 27 8 false true),some (Box.mk b [int u8 aD,int u64 aE,int u64 aF,int u64 aG,int u64 aJ,int i64 aH,int i64 aI,slice
 a n c] 27 8 false true)]/\[some (Tok.mk (slice a n c) 8)]=[some (Tok.mk (slice a n c) 8)]/\∃(n':Nat),n' < al/\I [int i64 (IntKind.wrap i64 (aa+(1:Int)))] [] [] (Mem.upd M aj (o+Int.toNat aa*8) [int u8
 an,int u64 ao,int u64 ap,int u64 aq,int u64 ar,int i64 au,int i64 av,slice aw ax ay]) n')) (∃(m'':Mem),Mem.le m m''/\Mem.le m'' m'/\R (agg (Array.mk [int u8 aD,int u64 aE,int u64 aF,int u64 aG,
 int u64 aJ,int i64 aH,int i64 aI,slice a n c])) m'' [])
theorem Zom(aD aE aF aG aJ aH aI:Int)(aB:Option Addr)(aA aC:Nat)(m:Mem)(R:RT)(h:ZiD aD aE aF aG aJ aH aI aB aA aC m R):CX Try.prog 86 #[.agg #[.int .u8 aD,.int .u64 aE,.int .u64 aF,.int .u64 aG,.int .u64 aJ,.int .i64 aH,.int .i64 aI,.slice aB aA aC]] m [] R:=
 Zaf (E:=ZqB) ZaH mix Try.func86 [.v (.agg #[.int .u8 aD,.int .u64 aE,.int .u64 aF,.int .u64 aG,.int .u64 aJ,.int .i64 aH,.int .i64 aI,.slice aB aA aC])] [] (by kernel_rfl) (Eq.mp (by kernel_rfl) h)
noncomputable def Zci:Env:={ EB with
 tokOf:=(λi=>bif Nat.beq i 2 then 7 else bif Nat.beq i 7 then 7 else 0)
 tokC:=(λi=>bif Nat.beq i 5 then some (7,8)else none)
 thaw:=true }
def Zbn(p0a:Option Addr)(p0n p0c:Nat)(m:Mem)(R:RT):Prop:=
 br (Option.isNone p0a) (slice none 0 0=slice none 0 0/\R (slice none 0 0) m []) (((0:Int)=(0:Int)/\(0:Int)<=(0:Int)/\(0:Int)*(↑(80:Nat):Int)<=(281474976710656:Int)/\(0:Int) <=
 (9223372036854775807:Int))/\∀(b:Nat),Mem.free m b->(Tok.mk (slice (some (Addr.mk b 0 none)) 0 (Int.toNat (0:Int))) 8=Tok.mk (slice (some (Addr.mk b 0 none)) 0 (Int.toNat (0:Int))) 8\/slice (some (Addr.mk
 b 0 none)) 0 (Int.toNat (0:Int))=slice none 0 0\/Int.toNat (0:Int) < 0+p0n)/\∃(xs:List Value),∃(ys:List Value),List.length xs=0*8/\List.length ys=p0n*8/\rowRd m (some (Addr.mk b 0 none)) xs/\
 rowRd m p0a ys/\(∀(u:Value),u∈ys->Value.oneCell' u=true)/\(0+p0n)*80<=140737488355328/\0+p0n<=9223372036854775807/\∀(a':Option Addr)(c':Nat)(m':Mem),Mem.le m m'->rowRd m' a' (List.append
 xs ys)->TokFact m (some (Addr.mk b 0 none)) a' (0+p0n) c'->some (Tok.mk (slice a' (0+p0n) c') 8)=some (Tok.mk (slice a' (0+p0n) c') 8)/\R (slice a' (0+p0n) c') m' [])
theorem Zb4(p0a:Option Addr)(p0n p0c:Nat)(m:Mem)(R:RT)(h:Zbn p0a p0n p0c m R):CXT Try.prog 109 #[.slice p0a p0n p0c] m 8 R:=
 Zrw (E:=Zci) ZaH mix Try.func109 [.v (.slice p0a p0n p0c)] (by kernel_rfl) (Eq.mp (by kernel_rfl) h)
end Go.Proofs.Ytfgfahnakepegaa
set_option linter.unusedVariables false
set_option linter.unusedSimpArgs false
set_option linter.unusedSectionVars false
namespace Go.Proofs.Ytfgfahnakepegaa
open Go Go.Eng Go.Rx Go.Proofs Go.RowKit
set_option maxRecDepth 100000
theorem Zyu(l:List T):∀u∈Rx.ZcA l,u.oneCell'=true:=by
 intro u hu
 simp only[Rx.ZcA,List.mem_flatten,List.mem_map]at hu
 obtain⟨_,⟨t,_,rfl⟩,h⟩:=hu
 simp only[T.cs,T.sl,List.mem_cons,List.not_mem_nil,or_false]at h
 rcases h with rfl|rfl|rfl|rfl|rfl|rfl|rfl|rfl <;> rfl
theorem ZiE(a:Option Addr)(c:Nat)(l:List T)(m:Mem)(h:rowRd m a (Rx.ZcA l))(hl:l.length<=1000000000000):CXT Try.prog 109 #[.slice a l.length c] m 8 (λv m' _=>∃a' c',v=.slice a' l.length c'/\rowRd m' a' (Rx.ZcA l)/\l.length<=c'/\(l.length=0\/∃b,a'=some ⟨b,0,none⟩/\m.free b)):=by
 apply Zb4
 unfold Zbn
 have aU:=ZaJ l
 refine Zab (λha=>?_) (λha=>⟨⟨rfl,Int.le_refl _,by decide,by decide⟩,λb hf=>⟨.inl rfl,[],Rx.ZcA l,rfl,aU,.inl rfl,h,Zyu l,by omega,by omega,λa' c' m' hm aR uQ=>⟨rfl,?_⟩⟩⟩)
 ·obtain rfl:a=none:=by simpa using ha
  have h0:l=[]:=by
   rcases h with h|⟨_,_,h,_⟩
   ·rw[h]at aU;exact List.eq_nil_of_length_eq_zero (by simp at aU;omega)
   ·cases h
  subst h0
  exact⟨rfl,none,0,rfl,.inl rfl,Nat.le_refl _,.inl rfl⟩
 ·simp only[Nat.zero_add]at uQ ⊢
  refine⟨a',c',rfl,aR,uQ.1,?_⟩
  rcases(uQ.old (λ_ _ e=>by cases e;rfl)).2 with h1|⟨b',h1,h2|h2⟩
  ·subst h1
   left
   rcases aR with h3|⟨_,_,h3,_⟩
   ·have h4:(Rx.ZcA l).length=0:=congrArg List.length h3
    omega
   ·cases h3
  ·right;rw[<-h2];exact⟨b,rfl,hf⟩
  ·exact .inr ⟨b',h1,h2⟩
theorem ZwP{m:Mem}{b:Nat}{ts r:List T}{x t:T}(h:rowRd m (some ⟨b,0,none⟩) (Rx.ZcA (ts++x::r))):rowRd (m.upd b (0+ts.length*8) t.cs) (some ⟨b,0,none⟩) (Rx.ZcA (ts++t::r)):=by
 rcases h with h|⟨b',o',ha,h⟩
 ·have hl:(Rx.ZcA (ts++x::r)).length=0:=by rw[h];rfl
  rw[ZaJ,List.length_append,List.length_cons]at hl
  omega
 cases ha
 have e:∀y:T,Rx.ZcA (ts++y::r)=Rx.ZcA ts++(y.cs++Rx.ZcA r):=λy=>by simp[Rx.ZcA]
 have h8:∀y:T,y.cs.length=8:=λ_=>rfl
 refine .inr ⟨b,0,rfl,λj v hj=>?_⟩
 rw[e]at hj
 unfold Mem.upd
 rw[Nat.zero_add,Nat.zero_add,h8]
 rcases Nat.lt_or_ge j (ts.length*8)with aS|bR
 ·rw[if_neg (by omega)]
  rw[List.getElem?_append_left (by rw[ZaJ];exact aS)]at hj
  have:=h j v (by rw[e,List.getElem?_append_left (by rw[ZaJ];exact aS)];exact hj)
  rwa [Nat.zero_add]at this
 ·rw[List.getElem?_append_right (by rw[ZaJ];exact bR),ZaJ]at hj
  rcases Nat.lt_or_ge j (ts.length*8+8)with aS|mS
  ·rw[if_pos ⟨rfl,bR,aS⟩]
   rw[List.getElem?_append_left (by rw[h8];omega)]at hj
   exact hj
  ·rw[if_neg (by omega)]
   rw[List.getElem?_append_right (by rw[h8];omega),h8]at hj
   have:=h j v (by
    rw[e,List.getElem?_append_right (by rw[ZaJ];exact bR),ZaJ,List.getElem?_append_right (by rw[h8];omega),h8];exact hj)
   rwa [Nat.zero_add]at this
theorem ZwQ{m m':Mem}(h:m.le m'){b:Nat}(hf:m'.free b):m.free b:=λo=>by
 cases he:m b o with
 | none=>rfl
 | some v=>have:=h _ _ _ he;rw[hf o]at this;cases this
def NewT(m:Mem)(t:T):Prop:=∀x∈t.nodes,x.subs=[]\/∃b,x.a=some ⟨b,0,none⟩/\m.free b
theorem NewT.less{m m':Mem}{t:T}(hn:NewT m' t)(h:m.le m'):NewT m t:=λx hx=>(hn x hx).imp id λ⟨b,e,hf⟩=>⟨b,e,ZwQ h hf⟩
theorem ZuT{m:Mem}{k s0 s1 s2 s3 mn mx:Int}{a:Option Addr}{c:Nat}{l:List T}(h:l=[]\/∃b,a=some ⟨b,0,none⟩/\m.free b)(hl:∀x∈l,NewT m x):NewT m (.node k s0 s1 s2 s3 mn mx a c l):=by
 intro x hx
 simp only[T.nodes,List.mem_cons]at hx
 rcases hx with rfl|hx
 ·exact h
 ·have:∀l:List T,(∀x∈l,NewT m x)->∀x∈Zar l,x.subs=[]\/∃b,x.a=some ⟨b,0,none⟩/\m.free b:=by
   intro l
   induction l with
   | nil=>intro _ x hx;simp[Zar]at hx
   | cons y l ih=>
    intro h x hx
    simp only[Zar,List.mem_append]at hx
    rcases hx with hx|hx
    ·exact h y (by simp) x hx
    ·exact ih (λz hz=>h z (by simp[hz])) x hx
  exact this l hl x hx
theorem Zhc{m:Mem}{t:T}(h:t.subs=[]):NewT m t:=by
 intro x hx
 rw[Zbv,h]at hx
 simp[Zar]at hx
 subst hx;exact .inl h
set_option maxHeartbeats 800000 in
theorem Zgv(t:T)(m:Mem)(hr:Rep m t)(hz:t.nodes.length<=10000):CX Try.prog 86 #[t.v] m [] (Zdx λt'=>t'.er=t.er/\(t'.caps/\NewT m t')):=by
 have bA:szL t.subs<=10000:=by rw[Zcr]at hz;omega
 have dX:t.subs.length<=10000:=Nat.le_trans (ZbN _) bA
 apply Zom
 unfold ZiD
 intro b b1
 refine⟨_,ZiE t.a t.c t.subs m (ZaL hr.subs) (by omega),(λv _ _ ⟨a,c,e,_⟩=>by rw[e];rfl),?_⟩
 rintro a n c m1 aO ⟨a',c',hv,aR,gK,aY⟩
 simp only[Value.slice.injEq]at hv
 obtain⟨rfl,rfl,rfl⟩:=hv
 have cA:∀x∈t.subs,Rep m x:=ZbC hr.subs
 refine⟨λxs css tvs m' q=>∃(k:Nat)(L:List T)(mb:Mem),k<=t.subs.length/\xs=[.int .i64 k]/\q=t.subs.length - k/\L.length=k/\L.map T.er=(t.subs.take k).map T.er/\m.le mb/\mb.le m'/\(t.subs.length=0\/∃b,a=some ⟨b,0,none⟩/\mb.free b)/\(∀x∈L,Rep mb x/\(x.caps/\NewT m x))/\(t.subs.length=0\/∃b,a=some ⟨b,0,none⟩/\m.free b)/\rowRd m' a (Rx.ZcA (L++t.subs.drop k)),⟨_,0,[],m,by omega,rfl,rfl,rfl,rfl,Mem.le_refl _,aO,aY,by simp,aY,aR⟩,?_⟩
 rintro z m2 q _ ⟨k,L,mb,hk,bB,hq,s7,eV,s9,pG,eE,jV,cV,dO⟩
 obtain rfl:z=k:=by simpa using bB
 refine Zab (λaS=>?_) (λbR=>?_)
 ·have aQ:k < t.subs.length:=by have:=of_decide_eq_true aS;omega
  obtain⟨x,hx⟩:=Zb2 aQ
  have cW:=cA x (List.mem_of_getElem? hx)
  have jL:x.nodes.length<=10000:=by
   obtain⟨h1,h2⟩:=List.getElem?_eq_some_iff.1 hx
   have:=congrArg List.length (Zdj hx)
   unfold szL at bA
   simp only[List.length_append]at this
   omega
  have fI:t.subs.drop k=x::t.subs.drop (k+1):=by
   rw[List.drop_eq_getElem_cons aQ,(List.getElem?_eq_some_iff.1 hx).2]
  rcases eE with eE|⟨bk,rfl,dE⟩
  ·omega
  obtain⟨b0,o0,eL,bC⟩:=ZcH dO (i:=k) (t:=x) (by rw[List.getElem?_append_right (by omega),s7,Nat.sub_self,fI];rfl)
  cases eL
  have hw:IntKind.i64.wrap ((k:Int)+1)=((k+1:Nat):Int):=by rw[ZaA (by omega) (by omega)];rfl
  simp only[hw,Int.toNat_natCast]
  have gW:CX Try.prog 86 #[x.v] m2 [] (Zxq mb m2 λt'=>t'.er=x.er/\(t'.caps/\NewT mb t')):=(Zgv x mb (Rep.mono s9 x cW) jL).frame2 pG
  refine⟨bk,0,rfl,⟨by omega,by omega⟩,_,_,_,_,_,_,_,_,bC,λb3=>Zaa rfl ⟨λ_ _ _=>Zxq mb m2 λt'=>t'.er=x.er/\(t'.caps/\NewT mb t'),Zxq mb m2 λt'=>t'.er=x.er/\(t'.caps/\NewT mb t'),rfl,gW,Zr1,Zyr λt' m0 m3 aX h0 bT dD hr' ht'=>⟨bk,0,rfl,⟨by omega,by omega⟩,λM eC fQ=>⟨rfl,by omega,by trivial,by trivial,t.subs.length - (k+1),by omega,k+1,L++[t'],m0,by omega,rfl,rfl,by simp[s7],?_,mLt s9 h0,?_,.inr ⟨bk,rfl,?_⟩,?_,cV,?_⟩⟩⟩⟩
  ·rw[List.map_append,eV,Zcd hx,List.map_append]
   simp[ht'.1]
  ·refine Mem.le_upd (mLt bT fQ) ?_ _ _
   intro o'
   have hc:m2 bk (0+k*8+0)=some (.int .u8 x.k):=bC 0 _ rfl
   rw[dD _ _ _ hc o'];exact dE o'
  ·intro o'
   have hc:m2 bk (0+k*8+0)=some (.int .u8 x.k):=bC 0 _ rfl
   rw[dD _ _ _ hc o'];exact dE o'
  ·intro y hy
   rcases List.mem_append.1 hy with hy|hy
   ·exact⟨Rep.mono h0 y (jV y hy).1,(jV y hy).2⟩
   ·simp at hy;subst hy;exact⟨hr',ht'.2.1,ht'.2.2.less s9⟩
  ·rw[fI]at dO
   have h5:=ZwP (t:=t') (dO.mono eC)
   rw[s7]at h5
   rw[List.append_assoc]
   exact h5
 ·have dQ:k=t.subs.length:=by have:=of_decide_eq_false bR;omega
  subst dQ
  rw[List.drop_length,List.append_nil]at dO
  rw[List.take_length]at eV
  have aZ:=Zwl hr
  refine⟨m2,mLt s9 pG,Mem.le_refl _,.node t.k t.s0 t.s1 t.s2 t.s3 t.mn t.mx a c L,?_,?_,?_⟩
  ·simp only[T.v,T.k,T.s0,T.s1,T.s2,T.s3,T.mn,T.mx,T.a,T.c,T.subs,s7]
  ·have:=ZdU dO (λx hx=>Rep.mono pG x (jV x hx).1) (by omega)
   exact Zx0 this.1 this.2 aZ
  ·have:=Zs2 (k:=t.k) (s0:=t.s0) (s1:=t.s1) (s2:=t.s2) (s3:=t.s3) (mn:=t.mn) (mx:=t.mx) (a:=a) (a':=t.a) (c:=c) (c':=t.c) eV
   refine⟨this.trans ?_,Zgm (by omega) λx hx=>(jV x hx).2.1,ZuT (cV.imp (λh=>List.eq_nil_of_length_eq_zero (by omega)) id) λx hx=>(jV x hx).2.2⟩
   cases t;rfl
termination_by SizeOf.sizeOf t
decreasing_by exact Zdk (List.mem_of_getElem? hx)
end Go.Proofs.Ytfgfahnakepegaa
