/- Part of the proof: functions of the program. No condition. -/
import Derived.Test.YtojlhhphofhaoaaGreatDoorPVA
import Derived.Test.YtojlhhphofhaoaaGreatDoorMr
import Derived.Test.YtojlhhphofhaoaaGreatDoorPEnv
import Derived.Test.YtojlhhphofhaoaaGreatDoorMc
import Derived.Laws.StructEq
import Derived.Laws.Tables
import Derived.Laws.Cover2
import Derived.Laws.Externs
set_option linter.unusedVariables false
set_option linter.unusedSimpArgs false
set_option linter.unusedSectionVars false
namespace Go.Proofs.YtojlhhphofhaoaaGreatDoor
open Go Go.Eng Go.Rx Go.Proofs Go.RowKit
set_option maxRecDepth 100000
theorem ZiS(t:T)(m:Mem):CX Tryz.prog 94 #[t.v] m [] (λv m' _=>∃b,v=.func (.func 122) #[] #[.pointer (some ⟨b,0,none⟩)]/\m'.reads b 0 t.cs):=by
 apply ZqJ
 intro b m' hm hb
 exact⟨m',hm,Mem.le_refl _,b,rfl,hb⟩
theorem Zf2(t:T)(m:Mem)(c0b:Nat)(cK:m.reads c0b 0 t.cs)(dO:Rep m t):IX Tryz.prog 122 [] [.pointer (some ⟨c0b,0,none⟩)] m (t.nodes.map λx=>[x.v]):=by
 apply ZlI 0 [] [] c0b 0
 intro l b m' hm hb
 have kP:=cK.mono hm
 refine⟨_,_,_,_,_,_,_,_,kP,⟨rfl,by omega,?_⟩,?_,.inr rfl⟩
 ·rw[ZcM];rfl
 refine⟨t.sl,kP 7 _ rfl,Zaa rfl ?_⟩
 refine⟨λxs _ _ m'' q=>∃i:Nat,i<=t.subs.length/\xs=[.int .i64 ((1+(ZaB (t.subs.take i)).length:Nat):Int),.int .i64 i]/\m'.le m''/\q=t.subs.length - i,⟨t.subs.length,0,by omega,?_,Mem.le_refl _,by omega⟩,?_⟩
 ·simp[ZaB]
 rintro y n m2 q aM ⟨i,hi,cQ,fT,hq⟩
 simp only[List.cons.injEq,Value.int.injEq,true_and,and_true]at cQ
 obtain⟨rfl,rfl⟩:=cQ
 have bA:slN t.sl=t.subs.length:=rfl
 rw[bA]
 refine Zab (λaO=>?_) (λbO=>?_)
 ·have aW:i < t.subs.length:=by simpa using aO
  obtain⟨x,hx⟩:∃x,t.subs[i]?=some x:=⟨_,zA3 aW⟩
  have cA:x∈t.subs:=zA2 hx
  have bV:=Zsg cA
  obtain⟨nq,h0|⟨b1,o1,ha,fJ⟩⟩:=Zkf dO
  ·rw[h0]at aW;simp at aW
  obtain⟨dI,dU⟩:=(fJ.mono ((mLt hm fT))).get hx
  refine Zaa rfl ⟨b1,o1,ha,⟨by omega,by omega⟩,_,_,_,_,_,_,_,_,dI,λb2=>Zaa rfl ?_⟩
  refine⟨_,trivial,ZiS x m2,λv m' css h=>?_,?_⟩
  ·obtain⟨b3,rfl,_⟩:=h;rfl
  rintro g fi ca m3 aY ⟨b3,hv,eY⟩
  obtain⟨rfl,rfl,rfl⟩:=ZbZ hv
  refine⟨_,Zf2 x m3 b3 eY (dU.mono aY),λy hy=>?_,?_⟩
  ·obtain⟨z,_,rfl⟩:=List.mem_map.1 hy;exact Zsh z
  refine⟨λxs _ _ m'' q=>q<=x.nodes.length/\xs=[.int .i64 ((1+(ZaB (t.subs.take i)).length+q:Nat):Int)]/\m3.le m'',⟨Nat.zero_le _,rfl,Mem.le_refl _⟩,?_,?_⟩
  ·rintro y n0 n1 n2 n3 n4 n5 n6 a n7 c m4 q bP hq ⟨gL,hy,_⟩ b4
   simp only[List.cons.injEq,Value.int.injEq,true_and,and_true]at hy
   subst hy
   have hq':(List.map (λz:T=>[z.v]) x.nodes)[(q:Nat)]?=some [Value.agg #[.int .u8 n0,.int .u64 n1,.int .u64 n2,.int .u64 n3,.int .u64 n4,.int .i64 n5,.int .i64 n6,.slice a n7 c]]:=hq
   rw[List.getElem?_map]at hq'
   obtain⟨z,hz,iu⟩:=Option.map_eq_some_iff.1 hq'
   have qO:q < x.nodes.length:=(zA0 hz).1
   refine⟨⟨rfl,by omega,?_⟩,⟨rfl,by omega,?_,bP⟩,rfl,.inr rfl⟩
   ·rw[zA8]
    show(t.nodes.map λx=>[x.v])[1+(ZaB (t.subs.take i)).length+q]?=_
    rw[List.getElem?_map,ZxV hx hz,<-iu];rfl
   ·congr 2
  ·rintro y m4 bP ⟨gL,hy,_⟩
   simp only[List.cons.injEq,Value.int.injEq,true_and,and_true]at hy
   subst hy
   refine⟨rfl,t.subs.length - (i+1),by omega,i+1,by omega,?_,mLt fT (mLt aY bP),rfl⟩
   rw[Zan (by omega) (by omega),ZpO hx,zA1]
   simp[T.v,Nat.add_assoc]
 ·have hi':i=t.subs.length:=by
   have:¬((i:Int) < (t.subs.length:Int)):=by simpa using bO
   omega
  subst hi'
  left
  rw[List.take_length,ZcM]
  simp
  omega
termination_by SizeOf.sizeOf t
decreasing_by exact bV
theorem ZvM(least most:Int)(m:Mem):CX Tryz.prog 207 #[.int .i64 least,.int .i64 most] m [] (Ret (.bool (ZkW least most))):=by
 apply Zn5
 refine⟨decide (least < 0)||decide (least > 16)||(least == 1&&most == 1),?_,Zab (λh=>Zac (Mem.le_refl _) ?_) (λh=>⟨most == -1||(decide (most ≥ 1)&&decide (most<=16)&&decide (most ≥ least)),?_,Zac (Mem.le_refl _) ?_⟩)⟩
 ·simp only[Zu7];(repeat' split) <;> simp_all <;> omega
 ·simp[Ret,ZkW,h]
 ·simp only[Zu7];(repeat' split) <;> simp_all <;> omega
 ·simp[Ret,ZkW,h]
theorem Zn7(l:List T)(a:Option Addr)(c:Nat)(g:Nat)(ca:List Value)(p:T->Bool)(m:Mem)(hl:l.length<=1000000000000000)(hr:l=[]\/∃b o,a=some ⟨b,o,none⟩/\RepAt m b o l)
  (hp:∀x∈l,∀m',m.le m'->Rep m' x->CX Tryz.prog g (x.v::ca).toArray m' [] (Ret (.bool (p x)))):
  CX Tryz.prog 217 #[.slice a l.length c,.func (.func g) #[] ca.toArray] m [] (Ret (.int .i64 (if l.any p then(l.findIdx p:Nat)else(-1:Int)))):=by
 apply ZbD a l.length c g [] ca
 refine⟨λxs _ _ m'' q=>∃i:Nat,i<=l.length/\xs=[.int .i64 i]/\(∀x∈l.take i,p x=false)/\m.le m''/\q=l.length - i,⟨l.length,0,by omega,rfl,by simp,Mem.le_refl _,by omega⟩,?_⟩
 rintro n m' q hm ⟨i,hi,hn,gk,bW,hq⟩
 obtain rfl:n=i:=by simpa using hn
 refine Zab (λaO=>?_) (λbO=>?_)
 ·have aW:i < l.length:=by simpa using aO
  obtain⟨x,hx⟩:∃x,l[i]?=some x:=⟨_,zA3 aW⟩
  have cA:x∈l:=zA2 hx
  rcases hr with h0|⟨b1,o1,ha,fJ⟩
  ·rw[h0]at aW;simp at aW
  obtain⟨dI,dU⟩:=(fJ.mono hm).get hx
  refine⟨b1,o1,ha,⟨by omega,by omega⟩,_,_,_,_,_,_,_,_,dI,Zae (hp x cA m' hm dU) λm1 aB=>Zab (λfY=>?_) (λfY=>?_)⟩
  ·refine Zac (mLt hm aB) ?_
   have fC:l.any p=true:=List.any_eq_true.2 ⟨x,cA,fY⟩
   have gx:l.findIdx p=i:=by
    rw[List.findIdx_eq aW]
    refine⟨by rw[(zA0 hx).2];exact fY,λj hj=>?_⟩
    exact gk _ (List.mem_of_getElem? (i:=j) (by rw[List.getElem?_take_of_lt hj];exact zA3 (by omega)))
   simp[Ret,fC,gx]
  ·refine⟨l.length - (i+1),by omega,i+1,by omega,by rw[Zan (by omega) (by omega)];rfl,?_,mLt hm aB,rfl⟩
   intro y hy
   rw[List.take_add_one,hx]at hy
   rcases List.mem_append.1 hy with hy|hy
   ·exact gk y hy
   ·simp at hy;rw[hy];exact fY
 ·have hi':i=l.length:=by
   have:¬((i:Int) < (l.length:Int)):=by simpa using bO
   omega
  subst hi'
  refine Zac hm ?_
  have fC:l.any p=false:=by
   rw[List.any_eq_false]
   rw[List.take_length]at gk
   exact λx hx=>by simp[gk x hx]
  simp[Ret,fC]
theorem Zid(l:List T)(a:Option Addr)(c:Nat)(g:Nat)(ca:List Value)(p:T->Bool)(m:Mem)(hl:l.length<=1000000000000000)(hr:l=[]\/∃b o,a=some ⟨b,o,none⟩/\RepAt m b o l)
  (hp:∀x∈l,∀m',m.le m'->Rep m' x->CX Tryz.prog g (x.v::ca).toArray m' [] (Ret (.bool (p x)))):
  CX Tryz.prog 211 #[.slice a l.length c,.func (.func g) #[] ca.toArray] m [] (Ret (.bool (l.any p))):=by
 apply Zbl a l.length c g [] ca
 refine Zav (Zn7 l a c g ca p m hl hr hp) λm' hm=>Zac hm ?_
 cases h:l.any p <;> simp[Ret]
theorem ZAA(t:T)(k:Int)(b:Nat)(m:Mem)(hb:m.reads b 0 [.int .u8 k]):CX Tryz.prog 212 #[t.v,.pointer (some ⟨b,0,none⟩)] m [] (Ret (.bool (t.k == k))):=by
 apply ZqM (c0b:=b) (c0o:=0)
 intro b' m' hm _
 exact⟨_,hm _ _ _ (hb 0 _ rfl),Zaa rfl (Zac hm rfl)⟩
theorem ZvN(t:T)(k:Int)(m:Mem)(hr:Rep m t):CX Tryz.prog 206 #[t.v,.int .u8 k] m [] (Ret (.bool (t.has k))):=by
 apply ZvI
 intro b m1 aB _ b2 m2 aM eR
 have hr':=Zkf (hr.mono (mLt aB aM))
 exact Zae (Zid t.subs t.a t.c _ [.pointer (some ⟨b2,0,none⟩)] (λx=>x.k == k) m2 hr'.1 hr'.2 λx _ m' hm' _=>ZAA x k b2 m' (eR.mono hm')) λm3 aY=>Zac (mLt aB (mLt aM aY)) rfl
theorem Zed(t:T)(m:Mem)(hr:Rep m t):CX Tryz.prog 69 #[t.v] m [] (Ret (.bool t.light)):=by
 apply ZqK
 intro b m1 aB _ b2
 refine Zai (ZiS t m1) (λv m' css h=>by obtain⟨_,rfl,_⟩:=h;rfl) ?_
 rintro g fi ca m2 aM ⟨b3,hv,eY⟩
 obtain⟨rfl,rfl,rfl⟩:=ZbZ hv
 have bW:=mLt aB aM
 refine⟨_,Zf2 t m2 b3 eY (hr.mono bW),λy hy=>?_,λ_ css _ m' q=>css=[[.int .i64 q]]/\q<=10000/\q<=t.nodes.length,⟨rfl,by omega,by omega⟩,?_,?_⟩
 ·obtain⟨z,_,rfl⟩:=List.mem_map.1 hy;exact Zsh z
 ·rintro n0 n1 n2 n3 n4 n5 n6 a n7 c cs m3 q aY hq ⟨cD,gL,_⟩
  obtain rfl:cs=[.int .i64 q]:=by simpa using cD
  have aO:q < t.nodes.length:=by
   have:=(zA0 (show(List.map (λz:T=>[z.v]) t.nodes)[(q:Nat)]?=some _ from hq)).1
   simpa using this
  refine Zaq rfl (Zaa rfl ?_)
  have hw:IntKind.i64.wrap (intOf (Value.int .i64 (q:Int))+1)=(q:Int)+1:=Zan (n:=(q:Int)+1) (by omega) (by omega)
  simp only[hw]
  refine Zab (λh=>⟨by trivial,Zac (mLt bW aY) ?_⟩) (λh=>⟨by trivial,?_,?_,by omega⟩)
  ·have:((q:Int)+1 > 10000):=by simpa using h
   simp[Ret,T.light];omega
  ·simp
  ·have:¬((q:Int)+1 > 10000):=by simpa using h
   omega
 ·rintro cs m3 aY ⟨cD,gL,_⟩
  obtain rfl:cs=[.int .i64 t.nodes.length]:=by simpa using cD
  refine Zaq rfl (Zaa rfl (Zac (mLt bW aY) ?_))
  show Value.bool (decide ((t.nodes.length:Int)<=10000))=Value.bool t.light
  congr 1
  rw[T.light,decide_eq_decide];omega
end Go.Proofs.YtojlhhphofhaoaaGreatDoor
namespace Go.Proofs.YtojlhhphofhaoaaGreatDoor
open Go Go.Eng Go.Proofs Go.RowKit
theorem Zie{P:Program}{T:TypeId}(hg:P.eqGuardType P.depth T=false)(op:BinOp)(ox oy:Operand)(xs ys:Array Value)(w:World):(eqGuard op T ox oy (.agg xs) (.agg ys)).run P w=.ok () w:=by
 unfold eqGuard
 have h1:(P.eqGuardType P.depth T)=true->False:=λh=>by rw[hg]at h;cases h
 split
 ·simp[go_sem];exact λh=>(h1 h).elim
 ·simp[go_sem];exact λh=>(h1 h).elim
 ·simp
theorem Zyn(a b c d a' b' c' d':Int):EqIs Tryz.prog 49 (.agg #[.int .u64 a,.int .u64 b,.int .u64 c,.int .u64 d]) (.agg #[.int .u64 a',.int .u64 b',.int .u64 c',.int .u64 d']) (a == a'&&b == b'&&c == c'&&d == d'):=by
 refine⟨λw=>?_,λop ox oy w=>Zie (by kernel_rfl) op ox oy _ _ w⟩
 have u3:=Tryz.underlying47
 have a3:=Tryz.isAgg47
 have z3:=Tryz.sizeOf47
 rw[Op.equal,Op.maxDepth,show(10000:Nat)=9999+1 from rfl,Op.equalIn]
 simp only[Sem.run_bind,run_underlying Tryz.underlying49,Result.andThen_ok]
 simp only[Std.Legacy.Range.forIn_eq_forIn_range',Std.Legacy.Range.size,Nat.sub_zero,Nat.add_sub_cancel,Nat.div_one,List.range'_succ,List.range'_zero,List.forIn_cons,List.forIn_nil]
 go_simp
 by_cases h1:a=a' <;> by_cases h2:b=b' <;> by_cases h3:c=c' <;> by_cases h4:d=d' <;> simp[h1,h2,h3,h4]
end Go.Proofs.YtojlhhphofhaoaaGreatDoor
namespace Go.Proofs.YtojlhhphofhaoaaGreatDoor
open Go Go.Eng Go.Rx Go.Proofs Go.RowKit
set_option maxRecDepth 100000
theorem Zyo(t:T)(m:Mem)(hr:Rep m t):CX Tryz.prog 198 #[t.v] m [] (Ret (.bool t.right)):=by
 apply ZqN
 intro b m1 aB _
 have eM:=hr.mono aB
 refine⟨t.k != 2&&!t.setZ||(t.k != 5&&(t.mn != 0||t.mx != 0)||(decide (t.k < 3)&&decide (0 < t.subs.length))),?_,Zab (λh=>Zac aB ?_) (λh=>?_)⟩
 ·refine Zab (λh1=>?_) (λh1=>?_)
  ·refine⟨t.setZ,Zyn _ _ _ _ _ _ _ _,?_⟩
   simp only[Zu7]
   (repeat' split) <;> simp_all <;> omega
  ·simp only[Zu7]
   (repeat' split) <;> simp_all <;> omega
 ·simp[Ret,T.right,h]
 ·refine Zab (λh1=>Zac aB ?_) (λh1=>Zab (λh2=>⟨t.setZ,Zyn _ _ _ _ _ _ _ _,Zac aB ?_⟩) (λh2=>Zab (λh3=>?_) (λh3=>Zab (λh4=>?_) (λh4=>Zab (λh5=>?_) (λh5=>?_)))))
  ·have:t.k=1:=by simpa using h1
   show Value.bool _=Value.bool t.right;rw[T.right,h];simp[this]
  ·have:t.k=2:=by simpa using h2
   show Value.bool _=Value.bool t.right;rw[T.right,h];simp[this]
  ·have:t.k=3:=by simpa using h3
   refine⟨decide (1 < t.subs.length)&&(!t.has 1&&!t.has 3),Zab (λh4=>?_) (λh4=>?_),Zac aB ?_⟩
   ·refine Zae (ZvN t 1 m1 eM) λm2 aM=>Zab (λh5=>?_) (λh5=>?_)
    ·refine Zae (ZvN t 3 m2 (eM.mono aM)) λm3 aY=>⟨rfl,Zah ?_⟩
     simp_all <;> (intros;omega)
    ·refine⟨rfl,Zah ?_⟩
     simp_all <;> (intros;omega)
   ·refine⟨rfl,Zah ?_⟩
    simp_all <;> (intros;omega)
   ·show Value.bool _=Value.bool t.right;rw[T.right,h];simp[this]
  ·have:t.k=4:=by simpa using h4
   refine⟨decide (1 < t.subs.length)&&!t.has 4,Zab (λh4=>?_) (λh4=>?_),Zac aB ?_⟩
   ·refine Zae (ZvN t 4 m1 eM) λm2 aM=>⟨rfl,Zah ?_⟩
    simp_all <;> (intros;omega)
   ·refine⟨rfl,Zah ?_⟩
    simp_all <;> (intros;omega)
   ·show Value.bool _=Value.bool t.right;rw[T.right,h];simp[this]
  ·have:t.k=5:=by simpa using h5
   refine⟨t.subs.length == 1&&(ZkW t.mn t.mx&&!t.has 1),Zab (λh4=>?_) (λh4=>?_),Zac aB ?_⟩
   ·refine Zae (ZvM t.mn t.mx m1) λm2 aM=>Zab (λh5=>?_) (λh5=>?_)
    ·refine Zae (ZvN t 1 m2 (eM.mono aM)) λm3 aY=>⟨rfl,Zah ?_⟩
     have h4':((t.subs.length:Int) == 1)=true:=h4
     have:t.subs.length=1:=by have:=zA6 h4';omega
     simp_all <;> (intros;omega)
    ·refine⟨rfl,Zah ?_⟩
     simp_all <;> (intros;omega)
   ·refine⟨rfl,Zah ?_⟩
    have h4':((t.subs.length:Int) == 1)=false:=h4
    have:¬t.subs.length=1:=by have:=of_decide_eq_false h4';omega
    simp_all <;> (intros;omega)
   ·show Value.bool _=Value.bool t.right;rw[T.right,h];simp[this]
  ·refine⟨t.k == 6&&t.subs.length == 1,Zab (λh4=>⟨rfl,Zah ?_⟩) (λh4=>⟨rfl,Zah ?_⟩),Zac aB ?_⟩
   ·have:(t.k == 6)=true:=h4
    rw[this,Bool.true_and]
    show(decide ((t.subs.length:Int)=1))=decide (t.subs.length=1)
    rw[decide_eq_decide];omega
   ·have:(t.k == 6)=false:=h4
    simp[this]
   ·show Value.bool _=Value.bool t.right;rw[T.right,h]
    have e1:¬t.k=1:=by simpa using h1
    have e2:¬t.k=2:=by simpa using h2
    have e3:¬t.k=3:=by simpa using h3
    have e4:¬t.k=4:=by simpa using h4
    have e5:¬t.k=5:=by simpa using h5
    simp[e1,e2,e3,e4,e5]
theorem Zyp(t:T)(m:Mem)(hr:Rep m t):CX Tryz.prog 180 #[t.v] m [] (Ret (.bool t.clean)):=by
 apply ZqO
 intro b m1 aB _ b2
 refine Zae (Zed t m1 (hr.mono aB)) λm2 aM=>Zab (λh=>Zac (mLt aB aM) ?_) (λh=>?_)
 ·have:t.light=false:=by simpa using h
  simp[Ret,T.clean,this]
 have hl:t.light=true:=by simpa using h
 refine Zai (ZiS t m2) (λv m' css h=>by obtain⟨_,rfl,_⟩:=h;rfl) ?_
 rintro g fi ca m3 aY ⟨b3,hv,eY⟩
 obtain⟨rfl,rfl,rfl⟩:=ZbZ hv
 have bW:=mLt aB (mLt aM aY)
 refine⟨_,Zf2 t m3 b3 eY (hr.mono bW),λy hy=>?_,λ_ css _ m' q=>m3.le m'/\∀x∈t.nodes.take q,x.right=true,⟨Mem.le_refl _,by simp⟩,?_,?_⟩
 ·obtain⟨z,_,rfl⟩:=List.mem_map.1 hy;exact Zsh z
 ·rintro n0 n1 n2 n3 n4 n5 n6 a n7 c cs m4 q bP hq ⟨_,gL⟩ b4
  have hq':(List.map (λz:T=>[z.v]) t.nodes)[(q:Nat)]?=some [Value.agg #[.int .u8 n0,.int .u64 n1,.int .u64 n2,.int .u64 n3,.int .u64 n4,.int .i64 n5,.int .i64 n6,.slice a n7 c]]:=hq
  rw[List.getElem?_map]at hq'
  obtain⟨z,hz,iu⟩:=Option.map_eq_some_iff.1 hq'
  have kQ:z.v=Value.agg #[.int .u8 n0,.int .u64 n1,.int .u64 n2,.int .u64 n3,.int .u64 n4,.int .i64 n5,.int .i64 n6,.slice a n7 c]:=by simpa using iu
  have sB:Rep m4 z:=(Zu9 (hr.mono bW) (zA2 hz)).mono bP
  have gA:=Zyo z m4 sB
  rw[kQ]at gA
  refine Zae gA λm5 cL=>Zab (λh=>⟨rfl,Zac (mLt bW (mLt bP cL)) ?_⟩) (λh=>⟨rfl,mLt bP cL,λx hx=>?_⟩)
  ·have oP:z.right=false:=by simpa using h
   have:t.nodes.all T.right=false:=by
    rw[List.all_eq_false];exact⟨z,zA2 hz,by simp[oP]⟩
   simp[Ret,T.clean,this]
  ·rw[List.take_add_one,hz]at hx
   rcases List.mem_append.1 hx with hx|hx
   ·exact gL x hx
   ·simp at hx;rw[hx];simpa using h
 ·rintro cs m4 bP ⟨_,gL⟩
  refine Zac (mLt bW bP) ?_
  rw[List.length_map,List.take_length]at gL
  have:t.nodes.all T.right=true:=List.all_eq_true.2 gL
  simp[Ret,T.clean,this,hl]
theorem ZqR(t:T)(m:Mem)(hr:Rep m t):CX Tryz.prog 60 #[t.v] m [] (Ret (.int .i64 t.size)):=by
 apply ZsE
 intro b m1 aB _
 refine Zae (Zed t m1 (hr.mono aB)) λm2 aM=>Zab (λh=>Zac (mLt aB aM) ?_) (λh=>?_)
 ·have:t.light=false:=by simpa using h
  simp[Ret,T.size,this]
 have hl:t.light=true:=by simpa using h
 have qP:t.nodes.length<=10000:=zA6 hl
 intro b2
 refine Zai (ZiS t m2) (λv m' css h=>by obtain⟨_,rfl,_⟩:=h;rfl) ?_
 rintro g fi ca m3 aY ⟨b3,hv,eY⟩
 obtain⟨rfl,rfl,rfl⟩:=ZbZ hv
 have bW:=mLt aB (mLt aM aY)
 refine⟨_,Zf2 t m3 b3 eY (hr.mono bW),λy hy=>?_,λ_ css _ m' q=>css=[[.int .i64 q]]/\q<=t.nodes.length,⟨rfl,by omega⟩,?_,?_⟩
 ·obtain⟨z,_,rfl⟩:=List.mem_map.1 hy;exact Zsh z
 ·rintro n0 n1 n2 n3 n4 n5 n6 a n7 c cs m4 q bP hq ⟨cD,_⟩
  obtain rfl:cs=[.int .i64 q]:=by simpa using cD
  have aO:q < t.nodes.length:=by
   have:=(zA0 (show(List.map (λz:T=>[z.v]) t.nodes)[(q:Nat)]?=some _ from hq)).1
   simpa using this
  have hw:IntKind.i64.wrap (intOf (Value.int .i64 (q:Int))+1)=(q:Int)+1:=Zan (n:=(q:Int)+1) (by omega) (by omega)
  refine Zaq rfl (Zaa rfl ?_)
  simp only[hw]
  exact⟨by trivial,by simp,by omega⟩
 ·rintro cs m4 bP ⟨cD,gL⟩
  obtain rfl:cs=[.int .i64 t.nodes.length]:=by simpa using cD
  refine Zaq rfl (Zac (mLt bW bP) ?_)
  simp[Ret,T.size,hl]
theorem ZqS(t:T)(m:Mem)(hr:Rep m t):CX Tryz.prog 182 #[t.v] m [] (Ret (.int .i64 t.groups)):=by
 apply Zn6
 intro b m1 aB _
 refine Zae (Zed t m1 (hr.mono aB)) λm2 aM=>Zab (λh=>Zac (mLt aB aM) ?_) (λh=>?_)
 ·have:t.light=false:=by simpa using h
  simp[Ret,T.groups,this]
 have hl:t.light=true:=by simpa using h
 have qP:t.nodes.length<=10000:=zA6 hl
 intro b2
 refine Zai (ZiS t m2) (λv m' css h=>by obtain⟨_,rfl,_⟩:=h;rfl) ?_
 rintro g fi ca m3 aY ⟨b3,hv,eY⟩
 obtain⟨rfl,rfl,rfl⟩:=ZbZ hv
 have bW:=mLt aB (mLt aM aY)
 have gB:∀q,(t.nodes.take q).countP (λx=>x.k == 6)<=10000:=λq=>by
  have h1:=List.countP_le_length (p:=λx:T=>x.k == 6) (l:=t.nodes.take q)
  have h2:(t.nodes.take q).length<=t.nodes.length:=List.length_take_le' _ _
  omega
 refine⟨_,Zf2 t m3 b3 eY (hr.mono bW),λy hy=>?_,λ_ css _ m' q=>css=[[.int .i64 ((t.nodes.take q).countP λx=>x.k == 6:Nat)]]/\q<=t.nodes.length,⟨rfl,by omega⟩,?_,?_⟩
 ·obtain⟨z,_,rfl⟩:=List.mem_map.1 hy;exact Zsh z
 ·rintro n0 n1 n2 n3 n4 n5 n6 a n7 c cs m4 q bP hq ⟨cD,_⟩ b4
  obtain rfl:cs=_:=by simpa using cD
  have hq':(List.map (λz:T=>[z.v]) t.nodes)[(q:Nat)]?=some [Value.agg #[.int .u8 n0,.int .u64 n1,.int .u64 n2,.int .u64 n3,.int .u64 n4,.int .i64 n5,.int .i64 n6,.slice a n7 c]]:=hq
  rw[List.getElem?_map]at hq'
  obtain⟨z,hz,iu⟩:=Option.map_eq_some_iff.1 hq'
  have hk:z.k=n0:=by
   have:z.v=Value.agg #[.int .u8 n0,.int .u64 n1,.int .u64 n2,.int .u64 n3,.int .u64 n4,.int .i64 n5,.int .i64 n6,.slice a n7 c]:=by simpa using iu
   simp[T.v]at this;exact this.1
  have aO:=(zA0 hz).1
  have fO:(t.nodes.take (q+1)).countP (λx=>x.k == 6)=(t.nodes.take q).countP (λx=>x.k == 6)+(if z.k == 6 then 1 else 0):=by
   rw[List.take_add_one,hz,List.countP_append];simp[List.countP_cons]
  refine Zab (λh=>?_) (λh=>?_)
  ·have hw:IntKind.i64.wrap (intOf (Value.int .i64 ((t.nodes.take q).countP λx=>x.k == 6:Nat))+1)=(((t.nodes.take q).countP λx=>x.k == 6:Nat):Int)+1:=Zan (n:=(((t.nodes.take q).countP λx=>x.k == 6:Nat):Int)+1) (by have:=gB q;omega) (by have:=gB q;omega)
   refine Zaq rfl (Zaa rfl ?_)
   simp only[hw]
   refine⟨by trivial,?_,by omega⟩
   rw[fO,hk]
   have:(n0 == 6)=true:=h
   simp[this]
  ·refine⟨rfl,?_,by omega⟩
   rw[fO,hk]
   have:(n0 == 6)=false:=h
   simp[this]
 ·rintro cs m4 bP ⟨cD,gL⟩
  obtain rfl:cs=_:=by simpa using cD
  refine Zaq rfl (Zac (mLt bW bP) ?_)
  simp[Ret,T.groups,hl]
theorem Zif(t:T)(m:Mem)(hr:Rep m t)(hl:t.nodes.length<=10000):CX Tryz.prog 199 #[t.v] m [] (Ret (.int .i64 t.pos)):=by
 apply Zib
 intro b m1 aB _
 have fZ:=ZwV t
 have iR:=Zsi t
 refine Zab (λhk=>?_) (λhk=>?_)
 all_goals
  have hk':(if t.k=2 then(1:Int)else 0)=1/\t.k=2\/(if t.k=2 then(1:Int)else 0)=0/\t.k≠2:=by split <;> simp_all
  refine⟨λxs _ _ m'' q=>∃i:Nat,i<=t.subs.length/\xs=[.int .i64 ((if t.k=2 then 1 else 0)+Ze2 (t.subs.take i)),.int .i64 i]/\m1.le m''/\q=t.subs.length - i,⟨t.subs.length,0,by omega,by simp_all [Ze2],Mem.le_refl _,by omega⟩,?_⟩
  rintro n n1 m2 q aM ⟨i,hi,cQ,_,hq⟩
  have cR:=ZhD (t.subs.take i)
  have eR:=ZwU (t.subs.take i)
  have eY:(t.subs.take i).length<=i:=List.length_take_le _ _
  clear hk'
  generalize hc:(if t.k=2 then(1:Int)else 0)=c at *
  have ug:0<=c/\c<=1:=by rw[<-hc];split <;> omega
  simp only[List.cons.injEq,Value.int.injEq,true_and,and_true]at cQ
  obtain⟨rfl,rfl⟩:=cQ
  refine Zab (λaO=>?_) (λbO=>?_)
  ·have aW:i < t.subs.length:=by simpa using aO
   obtain⟨x,hx⟩:∃x,t.subs[i]?=some x:=⟨_,zA3 aW⟩
   have cA:x∈t.subs:=zA2 hx
   have bV:=Zsg cA
   have sC:=Zvb cA
   obtain⟨_,h0|⟨b1,o1,ha,fJ⟩⟩:=Zkf hr
   ·rw[h0]at aW;simp at aW
   obtain⟨dI,dU⟩:=(fJ.mono ((mLt aB aM))).get hx
   have uQ:=Zi6 x
   refine⟨b1,o1,ha,⟨by omega,by omega⟩,_,_,_,_,_,_,_,_,dI,λb2=>Zaa rfl ?_⟩
   refine Zav (Zif x m2 dU (by omega)) λm3 aY=>⟨rfl,t.subs.length - (i+1),by omega,i+1,by omega,?_,mLt aM aY,rfl⟩
   rw[Zan (by omega) (by omega),Zan (by omega) (by omega),Zva hx,Int.add_assoc]
   rfl
  ·have hi':i=t.subs.length:=by
    have:¬((i:Int) < (t.subs.length:Int)):=by simpa using bO
    omega
   subst hi'
   rw[List.take_length]at cR eR ⊢
   have hF:=ZwT t.mn t.mx
   have lH:0<=(c+Ze2 t.subs)*ZxW t.mn t.mx/\(c+Ze2 t.subs)*ZxW t.mn t.mx<=100020001*10001:=by
    constructor
    ·exact Int.mul_nonneg (by omega) hF.1
    ·exact Int.mul_le_mul (by omega) hF.2 hF.1 (by omega)
   refine Zab (λh5=>Zab (λhx=>Zac (mLt aB aM) ?_) (λhx=>Zac (mLt aB aM) ?_)) (λh5=>Zac (mLt aB aM) ?_)
   ·have e1:t.k=5:=by simpa using h5
    have e2:t.mx=-1:=by simpa using hx
    have hF':ZxW t.mn t.mx=Zhd (ZrA (ZrA t.mn 0) 1) 10001:=by simp[ZxW,e2]
    show Value.int .i64 (Zhd (IntKind.i64.wrap ((c+Ze2 t.subs)*Zhd (ZrA (ZrA t.mn 0) 1) 10001)) 10001)=Value.int .i64 t.pos
    rw[<-hF',Zan (by omega) (by omega),iR,Zzq,if_pos e1];rfl
   ·have e1:t.k=5:=by simpa using h5
    have e2:¬t.mx=-1:=by simpa using hx
    have hF':ZxW t.mn t.mx=Zhd (ZrA (ZrA t.mn 0) t.mx) 10001:=by simp[ZxW,e2]
    show Value.int .i64 (Zhd (IntKind.i64.wrap ((c+Ze2 t.subs)*Zhd (ZrA (ZrA t.mn 0) t.mx) 10001)) 10001)=Value.int .i64 t.pos
    rw[<-hF',Zan (by omega) (by omega),iR,Zzq,if_pos e1];rfl
   ·have e1:¬t.k=5:=by simpa using h5
    show Value.int .i64 (Zhd (c+Ze2 t.subs) 10001)=Value.int .i64 t.pos
    rw[iR,Zzq,if_neg e1]
termination_by SizeOf.sizeOf t
decreasing_by all_goals exact bV
theorem Zn8(t:T)(m:Mem)(hr:Rep m t):CX Tryz.prog 181 #[t.v] m [] (Ret (.int .i64 t.positions)):=by
 apply Zic
 intro b m1 aB _
 refine Zae (Zed t m1 (hr.mono aB)) λm2 aM=>Zab (λh=>Zac (mLt aB aM) ?_) (λh=>?_)
 ·have:t.light=false:=by simpa using h
  simp[Ret,T.positions,this]
 have hl:t.light=true:=by simpa using h
 refine Zav (Zif t m2 (hr.mono (mLt aB aM)) (zA6 hl)) λm3 aY=>Zac (mLt aB (mLt aM aY)) ?_
 simp[Ret,T.positions,hl]
def ZEr(bg en:Bool)(t:T):Value:=.agg #[.bool bg,.bool en,.int .u8 t.k,.int .u64 t.s0,.int .u64 t.s1,.int .u64 t.s2,.int .u64 t.s3,.int .i64 t.mn,.int .i64 t.mx,.slice t.a t.subs.length t.c]
theorem Zyq(bg en:Bool)(t:T)(m:Mem)(hr:Rep m t):CX Tryz.prog 159 #[ZEr bg en t] m [] (Ret (.int .i64 t.check)):=by
 apply ZqQ
 intro b m1 aB _
 refine Zae (Zyp t m1 (hr.mono aB)) λm2 aM=>Zab (λh=>Zac (mLt aB aM) ?_) (λh=>?_)
 ·have:t.clean=false:=by simpa using h
  simp[Ret,T.check,this]
 have j3:=mLt aB aM
 have h1:¬t.clean=false:=by simpa using h
 refine Zav (ZqR t m2 (hr.mono j3)) λm3 aY=>Zab (λh=>Zac (mLt j3 aY) ?_) (λh=>?_)
 ·have h2:t.size > 120:=by simpa using h
  show Value.int .i64 81=Value.int .i64 t.check
  rw[T.check,if_neg h1,if_pos h2]
 have h2:¬t.size > 120:=by simpa using h
 have kR:=mLt j3 aY
 refine Zav (Zn8 t m3 (hr.mono kR)) λm4 bP=>Zab (λh=>Zac (mLt kR bP) ?_) (λh=>?_)
 ·have h3:t.positions > 400:=by simpa using h
  show Value.int .i64 82=Value.int .i64 t.check
  rw[T.check,if_neg h1,if_neg h2,if_pos h3]
 have h3:¬t.positions > 400:=by simpa using h
 have nr:=mLt kR bP
 refine Zav (ZqS t m4 (hr.mono nr)) λm5 cL=>Zab (λh=>Zac (mLt nr cL) ?_) (λh=>Zac (mLt nr cL) ?_)
 ·have h4:t.groups > 9:=by simpa using h
  show Value.int .i64 83=Value.int .i64 t.check
  rw[T.check,if_neg h1,if_neg h2,if_neg h3,if_pos h4]
 ·have h4:¬t.groups > 9:=by simpa using h
  show Value.int .i64 0=Value.int .i64 t.check
  rw[T.check,if_neg h1,if_neg h2,if_neg h3,if_neg h4]
theorem Zn9(l l':List T)(a a':Option Addr)(c c':Nat)(m:Mem)(hl:l.length<=1000000000000000)(hr:l=[]\/∃b o,a=some ⟨b,o,none⟩/\RepAt m b o l)(hr':l'=[]\/∃b o,a'=some ⟨b,o,none⟩/\RepAt m b o l')
  (hp:∀x∈l,∀y∈l',∀m',m.le m'->Rep m' x->Rep m' y->CX Tryz.prog 111 #[x.v,y.v] m' [] (Ret (.bool (x.same y)))):
  CX Tryz.prog 133 #[.slice a l.length c,.slice a' l'.length c',.func (.func 111) #[] #[]] m [] (Ret (.bool (Zd1 l l'))):=by
 apply ZaO a l.length c a' l'.length c' _ [] []
 refine Zab (λh=>Zac (Mem.le_refl _) ?_) (λh=>?_)
 ·have:¬l.length=l'.length:=by
   intro e;rw[e]at h;simp at h
  show Value.bool false=_
  rw[ZpQ this]
 have iC:l.length=l'.length:=by
  have h2:((l.length:Int) == (l'.length:Int))=true:=by simpa using h
  have:=zA6 h2;omega
 refine⟨λxs _ _ m'' q=>∃i:Nat,i<=l.length/\xs=[.int .i64 i]/\Zd1 (l.take i) (l'.take i)=true/\m.le m''/\q=l.length - i,⟨l.length,0,by omega,rfl,by simp[Zd1],Mem.le_refl _,by omega⟩,?_⟩
 rintro n m' q hm ⟨i,hi,hn,dZ,bW,hq⟩
 obtain rfl:n=i:=by simpa using hn
 refine Zab (λaO=>?_) (λbO=>?_)
 ·have aW:i < l.length:=by simpa using aO
  obtain⟨x,hx⟩:∃x,l[i]?=some x:=⟨_,zA3 aW⟩
  obtain⟨y,hy⟩:∃y,l'[i]?=some y:=⟨_,zA3 (by omega)⟩
  have lR:x∈l:=zA2 hx
  have sD:y∈l':=zA2 hy
  rcases hr with h0|⟨b1,o1,ha,fJ⟩
  ·rw[h0]at aW;simp at aW
  rcases hr' with h0|⟨b2,o2,ha',nt⟩
  ·rw[h0]at iC;simp at iC;rw[iC]at aW;simp at aW
  obtain⟨dI,dU⟩:=(fJ.mono hm).get hx
  obtain⟨iy,kU⟩:=(nt.mono hm).get hy
  refine⟨b1,o1,ha,⟨by omega,by omega⟩,_,_,_,_,_,_,_,_,dI,λb3=>Zaa rfl ⟨b2,o2,ha',⟨by omega,by omega⟩,_,_,_,_,_,_,_,_,iy,λb4=>Zaa rfl ?_⟩⟩
  refine Zae (hp x lR y sD m' hm dU kU) λm1 aB=>Zab (λfY=>?_) (λfY=>?_)
  ·have hf:x.same y=false:=by simpa using fY
   refine Zac (mLt hm aB) ?_
   show Value.bool false=_
   rw[Ztl hx hy hf]
  ·have hf:x.same y=true:=by simpa using fY
   refine⟨l.length - (i+1),by omega,i+1,by omega,by rw[Zan (by omega) (by omega)];rfl,ZmK hx hy dZ hf trivial,mLt hm aB,rfl⟩
 ·have hi':i=l.length:=by
   have:¬((i:Int) < (l.length:Int)):=by simpa using bO
   omega
  subst hi'
  refine Zac hm ?_
  rw[List.take_length,iC,List.take_length]at dZ
  show Value.bool true=_
  rw[dZ]
theorem Zxh(t u:T)(m:Mem)(hr:Rep m t)(hu:Rep m u):CX Tryz.prog 111 #[t.v,u.v] m [] (Ret (.bool (t.same u))):=by
 apply ZsG
 intro b m1 aB _ b' m2 aM _
 have hm:=mLt aB aM
 refine⟨t.same u,?_,Zac hm rfl⟩
 rw[ZwR]
 refine Zab (λh1=>⟨_,Zyn _ _ _ _ _ _ _ _,Zab (λh2=>Zab (λh3=>Zab (λh4=>?_) (λh4=>⟨rfl,Zah ?_⟩)) (λh3=>⟨rfl,Zah ?_⟩)) (λh2=>⟨rfl,Zah ?_⟩)⟩) (λh1=>⟨rfl,Zah ?_⟩)
 ·have hr':=Zkf (hr.mono hm)
  have hu':=Zkf (hu.mono hm)
  refine Zae (Zn9 t.subs u.subs t.a u.a t.c u.c m2 hr'.1 hr'.2 hu'.2 λx hx y hy m' _ dI iy=>?_) λm3 aY=>⟨rfl,Zah ?_⟩
  ·have bV:=Zsg hx
   exact Zxh x y m' dI iy
  ·rw[h1,h2,h3,h4];rfl
 ·rw[h1,h2,h3,h4];rfl
 ·rw[h1,h2,h3];rfl
 ·rw[h1,h2];rfl
 ·rw[h1];rfl
termination_by SizeOf.sizeOf t
decreasing_by exact bV
theorem Zxi(t u:T)(m:Mem)(hr:Rep m t)(hu:Rep m u):CX Tryz.prog 80 #[t.v,u.v] m [] (Ret (.bool (t.light&&(u.light&&t.same u)))):=by
 apply ZsH
 intro b m1 aB _ b' m2 aM _
 have hm:=mLt aB aM
 refine⟨t.light&&(u.light&&t.same u),?_,Zac hm rfl⟩
 refine Zae (Zed t m2 (hr.mono hm)) λm3 aY=>Zab (λh1=>?_) (λh1=>⟨rfl,Zah ?_⟩)
 ·refine Zae (Zed u m3 (hu.mono (mLt hm aY))) λm4 bP=>Zab (λh2=>?_) (λh2=>?_)
  ·have cL:=mLt (mLt hm aY) bP
   refine Zae (Zxh t u m4 (hr.mono cL) (hu.mono cL)) λm6 fR=>⟨rfl,Zah ?_⟩
   rw[h1,h2];rfl
  ·refine⟨rfl,Zah ?_⟩
   rw[h1,h2];rfl
 ·rw[h1];rfl
end Go.Proofs.YtojlhhphofhaoaaGreatDoor
namespace Go.Proofs.YtojlhhphofhaoaaGreatDoor
open Go Go.Eng Go.Rx Go.Proofs Go.RowKit
theorem ZrB{b:Bool}{p q:Prop}(h:b=true)(k:p):br b p q:=by subst h;exact k
theorem ZdQ{b:Bool}{p q:Prop}(h:b=false)(k:q):br b p q:=by subst h;exact k
theorem Zas{α:Type}{l:List α}{k:Nat}(h:k < l.length):∃x,l[k]?=some x:=⟨l[k],zA3 h⟩
theorem ZbE(t:T):Rx.Zc2 [t]=t.cs:=by simp[Rx.Zc2]
theorem Zd2{m:Mem}{a:Option Addr}{ts:List T}(h:rowRd m a (Rx.Zc2 ts)){i:Nat}{t:T}(hi:ts[i]?=some t):∃b o,a=some ⟨b,o,none⟩/\m.reads b (o+i*8) t.cs:=by
 rcases h with h|⟨b,o,ha,h⟩
 ·have hl:(Rx.Zc2 ts).length=0:=by rw[h];rfl
  rw[Zat]at hl
  have:=(zA0 hi).1
  omega
 ·refine⟨b,o,ha,λj v hj=>?_⟩
  rw[Nat.add_assoc]
  refine h (i*8+j) v ?_
  have e:ts=ts.take i++(t::ts.drop (i+1)):=by
   have aO:=(zA0 hi).1
   have h2:=List.drop_eq_getElem_cons aO
   rw[(zA0 hi).2]at h2
   rw[<-h2,List.take_append_drop]
  have aO:=(zA0 hi).1
  have sm:=(zA0 hj).1
  rw[e,ZaS,zA4 (by rw[Zat,List.length_take,Nat.min_eq_left (by omega)];omega),Zat,List.length_take,Nat.min_eq_left (by omega),show i*8+j - i*8=j by omega]
  have e2:Rx.Zc2 (t::ts.drop (i+1))=t.cs++Rx.Zc2 (ts.drop (i+1)):=by simp[Rx.Zc2]
  rw[e2,zA5 sm];exact hj
def ZrJ(mb M0:Mem)(φ:T->Prop):Value->Mem->List (List Value)->Prop:=λv M' css=>∃m0,mb.le m0/\m0.le M'/\(∀b o u,M0 b o=some u->∀o',m0 b o'=mb b o')/\ZpS φ v m0 css
theorem Zkp{mb M0:Mem}{φ:T->Prop}{m:Mem}{K:TRK}(k:∀(t:T)(m0 m':Mem),m.le m'->mb.le m0->m0.le m'->(∀b o u,M0 b o=some u->∀o',m0 b o'=mb b o')->Rep m0 t->φ t->K t.k t.s0 t.s1 t.s2 t.s3 t.mn t.mx t.a t.subs.length t.c m'):
  ∀(n0 n1 n2 n3 n4 n5 n6:Int)(a:Option Addr)(n c:Nat)(m':Mem),m.le m'->ZrJ mb M0 φ (.agg #[.int .u8 n0,.int .u64 n1,.int .u64 n2,.int .u64 n3,.int .u64 n4,.int .i64 n5,.int .i64 n6,.slice a n c]) m' []->K n0 n1 n2 n3 n4 n5 n6 a n c m':=by
 rintro n0 n1 n2 n3 n4 n5 n6 a n c m' hm ⟨m0,h1,h2,h3,t,hv,hr,hp⟩
 simp only[T.v,Value.agg.injEq,Array.mk.injEq,List.cons.injEq,Value.int.injEq,Value.slice.injEq,true_and,and_true]at hv
 obtain⟨rfl,rfl,rfl,rfl,rfl,rfl,rfl,rfl,rfl,rfl⟩:=hv
 exact k t m0 m' hm h1 h2 h3 hr hp
theorem ZdD{mb M0:Mem}{φ:T->Prop}:∀(v:Value)(m':Mem) (css:List (List Value)),ZrJ mb M0 φ v m' css->Shape.fits (.agg [.int .u8,.int .u64,.int .u64,.int .u64,.int .u64,.int .i64,.int .i64,.slice]) v=true:=λv _ _ ⟨_,_,_,_,t,e,_⟩=>by rw[e];rfl
def Apart(mb:Mem)(a:Option Addr):Prop:=a=none\/∃b,a=some ⟨b,0,none⟩/\mb.free b
theorem Apart.tok{mb M:Mem}{a a':Option Addr}{n c:Nat}(h:Apart mb a)(hm:mb.le M)(ht:TokFact M a a' n c):Apart mb a':=by
 rcases ht.2 with h1|⟨b,o,h1,h2⟩
 ·exact .inl h1
 rcases h2 with h2|⟨h3,h2⟩
 ·rw[<-h2];exact h
 ·subst h3
  refine .inr ⟨b,h1,λo=>?_⟩
  cases hb:mb b o with
  | none=>rfl
  | some v=>have:=hm _ _ _ hb;rw[h2.1 o]at this;cases this
theorem ZtZ{m:Mem}{a:Option Addr}{ts r:List T}(h:rowRd m a (Rx.Zc2 (ts++r))):rowRd m a (Rx.Zc2 ts):=by
 rw[ZaS]at h
 rcases h with h|⟨b,o,ha,h⟩
 ·exact .inl (List.append_eq_nil_iff.1 h).1
 ·refine .inr ⟨b,o,ha,λj v hj=>h j v ?_⟩
  rw[zA5 (zA0 hj).1];exact hj
theorem Zt0{m:Mem}{b:Nat}{ts:List T}{x t:T}(h:rowRd m (some ⟨b,0,none⟩) (Rx.Zc2 (ts++[x]))):rowRd (m.upd b (0+ts.length*8) t.cs) (some ⟨b,0,none⟩) (Rx.Zc2 (ts++[t])):=by
 refine .inr ⟨b,0,rfl,λj v hj=>?_⟩
 rw[ZaS]at hj
 rcases Nat.lt_or_ge j (ts.length*8)with aO|bO
 ·rw[zA5 (by rw[Zat];exact aO)]at hj
  unfold Mem.upd;try dsimp only
  rw[if_neg (by omega)]
  rcases h with h|⟨b',o',ha,h⟩
  ·have hl:(Rx.Zc2 (ts++[x])).length=0:=by rw[h];rfl
   rw[Zat,zA1]at hl
   simp at hl
  ·cases ha
   refine h j v ?_
   rw[ZaS,zA5 (by rw[Zat];exact aO)];exact hj
 ·rw[zA4 (by rw[Zat];exact bO),Zat,ZbE]at hj
  have h8:=(zA0 hj).1
  have h8':t.cs.length=8:=rfl
  unfold Mem.upd;try dsimp only
  rw[if_pos ⟨rfl,by omega,by omega⟩,show 0+j - (0+ts.length*8)=j - ts.length*8 by omega]
  exact hj
theorem Apart.base{mb m:Mem}{a:Option Addr}{ts:List T}(h:Apart mb a)(aN:rowRd m a (Rx.Zc2 ts))(hn:ts≠[]):∃b,a=some ⟨b,0,none⟩/\mb.free b/\∃o u,m b o=some u:=by
 obtain⟨t,r,rfl⟩:∃t r,ts=t::r:=by cases ts with
  | nil=>exact absurd rfl hn
  | cons t r=>exact⟨t,r,rfl⟩
 obtain⟨b',o,ha,cK⟩:=Zd2 aN (i:=0) (t:=t) rfl
 rcases h with h|⟨b,hb,hf⟩
 ·rw[h]at ha;cases ha
 ·rw[hb]at ha;cases ha
  exact⟨b',hb,hf,_,_,cK 0 (.int .u8 t.k) rfl⟩
theorem ZC5{ts:List T}(h:1 < ts.length):∃r x y,ts=r++[x,y]:=by
 have h1:ts.length - 2 < ts.length:=by omega
 refine⟨ts.take (ts.length - 2),ts[ts.length - 2],ts[ts.length - 1],?_⟩
 have e:=(List.take_append_drop (ts.length - 2) ts).symm
 rw[List.drop_eq_getElem_cons h1,List.drop_eq_getElem_cons (by omega),List.drop_eq_nil_of_le (by omega)]at e
 simpa[show ts.length - 2+1=ts.length - 1 by omega]using e
theorem ZC6{ts:List T}(h:0 < ts.length):∃r x,ts=r++[x]:=by
 refine⟨ts.dropLast,ts.getLast (by intro e;subst e;simp at h),?_⟩
 exact(List.dropLast_concat_getLast _).symm
end Go.Proofs.YtojlhhphofhaoaaGreatDoor
namespace Go.Proofs.YtojlhhphofhaoaaGreatDoor
open Go Go.Eng Go.Rx Go.Proofs Go.RowKit
set_option maxRecDepth 100000
theorem Zar{p:Prop} [Decidable p]{A B:Prop}(ht:p->A)(hf:¬p->B):br (decide p) A B:=Zab (λh=>ht (zA6 h)) (λh=>hf (of_decide_eq_false h))
theorem ZeO(t:E)(m:Mem):CX Tryz.prog 96 #[t.v] m [] (λv m' _=>∃b,v=.func (.func 123) #[] #[.pointer (some ⟨b,0,none⟩)]/\m'.reads b 0 t.cs):=by
 apply ZlB
 intro b m' hm hb
 exact⟨m',hm,Mem.le_refl _,b,rfl,hb⟩
theorem ZdE(t:E)(m:Mem)(c0b:Nat)(cK:m.reads c0b 0 t.cs)(dO:RepE m t):IX Tryz.prog 123 [] [.pointer (some ⟨c0b,0,none⟩)] m (t.nodes.map λx=>[x.v]):=by
 apply Zh7 0 [] [] c0b 0
 intro l b m' hm hb
 have kP:=cK.mono hm
 refine⟨_,_,_,_,_,kP,⟨rfl,by omega,?_⟩,?_,.inr rfl⟩
 ·rw[ZbA];rfl
 refine⟨t.sl,kP 4 _ rfl,Zaa rfl ?_⟩
 refine⟨λxs _ _ m'' q=>∃i:Nat,i<=t.subs.length/\xs=[.int .i64 ((1+(Zap (t.subs.take i)).length:Nat):Int),.int .i64 i]/\m'.le m''/\q=t.subs.length - i,⟨t.subs.length,0,by omega,?_,Mem.le_refl _,by omega⟩,?_⟩
 ·simp[Zap]
 rintro y n m2 q aM ⟨i,hi,cQ,fT,hq⟩
 simp only[List.cons.injEq,Value.int.injEq,true_and,and_true]at cQ
 obtain⟨rfl,rfl⟩:=cQ
 have bA:slN t.sl=t.subs.length:=rfl
 rw[bA]
 refine Zab (λaO=>?_) (λbO=>?_)
 ·have aW:i < t.subs.length:=by simpa using aO
  obtain⟨x,hx⟩:∃x,t.subs[i]?=some x:=⟨_,zA3 aW⟩
  have cA:x∈t.subs:=zA2 hx
  have bV:=ZhE cA
  obtain⟨nq,h0|⟨b1,o1,ha,fJ⟩⟩:=Zeb dO
  ·rw[h0]at aW;simp at aW
  obtain⟨dI,dU⟩:=(fJ.mono' ((mLt hm fT))).get hx
  refine Zaa rfl ⟨b1,o1,ha,⟨by omega,by omega⟩,_,_,_,_,_,dI,λb2=>Zaa rfl ?_⟩
  refine⟨_,trivial,ZeO x m2,λv m' css h=>?_,?_⟩
  ·obtain⟨b3,rfl,_⟩:=h;rfl
  rintro g fi ca m3 aY ⟨b3,hv,eY⟩
  obtain⟨rfl,rfl,rfl⟩:=ZbZ hv
  refine⟨_,ZdE x m3 b3 eY (RepE.mono' dU aY),λy hy=>?_,?_⟩
  ·obtain⟨z,_,rfl⟩:=List.mem_map.1 hy;exact Zkg z
  refine⟨λxs _ _ m'' q=>q<=x.nodes.length/\xs=[.int .i64 ((1+(Zap (t.subs.take i)).length+q:Nat):Int)]/\m3.le m'',⟨Nat.zero_le _,rfl,Mem.le_refl _⟩,?_,?_⟩
  ·rintro y n0 v0 s0 n3 a n7 c m4 q bP hq ⟨gL,hy,_⟩ b4
   simp only[List.cons.injEq,Value.int.injEq,true_and,and_true]at hy
   subst hy
   have hq':(List.map (λz:E=>[z.v]) x.nodes)[(q:Nat)]?=some [Value.agg #[.int .u8 n0,v0,.string s0,.int .i64 n3,.slice a n7 c]]:=hq
   rw[List.getElem?_map]at hq'
   obtain⟨z,hz,iu⟩:=Option.map_eq_some_iff.1 hq'
   have qO:q < x.nodes.length:=(zA0 hz).1
   simp only[E.v,List.cons.injEq,Value.agg.injEq,Array.mk.injEq,Value.int.injEq,Value.string.injEq,Value.slice.injEq,true_and,and_true]at iu
   obtain⟨rfl,rfl,rfl,rfl,rfl,rfl,rfl⟩:=iu
   refine Zaa rfl ⟨⟨rfl,by omega,?_⟩,⟨rfl,by omega,?_,bP⟩,rfl,.inr rfl⟩
   ·rw[zA8]
    show(t.nodes.map λx=>[x.v])[1+(Zap (t.subs.take i)).length+q]?=_
    rw[List.getElem?_map,Zve hx hz];rfl
   ·congr 2
  ·rintro y m4 bP ⟨gL,hy,_⟩
   simp only[List.cons.injEq,Value.int.injEq,true_and,and_true]at hy
   subst hy
   refine⟨rfl,t.subs.length - (i+1),by omega,i+1,by omega,?_,mLt fT (mLt aY bP),rfl⟩
   rw[Zan (by omega) (by omega),Ze3 hx,zA1]
   simp[E.v,Nat.add_assoc]
 ·have hi':i=t.subs.length:=by
   have:¬((i:Int) < (t.subs.length:Int)):=by simpa using bO
   omega
  subst hi'
  left
  rw[List.take_length,ZbA]
  simp
  omega
termination_by SizeOf.sizeOf t
decreasing_by exact bV
theorem ZcW(t:E)(m:Mem)(hr:RepE m t):CX Tryz.prog 95 #[t.v] m [] (Ret (.bool t.light)):=by
 apply ZlC
 intro b m1 aB _ b2
 refine Zai (ZeO t m1) (λv m' css h=>by obtain⟨_,rfl,_⟩:=h;rfl) ?_
 rintro g fi ca m2 aM ⟨b3,hv,eY⟩
 obtain⟨rfl,rfl,rfl⟩:=ZbZ hv
 have bW:=mLt aB aM
 refine⟨_,ZdE t m2 b3 eY (RepE.mono' hr bW),λy hy=>?_,λ_ css _ m' q=>css=[[.int .i64 q]]/\q<=10000/\q<=t.nodes.length,⟨rfl,by omega,by omega⟩,?_,?_⟩
 ·obtain⟨z,_,rfl⟩:=List.mem_map.1 hy;exact Zkg z
 ·rintro n0 v0 s0 n3 a n7 c cs m3 q aY hq ⟨cD,gL,_⟩
  obtain rfl:cs=[.int .i64 q]:=by simpa using cD
  have aO:q < t.nodes.length:=by
   have:=(zA0 (show(List.map (λz:E=>[z.v]) t.nodes)[(q:Nat)]?=some _ from hq)).1
   simpa using this
  refine Zaq rfl (Zaa rfl ?_)
  have hw:IntKind.i64.wrap (intOf (Value.int .i64 (q:Int))+1)=(q:Int)+1:=Zan (n:=(q:Int)+1) (by omega) (by omega)
  simp only[hw]
  refine Zab (λh=>⟨by trivial,Zac (mLt bW aY) ?_⟩) (λh=>⟨by trivial,?_,?_,by omega⟩)
  ·have:((q:Int)+1 > 10000):=by simpa using h
   simp[Ret,E.light];omega
  ·simp
  ·have:¬((q:Int)+1 > 10000):=by simpa using h
   omega
 ·rintro cs m3 aY ⟨cD,gL,_⟩
  obtain rfl:cs=[.int .i64 t.nodes.length]:=by simpa using cD
  refine Zaq rfl (Zaa rfl (Zac (mLt bW aY) ?_))
  show Value.bool (decide ((t.nodes.length:Int)<=10000))=Value.bool t.light
  congr 1
  rw[E.light,decide_eq_decide];omega
theorem Zyr(t:E)(m:Mem)(hr:RepE m t):CX Tryz.prog 107 #[t.v] m [] (Ret (.int .i64 t.size)):=by
 apply ZnV
 intro b m1 aB _ b2
 refine Zae (ZcW t m1 (RepE.mono' hr aB)) λm2 aM=>Zab (λhl=>?_) (λh=>Zac (mLt aB aM) (by simp[Ret,E.size,h]))
 have qP:t.nodes.length<=10000:=zA6 hl
 refine Zai (ZeO t m2) (λv m' css h=>by obtain⟨_,rfl,_⟩:=h;rfl) ?_
 rintro g fi ca m3 aY ⟨b3,hv,eY⟩
 obtain⟨rfl,rfl,rfl⟩:=ZbZ hv
 have bW:=mLt aB (mLt aM aY)
 refine⟨_,ZdE t m3 b3 eY (RepE.mono' hr bW),λy hy=>?_,λ_ css _ m' q=>css=[[.int .i64 q]]/\q<=t.nodes.length,⟨rfl,by omega⟩,?_,?_⟩
 ·obtain⟨z,_,rfl⟩:=List.mem_map.1 hy;exact Zkg z
 ·rintro n0 v0 s0 n3 a n7 c cs m4 q bP hq ⟨cD,_⟩
  obtain rfl:cs=[.int .i64 q]:=by simpa using cD
  have aO:q < t.nodes.length:=by
   have:=(zA0 (show(List.map (λz:E=>[z.v]) t.nodes)[(q:Nat)]?=some _ from hq)).1
   simpa using this
  have hw:IntKind.i64.wrap (intOf (Value.int .i64 (q:Int))+1)=(q:Int)+1:=Zan (n:=(q:Int)+1) (by omega) (by omega)
  refine Zaq rfl (Zaa rfl ?_)
  simp only[hw]
  exact⟨by trivial,by simp,by omega⟩
 ·rintro cs m4 bP ⟨cD,gL⟩
  obtain rfl:cs=[.int .i64 t.nodes.length]:=by simpa using cD
  refine Zaq rfl (Zac (mLt bW bP) ?_)
  simp[Ret,E.size,hl]
theorem ZCl(T:TypeId)(x y:Nat):BinIs Tryz.prog .eql T (.float .f64 x) (.float .f64 y) (.bool (Op.floatEq .f64 x y)):=λox oy w=>by
 simp[eqGuard,binOp,Op.floatCmp,Op.floatEq]
theorem ZAB(T:TypeId)(x y:Nat):BinIs Tryz.prog .neq T (.float .f64 x) (.float .f64 y) (.bool (!Op.floatEq .f64 x y)):=λox oy w=>by
 simp[eqGuard,binOp,Op.floatCmp,Op.floatEq,bne]
theorem ZqT(x:Nat):Zpa Tryz.prog 120 [.float .f64 x] (.int .u64 x):=λw=>by
 rw[run_callFunc_extern Tryz.func120 (by kernel_rfl) (by kernel_rfl) (by kernel_rfl) (e:=Go.Extern.MathFloatBits.float64bits) (by kernel_rfl)]
 rfl
theorem Zt1(n:Nat):Zpa Tryz.prog 124 [.int .u64 n] (.float .f64 n):=λw=>by
 rw[run_callFunc_extern Tryz.func124 (by kernel_rfl) (by kernel_rfl) (by kernel_rfl) (e:=Go.Extern.MathFloatBits.float64frombits) (by kernel_rfl)]
 rfl
theorem ZCm(m:Mem):CX Tryz.prog 142 #[] m [] (Ret (.float .f64 Zz7)):=by
 apply ZlD
 exact⟨_,Zt1 Zz7,Zac (Mem.le_refl _) rfl⟩
theorem Zt2(x:Nat)(m:Mem):CX Tryz.prog 121 #[.float .f64 x] m [] (Ret (.float .f64 (ZgK x))):=by
 apply Zh8
 refine⟨_,ZAB _ x x,Zab (λh=>?_) (λh=>Zac (Mem.le_refl _) ?_)⟩
 ·refine Zai (ZCm m) (s:=.any) (λ_ _ _ _=>rfl) ?_
  intro v m1 aB hv
  have h':Op.floatEq .f64 x x=false:=by simpa using h
  refine Zac aB ?_
  show v=_
  rw[show v=_ from hv];unfold ZgK;rw[h'];rfl
 ·have h':Op.floatEq .f64 x x=true:=by simpa using h
  show Value.float .f64 x=_
  unfold ZgK;rw[h'];rfl
theorem ZqU(x:Nat)(m:Mem):CX Tryz.prog 177 #[.float .f64 x] m [] (Ret (.bool (ZfI x))):=by
 apply Zh9
 refine⟨ZfI x,⟨_,ZCl _ x x,Zab (λh=>?_) (λh=>⟨_,ZqT x,Zaa rfl ?_⟩)⟩,Zac (Mem.le_refl _) rfl⟩
 ·unfold ZfI;rw[h];rfl
 ·unfold ZfI;rw[h,Bool.false_or]
  exact Zah (show decide ((x:Int)=9221120237041090561)=decide (x=Zz7) from decide_eq_decide.2 (by unfold Zz7;omega))
theorem ZoU(x y:Nat)(m:Mem):CX Tryz.prog 90 #[.float .f64 x,.float .f64 y] m [] (Ret (.bool (ZmO x y))):=by
 apply Zjz
 refine Zai (Zt2 x m) (s:=.any) (λ_ _ _ _=>rfl) ?_
 intro v m1 aB hv
 refine⟨.int .u64 (ZgK x),by rw[show v=_ from hv];exact ZqT _,?_⟩
 refine Zai (Zt2 y m1) (s:=.any) (λ_ _ _ _=>rfl) ?_
 intro u m2 aM hu
 refine⟨.int .u64 (ZgK y),by rw[show u=_ from hu];exact ZqT _,Zaa rfl (Zac (mLt aB aM) ?_)⟩
 show Value.bool _=_
 congr 1
 exact show decide ((ZgK x:Int)=ZgK y)=decide (ZgK x=ZgK y) from decide_eq_decide.2 (by omega)
def Zf3(l:List ByteArray):List Value:=l.map λs=>.string s
theorem Zc0{m:Mem}{a:Option Addr}{l:List ByteArray}(h:rowRd m a (Zf3 l)){k:Nat}{s:ByteArray}(hk:l[k]?=some s):∃b o,a=some ⟨b,o,none⟩/\m b (o+k*1)=some (.string s):=by
 rcases h with h|⟨b,o,ha,h⟩
 ·have:l=[]:=by simpa[Zf3]using h
  rw[this]at hk;simp at hk
 ·exact⟨b,o,ha,by rw[Nat.mul_one];exact h k _ (by rw[Zf3,List.getElem?_map,hk];rfl)⟩
theorem ZvO(l:List ByteArray)(a:Option Addr)(c:Nat)(s:ByteArray)(m:Mem)(hl:l.length<=1000000000000000)(hr:rowRd m a (Zf3 l)):
  CX Tryz.prog 190 #[.slice a l.length c,.string s] m [] (Ret (.int .i64 (if l.any (λy=>eqS s y)then(l.findIdx (λy=>eqS s y):Nat)else(-1:Int)))):=by
 apply Zcq
 refine⟨λxs _ _ m'' q=>∃i:Nat,i<=l.length/\xs=[.int .i64 i]/\(∀x∈l.take i,eqS s x=false)/\q=l.length - i,⟨l.length,0,by omega,rfl,by simp,by omega⟩,?_⟩
 rintro n m' q hm ⟨i,hi,hn,gk,hq⟩
 obtain rfl:n=i:=by simpa using hn
 refine Zab (λaO=>?_) (λbO=>?_)
 ·have aW:i < l.length:=by simpa using aO
  obtain⟨x,hx⟩:∃x,l[i]?=some x:=⟨_,zA3 aW⟩
  have cA:x∈l:=zA2 hx
  obtain⟨b1,o1,ha,eW⟩:=Zc0 (hr.mono hm) hx
  refine⟨b1,o1,ha,⟨by omega,by omega⟩,_,eW,Zaa rfl (Zab (λfY=>?_) (λfY=>?_))⟩
  ·refine Zac hm ?_
   have fC:l.any (λy=>eqS s y)=true:=List.any_eq_true.2 ⟨x,cA,fY⟩
   have gx:l.findIdx (λy=>eqS s y)=i:=by
    rw[List.findIdx_eq aW]
    refine⟨by rw[(zA0 hx).2];exact fY,λj hj=>?_⟩
    exact gk _ (List.mem_of_getElem? (i:=j) (by rw[List.getElem?_take_of_lt hj];exact zA3 (by omega)))
   simp[Ret,fC,gx]
  ·refine⟨l.length - (i+1),by omega,i+1,by omega,by rw[Zan (by omega) (by omega)];rfl,?_,rfl⟩
   intro y hy
   rw[List.take_add_one,hx]at hy
   rcases List.mem_append.1 hy with hy|hy
   ·exact gk y hy
   ·simp at hy;rw[hy];exact fY
 ·have hi':i=l.length:=by
   have:¬((i:Int) < (l.length:Int)):=by simpa using bO
   omega
  subst hi'
  refine Zac hm ?_
  have fC:l.any (λy=>eqS s y)=false:=by
   rw[List.any_eq_false]
   rw[List.take_length]at gk
   exact λx hx=>by simp[gk x hx]
  simp[Ret,fC]
theorem Zig(l:List ByteArray)(a:Option Addr)(c:Nat)(s:ByteArray)(m:Mem)(hl:l.length<=1000000000000000)(hr:rowRd m a (Zf3 l)):
  CX Tryz.prog 175 #[.slice a l.length c,.string s] m [] (Ret (.bool (l.any λy=>eqS s y))):=by
 apply ZbS
 refine Zav (ZvO l a c s m hl hr) λm' hm=>Zac hm ?_
 cases h:l.any (λy=>eqS s y) <;> simp[Ret]
theorem ZlJ(l:List ByteArray)(a:Option Addr)(c:Nat)(g:Nat)(ca:List Value)(p:ByteArray->Bool)(m:Mem)(hl:l.length<=1000000000000000)(hr:rowRd m a (Zf3 l))
  (hp:∀x∈l,∀m',m.le m'->CX Tryz.prog g (.string x::ca).toArray m' [] (Ret (.bool (p x)))):
  CX Tryz.prog 200 #[.slice a l.length c,.func (.func g) #[] ca.toArray] m [] (Ret (.int .i64 (if l.any p then(l.findIdx p:Nat)else(-1:Int)))):=by
 apply ZbO a l.length c g [] ca
 refine⟨λxs _ _ m'' q=>∃i:Nat,i<=l.length/\xs=[.int .i64 i]/\(∀x∈l.take i,p x=false)/\q=l.length - i,⟨l.length,0,by omega,rfl,by simp,by omega⟩,?_⟩
 rintro n m' q hm ⟨i,hi,hn,gk,hq⟩
 obtain rfl:n=i:=by simpa using hn
 refine Zab (λaO=>?_) (λbO=>?_)
 ·have aW:i < l.length:=by simpa using aO
  obtain⟨x,hx⟩:∃x,l[i]?=some x:=⟨_,zA3 aW⟩
  have cA:x∈l:=zA2 hx
  obtain⟨b1,o1,ha,eW⟩:=Zc0 (hr.mono hm) hx
  refine⟨b1,o1,ha,⟨by omega,by omega⟩,_,eW,Zae (hp x cA m' hm) λm1 aB=>Zab (λfY=>?_) (λfY=>?_)⟩
  ·refine Zac (mLt hm aB) ?_
   have fC:l.any p=true:=List.any_eq_true.2 ⟨x,cA,fY⟩
   have gx:l.findIdx p=i:=by
    rw[List.findIdx_eq aW]
    refine⟨by rw[(zA0 hx).2];exact fY,λj hj=>?_⟩
    exact gk _ (List.mem_of_getElem? (i:=j) (by rw[List.getElem?_take_of_lt hj];exact zA3 (by omega)))
   simp[Ret,fC,gx]
  ·refine⟨l.length - (i+1),by omega,i+1,by omega,by rw[Zan (by omega) (by omega)];rfl,?_,rfl⟩
   intro y hy
   rw[List.take_add_one,hx]at hy
   rcases List.mem_append.1 hy with hy|hy
   ·exact gk y hy
   ·simp at hy;rw[hy];exact fY
 ·have hi':i=l.length:=by
   have:¬((i:Int) < (l.length:Int)):=by simpa using bO
   omega
  subst hi'
  refine Zac hm ?_
  have fC:l.any p=false:=by
   rw[List.any_eq_false]
   rw[List.take_length]at gk
   exact λx hx=>by simp[gk x hx]
  simp[Ret,fC]
theorem ZgZ(l:List ByteArray)(a:Option Addr)(c:Nat)(g:Nat)(ca:List Value)(p:ByteArray->Bool)(m:Mem)(hl:l.length<=1000000000000000)(hr:rowRd m a (Zf3 l))
  (hp:∀x∈l,∀m',m.le m'->CX Tryz.prog g (.string x::ca).toArray m' [] (Ret (.bool (p x)))):
  CX Tryz.prog 186 #[.slice a l.length c,.func (.func g) #[] ca.toArray] m [] (Ret (.bool (l.any p))):=by
 apply Zbw a l.length c g [] ca
 refine Zav (ZlJ l a c g ca p m hl hr hp) λm' hm=>Zac hm ?_
 cases h:l.any p <;> simp[Ret]
def ZvP(l:List UInt8):List Value:=(List.range 256).map λi=>.bool (l.any λc=>c.toNat == i)
theorem ZiT(l:List UInt8):(ZvP l).length=256:=by rw[ZvP,List.length_map,List.length_range]
theorem ZgB(l:List UInt8){i:Nat}(h:i < 256):(ZvP l)[i]?=some (.bool (l.any λc=>c.toNat == i)):=by
 rw[ZvP,List.getElem?_map,List.getElem?_range h];rfl
theorem ZqV(l:List UInt8):ZdI (ZvP l)=true:=by
 have:∀L:List Nat,ZdI (L.map λi=>Value.bool (l.any λc=>c.toNat == i))=true:=λL=>by
  induction L with
  | nil=>rfl
  | cons x L ih=>rw[List.map_cons];simp only[ZdI,ih];rfl
 exact this _
theorem ZvQ(l:List UInt8)(c:UInt8):ZaE (ZvP l) (0+c.toNat*1) [.bool true]=ZvP (l++[c]):=by
 have hc:c.toNat < 256:=c.toNat_lt
 apply List.ext_getElem?
 intro i
 have hl:=ZiT l
 unfold ZaE
 rw[Nat.zero_add,Nat.mul_one,List.append_assoc]
 rcases Nat.lt_trichotomy i c.toNat with h|h|h
 ·rw[zA5 (by rw[List.length_take];omega),List.getElem?_take_of_lt h,ZgB l (by omega),ZgB _ (by omega),List.any_append]
  have:(c.toNat == i)=false:=by simp;omega
  simp[this]
 ·subst h
  have e:(List.take c.toNat (ZvP l)).length=c.toNat:=by rw[List.length_take];omega
  rw[zA4 (by omega),e,Nat.sub_self,ZgB _ hc,List.any_append]
  simp
 ·have e:(List.take c.toNat (ZvP l)).length=c.toNat:=by rw[List.length_take];omega
  rw[zA4 (by omega),e,zA4 (by simp;omega),List.getElem?_drop]
  rw[show c.toNat + [Value.bool true].length+(i - c.toNat - [Value.bool true].length)=i by simp;omega]
  rcases Nat.lt_or_ge i 256 with h2|h2
  ·rw[ZgB l h2,ZgB _ h2,List.any_append]
   have:(c.toNat == i)=false:=by simp;omega
   simp[this]
  ·rw[List.getElem?_eq_none (by omega),List.getElem?_eq_none (by rw[ZiT];exact h2)]
theorem Zih{s:ByteArray}{n:Nat}{c:UInt8}(h:s.data.toList[n]?=some c):Zhf s n=(c.toNat:Int):=by
 unfold Zhf
 rw[List.getD_eq_getElem?_getD,h];rfl
theorem Zde{α:Type}{l:List α}{n:Nat}(h:n < l.length):∃c,l[n]?=some c:=⟨_,zA3 h⟩
theorem Zys(s:ByteArray)(hs:s.size<=1000000000000000)(h:∀c∈s.data.toList,c.toNat < 128)(m:Mem):CX Tryz.prog 193 #[.string s] m [] (Ret (.tuple #[.agg (ZvP s.data.toList).toArray,.bool true])):=by
 apply Zdq
 intro b
 have hl:=ZeG s
 refine⟨λxs css _ m' q=>∃k:Nat,k<=s.size/\xs=[.int .i64 k]/\css=[ZvP (s.data.toList.take k)]/\q=s.size - k,⟨_,0,by omega,rfl,by rw[List.take_zero];rfl,rfl⟩,?_⟩
 rintro n cs m1 q aB ⟨k,hk,hx,cD,hq⟩
 obtain rfl:n=k:=by simpa using hx
 obtain rfl:cs=ZvP (s.data.toList.take k):=by simpa using cD
 subst hq
 refine Zab (λaO=>?_) (λbO=>?_)
 ·have aW:k < s.size:=by have:=zA6 aO;omega
  obtain⟨c,hc⟩:=Zde (l:=s.data.toList) (n:=k) (by omega)
  have vU:=h c (zA2 hc)
  have hw:IntKind.i64.wrap ((k:Int)+1)=((k+1:Nat):Int):=by rw[Zan (by omega) (by omega)];rfl
  simp only[hw,zA8,Zih hc]
  refine⟨⟨by omega,by omega⟩,Zab (λh=>absurd (zA6 h) (by omega)) (λ_=>⟨⟨by omega,by omega⟩,Zaa (by rw[Nat.ble_eq,ZiT];omega) ⟨by trivial,s.size - (k+1),by omega,k+1,by omega,rfl,?_,rfl⟩⟩)⟩
  rw[ZvQ,List.take_add_one,hc];rfl
 ·have hk':k=s.size:=by have:=of_decide_eq_false bO;omega
  subst hk'
  rw[<-hl,List.take_length]
  exact Zaa (by rw[ZiT,ZqV];rfl) (Zac aB rfl)
def ZC7(p:UInt8->Bool)(s:ByteArray):Value->Mem->List (List Value)->Prop:=λv _ _=>∃z:ByteArray,v=.string z/\z.size<=s.size/\s.data.toList.all p=z.data.toList.all p/\(z.size=0\/z.data.toList.all p=false)
theorem Zkq(l:List UInt8)(c:UInt8)(b:Nat)(m:Mem)(hb:m.reads b 0 (ZvP l)):CX Tryz.prog 202 #[.pointer (some ⟨b,0,none⟩),.int .u8 c.toNat] m [] (Ret (.bool (l.any λx=>x.toNat == c.toNat))):=by
 apply Zcx
 have hc:c.toNat < 256:=c.toNat_lt
 refine⟨⟨by omega,by omega⟩,_,?_,Zac (Mem.le_refl m) rfl⟩
 rw[zA8,Nat.mul_one,Nat.add_comm]
 have:=hb c.toNat _ (ZgB l hc)
 rw[Nat.zero_add]at this;exact this
theorem ZAC(z:ByteArray){c:UInt8}{r:List UInt8}(h:z.data.toList=c::r):(z.extract 1 z.size).data.toList=r:=by
 rw[ByteArray.data_extract,Array.toList_extract,h]
 have:z.size=r.length+1:=by rw[<-ZeG,h];rfl
 simp[this]
theorem Zyt(z:ByteArray){c:UInt8}{r:List UInt8}(h:z.data.toList=r++[c]):(z.extract 0 (z.size - 1)).data.toList=r:=by
 rw[ByteArray.data_extract,Array.toList_extract,h]
 have:z.size=r.length+1:=by rw[<-ZeG,h];simp
 simp[this]
theorem Zyu(l:List UInt8)(s:ByteArray)(hs:s.size<=1000000000000000)(b:Nat)(m:Mem)(hb:m.reads b 0 (ZvP l)):CX Tryz.prog 194 #[.string s,.pointer (some ⟨b,0,none⟩)] m [] (ZC7 (λc=>l.any λx=>x.toNat == c.toNat) s):=by
 apply Zdb
 refine⟨λxs _ _ m' q=>∃z:ByteArray,xs=[.string z]/\z.size<=s.size/\s.data.toList.all (λc=>l.any λx=>x.toNat == c.toNat)=z.data.toList.all (λc=>l.any λx=>x.toNat == c.toNat)/\q=z.size,⟨_,s,rfl,Nat.le_refl _,rfl,rfl⟩,?_⟩
 rintro z m1 q aB ⟨z',hx,bV,cG,hq⟩
 obtain rfl:z=z':=by simpa using hx
 subst hq
 have hl:=ZeG z
 refine Zab (λaO=>?_) (λbO=>?_)
 ·have h0:0 < z.size:=by have:=zA6 aO;omega
  cases hz:z.data.toList with
  | nil=>rw[hz]at hl;simp at hl;omega
  | cons c r=>
   have he:=ZAC z hz
   have hr:(z.extract 1 z.size).size=z.size - 1:=by rw[<-ZeG,he,<-hl,hz];simp
   have hc:Zhf z (Int.toNat 0)=(c.toNat:Int):=Zih (by rw[hz];rfl)
   rw[hc]
   refine⟨⟨by omega,by omega⟩,Zae (Zkq l c b m1 (hb.mono aB)) λm2 aM=>Zab (λh=>?_) (λh=>?_)⟩
   ·refine Zac (mLt aB aM) ⟨z,rfl,bV,cG,.inr ?_⟩
    have h':(l.any λx=>x.toNat == c.toNat)=false:=by simpa using h
    rw[hz,List.all_cons,h'];rfl
   ·have h':(l.any λx=>x.toNat == c.toNat)=true:=by simpa using h
    refine⟨⟨by omega,by omega⟩,z.size - 1,by omega,_,rfl,?_,?_,?_⟩
    ·show(z.extract 1 z.size).size<=_
     omega
    ·rw[cG,hz,List.all_cons,h',Bool.true_and]
     show _=(z.extract 1 z.size).data.toList.all _
     rw[he]
    ·show _=(z.extract 1 z.size).size
     omega
 ·have h0:z.size=0:=by have:=of_decide_eq_false bO;omega
  exact Zac aB ⟨z,rfl,bV,cG,.inl h0⟩
theorem Zyv(l:List UInt8)(s:ByteArray)(hs:s.size<=1000000000000000)(b:Nat)(m:Mem)(hb:m.reads b 0 (ZvP l)):CX Tryz.prog 195 #[.string s,.pointer (some ⟨b,0,none⟩)] m [] (ZC7 (λc=>l.any λx=>x.toNat == c.toNat) s):=by
 apply ZcV
 refine⟨λxs _ _ m' q=>∃z:ByteArray,xs=[.string z]/\z.size<=s.size/\s.data.toList.all (λc=>l.any λx=>x.toNat == c.toNat)=z.data.toList.all (λc=>l.any λx=>x.toNat == c.toNat)/\q=z.size,⟨_,s,rfl,Nat.le_refl _,rfl,rfl⟩,?_⟩
 rintro z m1 q aB ⟨z',hx,bV,cG,hq⟩
 obtain rfl:z=z':=by simpa using hx
 subst hq
 have hl:=ZeG z
 refine Zab (λaO=>?_) (λbO=>?_)
 ·have h0:0 < z.size:=by have:=zA6 aO;omega
  have hw:IntKind.i64.wrap ((z.size:Int) - 1)=((z.size - 1:Nat):Int):=by rw[Zan (by omega) (by omega)];omega
  obtain⟨r,c,hz⟩:∃r c,z.data.toList=r++[c]:=by
   rcases List.eq_nil_or_concat z.data.toList with h|⟨r,c,h⟩
   ·rw[h]at hl;simp at hl;omega
   ·exact⟨r,c,by simpa using h⟩
  have he:=Zyt z hz
  have hr:(z.extract 0 (z.size - 1)).size=z.size - 1:=by rw[<-ZeG,he,<-hl,hz];simp
  have hc:Zhf z (z.size - 1)=(c.toNat:Int):=Zih (by rw[hz,zA4 (by rw[<-hl,hz];simp),<-hl,hz];simp)
  simp only[hw,zA8,hc]
  refine⟨⟨by omega,by omega⟩,Zae (Zkq l c b m1 (hb.mono aB)) λm2 aM=>Zab (λh=>?_) (λh=>?_)⟩
  ·refine Zac (mLt aB aM) ⟨z,rfl,bV,cG,.inr ?_⟩
   have h':(l.any λx=>x.toNat == c.toNat)=false:=by simpa using h
   rw[hz,List.all_append,List.all_cons,h'];simp
  ·have h':(l.any λx=>x.toNat == c.toNat)=true:=by simpa using h
   refine⟨⟨by omega,by omega⟩,z.size - 1,by omega,_,rfl,by omega,?_,by omega⟩
   rw[cG,hz,List.all_append,List.all_cons,h',he];simp
 ·have h0:z.size=0:=by have:=of_decide_eq_false bO;omega
  exact Zac aB ⟨z,rfl,bV,cG,.inl h0⟩
def ZcX:ByteArray:=⟨#[97,98,99,100,101,102,103,104,105,106,107,108,109,110,111,112,113,114,115,116,117,118,119,120,121,122,48,49,50,51,52,53,54,55,56,57,95]⟩
theorem ZvR(c:UInt8):(ZcX.data.toList.any λx=>x.toNat == c.toNat)=Zzs c:=by
 have:∀n:Nat,n < 256->(ZcX.data.toList.any λx=>x.toNat == n)=((decide (97<=n)&&decide (n<=122))||(decide (48<=n)&&decide (n<=57))||n == 95):=by decide +kernel
 exact this c.toNat c.toNat_lt
def ZDM(s:ByteArray):Value->Mem->List (List Value)->Prop:=λv _ _=>∃z:ByteArray,v=.string z/\(z.size == 0)=s.data.toList.all Zzs
theorem ZAD(s:ByteArray)(hs:s.size<=1000000000000000)(m:Mem):CX Tryz.prog 176 #[.string s,.string ZcX] m [] (ZDM s):=by
 apply Zia
 have e0:(ZcX.toList == ByteArray.toList ⟨#[]⟩)=false:=by rw[Zcu];rfl
 refine⟨s.size == 0,Zab (λh=>by rw[Zcu]at h;rw[h]) (λh=>by rw[Zcu]at h;rw[h,e0]),?_⟩
 refine Zab (λh=>?_) (λh=>?_)
 ·refine Zac (Mem.le_refl m) ⟨s,rfl,?_⟩
  rw[h]
  have:s.data.toList=[]:=List.eq_nil_of_length_eq_zero (by rw[ZeG];simpa using h)
  rw[this];rfl
 refine⟨false,ZdQ (by decide) rfl,ZdQ rfl ?_⟩
 refine Zai (Zys ZcX (by decide) (by decide) m) (λv _ _ e=>by rw[show v=_ from e];rfl) ?_
 intro cs b m1 aB hv
 have hv:Value.tuple (Array.mk [Value.agg (Array.mk cs),Value.bool b])=Value.tuple #[.agg (ZvP ZcX.data.toList).toArray,.bool true]:=hv
 simp only[Value.tuple.injEq,Value.agg.injEq,Array.mk.injEq,List.cons.injEq,Value.bool.injEq,and_true]at hv
 obtain⟨rfl,rfl⟩:=hv
 intro b1
 refine Zaa (by rw[ZiT,ZqV];rfl) (ZrB rfl λm2 aM cK=>?_)
 refine Zai (Zyv ZcX.data.toList s hs b1 m2 cK) (λv _ _ ⟨_,e,_⟩=>by rw[e];rfl) ?_
 rintro z m3 aY ⟨z1,hz,qL,nu,lI⟩
 obtain rfl:z=z1:=by simpa using hz
 refine Zai (Zyu ZcX.data.toList z (by omega) b1 m3 (cK.mono aY)) (λv _ _ ⟨_,e,_⟩=>by rw[e];rfl) ?_
 rintro y m4 bP ⟨y1,hy,xj,uh,ui⟩
 obtain rfl:y=y1:=by simpa using hy
 refine Zac (mLt aB (mLt aM (mLt aY bP))) ⟨y,rfl,?_⟩
 have hp:(λc:UInt8=>ZcX.data.toList.any λx=>x.toNat == c.toNat)=Zzs:=funext ZvR
 rw[hp]at nu uh ui
 rw[nu,uh]
 rcases ui with h0|h0
 ·have:y.data.toList=[]:=List.eq_nil_of_length_eq_zero (by rw[ZeG];exact h0)
  rw[this,h0];rfl
 ·rw[h0]
  have:¬y.size=0:=λe=>by
   have:y.data.toList=[]:=List.eq_nil_of_length_eq_zero (by rw[ZeG];exact e)
   rw[this]at h0;simp at h0
  simpa using this
theorem Zii(s:ByteArray)(hs:s.size<=1000000000000000)(m:Mem):CX Tryz.prog 146 #[.string s] m [] (Ret (.bool (ZcQ s))):=by
 apply ZjB
 refine Zab (λh=>Zac (Mem.le_refl m) ?_) (λh=>?_)
 ·rw[Zcu]at h;simp[Ret,ZcQ,h]
 rw[Zcu]at h
 have vV:¬s.size=0:=by simpa using h
 have iR:0 < s.size:=by omega
 obtain⟨c,hc⟩:=Zde (l:=s.data.toList) (n:=0) (by rw[ZeG];exact iR)
 have hD:s.data.toList.getD 0 0=c:=by rw[List.getD_eq_getElem?_getD,hc];rfl
 rw[show Int.toNat 0=0 from rfl,Zih hc]
 refine Zab (λh1=>Zac (Mem.le_refl m) ?_) (λh1=>⟨⟨by omega,by omega⟩,Zab (λh2=>Zac (Mem.le_refl m) ?_) (λh2=>⟨⟨by omega,by omega⟩,Zab (λh3=>Zac (Mem.le_refl m) ?_) (λh3 b hf=>?_)⟩)⟩)
 ·have:s.size > 16:=by have:=zA6 h1;omega
  show Value.bool false=_
  unfold ZcQ;rw[h,decide_eq_true this];rfl
 ·have:c.toNat < 97:=by have:=zA6 h2;omega
  show Value.bool false=_
  unfold ZcQ;rw[hD,decide_eq_true this];simp
 ·have:c.toNat > 122:=by have:=zA6 h3;omega
  show Value.bool false=_
  unfold ZcQ;rw[hD,decide_eq_true this];simp
 have g1:¬s.size > 16:=by have:=of_decide_eq_false h1;omega
 have g2:¬c.toNat < 97:=by have:=of_decide_eq_false h2;omega
 have g3:¬c.toNat > 122:=by have:=of_decide_eq_false h3;omega
 have hN:ZcQ s=(!(Znz.any λw=>eqS w s)&&s.data.toList.all Zzs):=by
  unfold ZcQ;rw[h,decide_eq_false g1,hD,decide_eq_false g2,decide_eq_false g3];rfl
 have hE:(Znz.any λy=>eqS s y)=Znz.any λw=>eqS w s:=by
  congr 1;funext w;unfold eqS;exact Bool.beq_comm
 have bW:=Mem.le_add hf (Zf3 Znz)
 refine Zae (Zig Znz (some ⟨b,0,none⟩) 3 s (m.add b (Zf3 Znz)) (by decide) (.inr ⟨b,0,rfl,λj v hj=>by rw[Nat.zero_add,Mem.add_same];exact hj⟩)) λm1 aB=>Zab (λh4=>Zac (mLt bW aB) ?_) (λh4=>?_)
 ·rw[hE]at h4
  show Value.bool false=_
  rw[hN,h4];rfl
 rw[hE]at h4
 refine Zai (ZAD s hs m1) (λv _ _ ⟨_,e,_⟩=>by rw[e];rfl) ?_
 rintro z m2 aM ⟨z',hz,nu⟩
 obtain rfl:z=z':=by simpa using hz
 refine Zac (mLt bW (mLt aB aM)) ?_
 show Value.bool _=_
 rw[Zcu,hN,h4,nu];rfl
theorem Zxj(k:Int)(m:Mem):CX Tryz.prog 97 #[.int .u8 k] m [] (Ret (.int .i64 (Zk1 k))):=by
 apply ZnX
 refine Zab (λh=>Zac (Mem.le_refl m) ?_) (λh=>⟨decide (k ≥ 2)&&decide (k<=7),Zab (λh2=>by rw[h2];rfl) (λh2=>by rw[h2];rfl),Zab (λh2=>Zac (Mem.le_refl m) ?_) (λh2=>Zac (Mem.le_refl m) ?_)⟩)
 all_goals
  show Value.int _ _=Value.int _ _
  congr 1
  unfold Zk1
 ·have:k=1:=by simpa using h
  rw[if_pos this]
 ·have h1:¬k=1:=by simpa using h
  simp only[zA7,decide_eq_true_eq]at h2
  rw[if_neg h1,if_pos (by omega)]
 ·have h1:¬k=1:=by simpa using h
  simp only[Bool.and_eq_false_iff,decide_eq_false_iff_not]at h2
  rw[if_neg h1,if_neg (by omega)]
theorem ZvS(t:E)(m:Mem)(hr:RepE m t):CX Tryz.prog 184 #[t.v] m [] (Ret (.bool t.right)):=by
 have cE:=Ztq hr
 have nv:=Zeb hr
 apply ZlG
 intro b m1 aB _
 have tail:∀(M0:Mem)(name number capture neg:Bool),t.right=(decide (t.k<=10)&&(name&&(number&&(capture&&((t.subs.length:Int) == Zk1 t.k&&!neg)))))->m.le M0->
   ∃f:Fx,br (decide (t.k<=10)) (br name (br number (br capture (∃R_3:RT,R_3=f 18 [.int .u8 t.k] M0/\CX Tryz.prog 97 #[.int .u8 t.k] M0 [] R_3/\ZaZ (.int .i64) R_3/\∀(n:Int)(m':Mem),M0.le m'->R_3 (.int .i64 n) m' []->br ((t.subs.length:Int) == n) (∀M:Mem,M0.le M->m'.le M->∃m'':Mem,m.le m''/\m''.le M/\Ret (.bool t.right) (.bool !neg) m'' []) (∀M:Mem,M0.le M->m'.le M->∃m'':Mem,m.le m''/\m''.le M/\Ret (.bool t.right) (.bool false) m'' []))
    (∀M:Mem,M0.le M->M0.le M->∃m'':Mem,m.le m''/\m''.le M/\Ret (.bool t.right) (.bool false) m'' [])) (∀M:Mem,M0.le M->M0.le M->∃m'':Mem,m.le m''/\m''.le M/\Ret (.bool t.right) (.bool false) m'' [])) (∀M:Mem,M0.le M->M0.le M->∃m'':Mem,m.le m''/\m''.le M/\Ret (.bool t.right) (.bool false) m'' []))
    (∀M:Mem,M0.le M->M0.le M->∃m'':Mem,m.le m''/\m''.le M/\Ret (.bool t.right) (.bool false) m'' []):=λM0 name number capture neg he vW=>by
  have fin:∀{x:Bool} {M:Mem},t.right=x->M0.le M->∃m'':Mem,m.le m''/\m''.le M/\Ret (.bool t.right) (.bool x) m'' []:=λ{x M} h hM=>Zac (mLt vW hM) (by show Value.bool x=Value.bool t.right;rw[h])
  refine⟨λ_ _ _=>Ret (.int .i64 (Zk1 t.k)),Zab (λh1=>Zab (λh2=>Zab (λh3=>Zab (λh4=>⟨_,rfl,Zxj t.k M0,λv _ _ e=>by rw[show v=_ from e];rfl,λn m' hm' hn=>?_⟩) (λh4 M hM _=>fin ?_ hM)) (λh3 M hM _=>fin ?_ hM)) (λh2 M hM _=>fin ?_ hM)) (λh1 M hM _=>fin ?_ hM)⟩
  ·obtain rfl:n=Zk1 t.k:=by cases hn;rfl
   refine Zab (λh5 M hM _=>fin ?_ hM) (λh5 M hM _=>fin ?_ hM)
   ·rw[he,h1,h2,h3,h4,h5];rfl
   ·rw[he,h5];simp
  ·simp[he,h4]
  ·simp[he,h3]
  ·simp[he,h2]
  ·rw[he,h1];simp
 refine⟨λ_ _ _=>Ret (.bool (ZmO t.x 0)),_,rfl,ZoU t.x 0 m1,λv _ _ e=>by rw[show v=_ from e];rfl,λb1 m2 aM cR M jn gP=>?_⟩
 obtain rfl:b1=ZmO t.x 0:=by cases cR;rfl
 have hM:=mLt aB jn
 refine Zab (λh8=>?_) (λh8=>Zab (λh9=>?_) (λh9=>Zab (λgU=>?_) (λgU=>Zab (λh0=>?_) (λh0=>?_))))
 ·have hk:t.k=8:=by simpa using h8
  refine Zae (ZqU t.x M) λm3 aY=>⟨false,ZdQ (by rw[hk];rfl) ⟨by trivial,rfl⟩,tail m3 _ _ _ _ ?_ (mLt hM aY)⟩
  unfold E.right;rw[Zcu];simp[hk]
 ·have hk:t.k=9:=by simpa using h9
  refine Zae (Zii t.s cE.s M) λm3 aY=>⟨false,ZdQ (by rw[hk];rfl) ⟨by trivial,rfl⟩,tail m3 _ _ _ _ ?_ (mLt hM aY)⟩
  unfold E.right;simp[hk]
 ·have hk:t.k=10:=by simpa using gU
  refine⟨decide (t.g ≥ 0)&&decide (t.g<=9),Zab (λh=>⟨by trivial,by rw[h];rfl⟩) (λh=>⟨by trivial,by rw[h];rfl⟩),false,ZdQ (by rw[hk];rfl) ⟨by trivial,rfl⟩,tail M _ _ _ _ ?_ hM⟩
  unfold E.right;rw[Zcu];simp[hk]
 ·refine Zac hM ?_
  show Value.bool false=Value.bool t.right
  unfold E.right;rw[h0];rfl
 ·have e8:¬t.k=8:=by simpa using h8
  have e9:¬t.k=9:=by simpa using h9
  have e10:¬t.k=10:=by simpa using gU
  refine⟨t.k == 1&&(t.subs.length == 1&&Zk2 t.subs),?_,tail M _ _ _ _ ?_ hM⟩
  ·refine Zab (λh1=>Zab (λh2=>?_) (λh2=>⟨by trivial,?_⟩)) (λh1=>⟨by trivial,by rw[h1];rfl⟩)
   ·have bA:t.subs.length=1:=by
     have:=zA6 (show decide ((t.subs.length:Int)=1)=true from h2)
     omega
    cases hs:t.subs with
    | nil=>rw[hs]at bA;simp at bA
    | cons u r=>
     rcases nv.2 with h|⟨bb,o,ha,fJ⟩
     ·rw[h]at bA;simp at bA
     ·rw[hs]at fJ
      have h3:=((fJ.mono' hM).get (i:=0) (t:=u) rfl).1 0 _ rfl
      rw[Nat.zero_mul]at h3
      refine⟨bb,o,ha,⟨by omega,by simp⟩,_,h3,Zaa rfl ⟨by trivial,?_⟩⟩
      rw[h1]
      have:(u::r).length=1:=by rw[<-hs];exact bA
      rw[this];rfl
   ·have:(t.subs.length == 1)=false:=by
     have h:=of_decide_eq_false (show decide ((t.subs.length:Int)=1)=false from h2)
     exact decide_eq_false (by omega)
    rw[this];simp
  ·unfold E.right;rw[Zcu,h0];simp[e8,e9,e10]
theorem ZqW(t:E)(m:Mem)(hr:RepE m t):CX Tryz.prog 163 #[t.v] m [] (Ret (.bool t.clean)):=by
 apply ZlH
 intro b m1 aB _ b2
 refine Zae (ZcW t m1 (RepE.mono' hr aB)) λm2 aM=>Zab (λh=>Zac (mLt aB aM) ?_) (λh=>?_)
 ·have:t.light=false:=by simpa using h
  simp[Ret,E.clean,this]
 have hl:t.light=true:=by simpa using h
 refine Zai (ZeO t m2) (λv m' css h=>by obtain⟨_,rfl,_⟩:=h;rfl) ?_
 rintro g fi ca m3 aY ⟨b3,hv,eY⟩
 obtain⟨rfl,rfl,rfl⟩:=ZbZ hv
 have bW:=mLt aB (mLt aM aY)
 refine⟨_,ZdE t m3 b3 eY (RepE.mono' hr bW),λy hy=>?_,λ_ css _ m' q=>m3.le m'/\∀x∈t.nodes.take q,x.right=true,⟨Mem.le_refl _,by simp⟩,?_,?_⟩
 ·obtain⟨z,_,rfl⟩:=List.mem_map.1 hy;exact Zkg z
 ·rintro n0 v0 s0 n3 a n7 c cs m4 q bP hq ⟨_,gL⟩ b4
  have hq':(List.map (λz:E=>[z.v]) t.nodes)[(q:Nat)]?=some [Value.agg #[.int .u8 n0,v0,.string s0,.int .i64 n3,.slice a n7 c]]:=hq
  rw[List.getElem?_map]at hq'
  obtain⟨z,hz,iu⟩:=Option.map_eq_some_iff.1 hq'
  have kQ:z.v=Value.agg #[.int .u8 n0,v0,.string s0,.int .i64 n3,.slice a n7 c]:=by simpa using iu
  have sB:RepE m4 z:=RepE.mono' (ZmN (RepE.mono' hr bW) (zA2 hz)) bP
  have gA:=ZvS z m4 sB
  rw[kQ]at gA
  have na:v0=.float .f64 z.x:=by
   simp only[E.v,Value.agg.injEq,Array.mk.injEq,List.cons.injEq]at kQ
   exact kQ.2.1.symm
  refine Zaa (by rw[na];rfl) ?_
  refine Zae gA λm5 cL=>Zab (λh=>⟨by trivial,Zac (mLt bW (mLt bP cL)) ?_⟩) (λh=>⟨by trivial,mLt bP cL,λx hx=>?_⟩)
  ·have oP:z.right=false:=by simpa using h
   have:t.nodes.all E.right=false:=by
    rw[List.all_eq_false];exact⟨z,zA2 hz,by simp[oP]⟩
   simp[Ret,E.clean,this]
  ·rw[List.take_add_one,hz]at hx
   rcases List.mem_append.1 hx with hx|hx
   ·exact gL x hx
   ·simp at hx;rw[hx];simpa using h
 ·rintro cs m4 bP ⟨_,gL⟩
  refine Zac (mLt bW bP) ?_
  rw[List.length_map,List.take_length]at gL
  have:t.nodes.all E.right=true:=List.all_eq_true.2 gL
  simp[Ret,E.clean,this,hl]
theorem ZlK(l l':List E)(a a':Option Addr)(c c':Nat)(m:Mem)(hl:l.length<=1000000000000000)(hr:l=[]\/∃b o,a=some ⟨b,o,none⟩/\RepEAt m b o l)(hr':l'=[]\/∃b o,a'=some ⟨b,o,none⟩/\RepEAt m b o l')
  (hp:∀x∈l,∀y∈l',∀m',m.le m'->RepE m' x->RepE m' y->CX Tryz.prog 135 #[x.v,y.v] m' [] (Ret (.bool (x.same y)))):
  CX Tryz.prog 143 #[.slice a l.length c,.slice a' l'.length c',.func (.func 135) #[] #[]] m [] (Ret (.bool (Zco l l'))):=by
 apply ZaC a l.length c a' l'.length c' _ [] []
 refine Zab (λh=>Zac (Mem.le_refl _) ?_) (λh=>?_)
 ·have:¬l.length=l'.length:=by
   intro e;rw[e]at h;simp at h
  show Value.bool false=_
  rw[ZmP this]
 have iC:l.length=l'.length:=by
  have h2:((l.length:Int) == (l'.length:Int))=true:=by simpa using h
  have:=zA6 h2;omega
 refine⟨λxs _ _ m'' q=>∃i:Nat,i<=l.length/\xs=[.int .i64 i]/\Zco (l.take i) (l'.take i)=true/\m.le m''/\q=l.length - i,⟨l.length,0,by omega,rfl,by simp[Zco],Mem.le_refl _,by omega⟩,?_⟩
 rintro n m' q hm ⟨i,hi,hn,dZ,bW,hq⟩
 obtain rfl:n=i:=by simpa using hn
 refine Zab (λaO=>?_) (λbO=>?_)
 ·have aW:i < l.length:=by simpa using aO
  obtain⟨x,hx⟩:∃x,l[i]?=some x:=⟨_,zA3 aW⟩
  obtain⟨y,hy⟩:∃y,l'[i]?=some y:=⟨_,zA3 (by omega)⟩
  have lR:x∈l:=zA2 hx
  have sD:y∈l':=zA2 hy
  rcases hr with h0|⟨b1,o1,ha,fJ⟩
  ·rw[h0]at aW;simp at aW
  rcases hr' with h0|⟨b2,o2,ha',nt⟩
  ·rw[h0]at iC;simp at iC;rw[iC]at aW;simp at aW
  obtain⟨dI,dU⟩:=(fJ.mono' hm).get hx
  obtain⟨iy,kU⟩:=(nt.mono' hm).get hy
  refine⟨b1,o1,ha,⟨by omega,by omega⟩,_,_,_,_,_,dI,λb3=>Zaa rfl ⟨b2,o2,ha',⟨by omega,by omega⟩,_,_,_,_,_,iy,λb4=>Zaa rfl ?_⟩⟩
  refine Zae (hp x lR y sD m' hm dU kU) λm1 aB=>Zab (λfY=>?_) (λfY=>?_)
  ·have hf:x.same y=false:=by simpa using fY
   refine Zac (mLt hm aB) ?_
   show Value.bool false=_
   rw[ZpV hx hy hf]
  ·have hf:x.same y=true:=by simpa using fY
   refine⟨l.length - (i+1),by omega,i+1,by omega,by rw[Zan (by omega) (by omega)];rfl,Zkh hx hy dZ hf,mLt hm aB,rfl⟩
 ·have hi':i=l.length:=by
   have:¬((i:Int) < (l.length:Int)):=by simpa using bO
   omega
  subst hi'
  refine Zac hm ?_
  rw[List.take_length,iC,List.take_length]at dZ
  show Value.bool true=_
  rw[dZ]
theorem Zt3(t u:E)(m:Mem)(hr:RepE m t)(hu:RepE m u):CX Tryz.prog 135 #[t.v,u.v] m [] (Ret (.bool (t.same u))):=by
 apply Zn0
 intro b m1 aB _ b' m2 aM _
 have hm:=mLt aB aM
 refine⟨t.same u,?_,Zac hm rfl⟩
 rw[Ztr]
 refine Zab (λh1=>?_) (λh1=>⟨by trivial,Zah (by rw[h1];rfl)⟩)
 refine Zae (ZoU t.x u.x m2) λm3 aY=>Zab (λh2=>Zab (λh3=>Zab (λh4=>?_) (λh4=>⟨by trivial,Zah (by rw[h1,h2,h3,h4];rfl)⟩)) (λh3=>⟨by trivial,Zah (by rw[h1,h2,h3];rfl)⟩)) (λh2=>⟨by trivial,Zah (by rw[h1,h2];rfl)⟩)
 have hM:=mLt hm aY
 have hr':=Zeb (RepE.mono' hr hM)
 have hu':=Zeb (RepE.mono' hu hM)
 refine Zae (ZlK t.subs u.subs t.a u.a t.c u.c m3 hr'.1 hr'.2 hu'.2 λx hx y hy m' _ dI iy=>?_) λm4 bP=>⟨by trivial,Zah (by rw[h1,h2,h3,h4];rfl)⟩
 have bV:=ZhE hx
 exact Zt3 x y m' dI iy
termination_by SizeOf.sizeOf t
decreasing_by exact bV
theorem ZlL(t u:E)(m:Mem)(hr:RepE m t)(hu:RepE m u):CX Tryz.prog 115 #[t.v,u.v] m [] (Ret (.bool (t.light&&(u.light&&t.same u)))):=by
 apply Zn1
 intro b m1 aB _ b' m2 aM _
 have hm:=mLt aB aM
 refine⟨t.light&&(u.light&&t.same u),?_,Zac hm rfl⟩
 refine Zae (ZcW t m2 (RepE.mono' hr hm)) λm3 aY=>Zab (λh1=>?_) (λh1=>⟨by trivial,Zah (by rw[h1];rfl)⟩)
 refine Zae (ZcW u m3 (RepE.mono' hu (mLt hm aY))) λm4 bP=>Zab (λh2=>?_) (λh2=>⟨by trivial,Zah (by rw[h1,h2];rfl)⟩)
 have cL:=mLt (mLt hm aY) bP
 exact Zae (Zt3 t u m4 (RepE.mono' hr cL) (RepE.mono' hu cL)) λm6 fR=>⟨by trivial,Zah (by rw[h1,h2];rfl)⟩
def ZqX(l:List E):Int:=l.foldl (λn x=>if x.k=10 then(if x.g > n then x.g else n)else n) (-1)
theorem Zt4(t:E)(m:Mem)(hr:RepE m t):CX Tryz.prog 169 #[t.v] m [] (Ret (.int .i64 t.most)):=by
 apply Zn3
 intro b m1 aB _ b2
 refine Zae (ZcW t m1 (RepE.mono' hr aB)) λm2 aM=>Zab (λhl=>?_) (λh=>Zac (mLt aB aM) (by simp[Ret,E.most,h]))
 refine Zai (ZeO t m2) (λv m' css h=>by obtain⟨_,rfl,_⟩:=h;rfl) ?_
 rintro g fi ca m3 aY ⟨b3,hv,eY⟩
 obtain⟨rfl,rfl,rfl⟩:=ZbZ hv
 have bW:=mLt aB (mLt aM aY)
 refine⟨_,ZdE t m3 b3 eY (RepE.mono' hr bW),λy hy=>?_,λ_ css _ m' q=>css=[[.int .i64 (ZqX (t.nodes.take q))]],rfl,?_,?_⟩
 ·obtain⟨z,_,rfl⟩:=List.mem_map.1 hy;exact Zkg z
 ·rintro n0 v0 s0 n3 a n7 c cs m4 q bP hq cD b4
  obtain rfl:cs=[.int .i64 (ZqX (t.nodes.take q))]:=by simpa using cD
  have hq':(List.map (λz:E=>[z.v]) t.nodes)[(q:Nat)]?=some [Value.agg #[.int .u8 n0,v0,.string s0,.int .i64 n3,.slice a n7 c]]:=hq
  rw[List.getElem?_map]at hq'
  obtain⟨z,hz,iu⟩:=Option.map_eq_some_iff.1 hq'
  simp only[E.v,List.cons.injEq,Value.agg.injEq,Array.mk.injEq,Value.int.injEq,Value.string.injEq,Value.slice.injEq,true_and,and_true]at iu
  obtain⟨rfl,rfl,rfl,rfl,rfl,rfl,rfl⟩:=iu
  have hs:ZqX (t.nodes.take (q+1))=if z.k=10 then(if z.g > ZqX (t.nodes.take q)then z.g else ZqX (t.nodes.take q))else ZqX (t.nodes.take q):=by
   rw[List.take_add_one,hz]
   unfold ZqX
   rw[List.foldl_append];rfl
  refine Zaa rfl (Zab (λh=>Zaq rfl (Zaa rfl ⟨by trivial,?_⟩)) (λh=>⟨by trivial,?_⟩))
  ·have hk:z.k=10:=by simpa using h
   show[[_]]=[[Value.int .i64 (ZqX (t.nodes.take (q+1)))]]
   rw[hs,if_pos hk];rfl
  ·have hk:¬z.k=10:=by simpa using h
   show[[_]]=[[Value.int .i64 (ZqX (t.nodes.take (q+1)))]]
   rw[hs,if_neg hk]
 ·rintro cs m4 bP cD
  obtain rfl:cs=[.int .i64 (ZqX (t.nodes.take t.nodes.length))]:=by simpa using cD
  refine Zaq rfl (Zac (mLt bW bP) ?_)
  rw[List.take_length]
  show Value.int _ _=Value.int _ t.most
  unfold E.most;rw[hl];rfl
end Go.Proofs.YtojlhhphofhaoaaGreatDoor