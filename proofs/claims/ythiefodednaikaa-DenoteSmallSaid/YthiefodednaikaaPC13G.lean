/- Part of the proof: conditions and contracts of functions of this program. No condition of its own. -/
import Derived.Test.YthiefodednaikaaPVB
import Derived.Test.YthiefodednaikaaPVC
import Derived.Test.YthiefodednaikaaMr
import Derived.Test.YthiefodednaikaaPC13Q
import Derived.Test.YthiefodednaikaaPVD
set_option linter.unusedVariables false
set_option linter.unusedSimpArgs false
set_option linter.unusedSectionVars false
namespace Go.Proofs.Ythiefodednaikaa
open Go Go.Eng Go.Rx Go.Proofs Go.RowKit
set_option maxRecDepth 100000
theorem Zxn(i:Nat):Int.tdiv (i:Int) 64=((i / 64:Nat):Int):=rfl
theorem Zt5(i:Nat):Int.tmod (i:Int) 64=((i % 64:Nat):Int):=rfl
theorem Zt6(i:Nat)(h:i < 576)(m:Mem):CX Try.prog 54 #[.int .i64 i] m [] (Ret (plV (2 ^ i))):=by
 apply ZnH
 unfold ZiL
 intro b b2
 have hq:IntKind.i64.wrap (Int.tdiv (i:Int) 64)=((i / 64:Nat):Int):=by rw[Zxn];exact Zao (by omega) (by omega)
 have hr:IntKind.u64.wrap (1*2 ^ min (Int.toNat (Int.tmod (i:Int) 64)) 64)=((2 ^ (i % 64):Nat):Int):=by
  rw[Zt5,Int.toNat_natCast,Nat.min_eq_left (by omega),Int.one_mul]
  have:=ZvG (2 ^ (i % 64)) (by
   have:2 ^ (i % 64) < 2 ^ 64:=Nat.pow_lt_pow_right (by omega) (by omega)
   exact this)
  rw[<-this];push_cast;rfl
 have hs:=ZyC (q:=i / 64) (r:=i % 64) (by omega) (by omega)
 rw[show 64*(i / 64)+i % 64=i by omega]at hs
 simp only[hq,hr,Int.toNat_natCast,Nat.zero_add,Nat.mul_one,hs]
 refine⟨by omega,by omega,by rw[Zt5];omega,⟨by omega,by omega⟩,Zaa (by rw[Nat.ble_eq];omega) (Zaa rfl (Zac (Mem.le_refl _) rfl))⟩
theorem ZmU(f i:Nat)(h:i < 576)(b:Nat)(m:Mem)(hb:m.reads b 0 (plL f)):CX Try.prog 55 #[.pointer (some ⟨b,0,none⟩),.int .i64 i] m [] (Ret (.bool (f.testBit i))):=by
 apply ZeN
 unfold ZcI
 have hq:IntKind.i64.wrap (Int.tdiv (i:Int) 64)=((i / 64:Nat):Int):=by rw[Zxn];exact Zao (by omega) (by omega)
 simp only[hq,Int.toNat_natCast,Nat.zero_add,Nat.mul_one]
 have lL:(wdN f (i / 64)).testBit (i % 64)=f.testBit i:=by
  rw[Zo7,show 64*(i / 64)+i % 64=i by omega];simp;omega
 refine⟨by omega,⟨by omega,by omega⟩,_,(by have:=hb (i / 64) _ (ZtS (by omega));simpa using this),by omega,Zaa rfl ⟨by rw[Zt5];omega,Zac (Mem.le_refl _) ?_⟩⟩
 rw[Zt5,Int.toNat_natCast,Nat.min_eq_left (by omega)]
 show Value.bool (IntKind.u64.wrap _ == 1)=_
 simp only[intOf]
 rw[Zrt _ _ (ZuE _ _),lL]
theorem ZwL(f g:Nat)(m:Mem):CX Try.prog 104 #[plV f,plV g] m [] (Ret (plV (f|||g))):=by
 apply Zfo
 unfold ZcW
 intro b b1 m1 aW _ b2
 refine⟨λxs css _ m' q=>∃k:Nat,k<=9/\xs=[.int .i64 k]/\css=[orL f g k]/\m1.le m'/\q=9 - k,⟨9,0,by omega,rfl,rfl,Mem.le_refl _,rfl⟩,?_⟩
 rintro n cs m2 q aY ⟨k,hk,hn,cV,_,hq⟩
 obtain rfl:n=k:=by simpa using hn
 obtain rfl:cs=orL f g k:=by simpa using cV
 refine Zab (λbB=>?_) (λcK=>?_)
 ·have aX:k < 9:=by have:=of_decide_eq_true bB;omega
  have h1:=Zwh (f:=f) (g:=g) (k:=k) aX
  rw[if_neg (by omega)]at h1
  have h2:=ZtS (f:=g) aX
  simp only[Int.toNat_natCast,Nat.zero_add,Nat.mul_one]
  refine⟨⟨by omega,by omega⟩,Zah h1 ⟨⟨by omega,by omega⟩,Zah h2 (Zaa rfl ⟨⟨by omega,by omega⟩,Zaa (by rw[Nat.ble_eq];simp[orL];omega) ⟨by trivial,9 - (k+1),by omega,k+1,by omega,?_,?_,mLt (by assumption) (Mem.le_refl _),rfl⟩⟩)⟩⟩
  ·rw[Zao (by omega) (by omega)];rfl
  ·show[Zam _ _ [Value.int .u64 (IntKind.u64.wrap _)]]=_
   simp only[intOf]
   rw[ZuF _ _ (ZuE _ _) (ZuE _ _),ZuG aX]
 ·have:k=9:=by have:=of_decide_eq_false cK;omega
  subst this
  exact Zaa (by rfl) (Zac (mLt aW aY) rfl)
theorem Ztg(f k:Nat)(h:k<=513):(ZbR f).take (((List.range k).filter λi=>f.testBit i).length)=(List.range k).filter λi=>f.testBit i:=by
 have e:List.range 513=List.range k++(List.range 513).drop k:=by
  have:=(List.take_append_drop k (List.range 513)).symm
  rwa [List.take_range,Nat.min_eq_left h]at this
 unfold ZbR
 conv=>lhs;rw[e,List.filter_append]
 rw[List.take_left']
 rfl
theorem ZwM(f k:Nat)(h:k < 513)(hb:f.testBit k=true):(ZbR f)[((List.range k).filter λi=>f.testBit i).length]?=some k:=by
 have h1:=Ztg f (k+1) (by omega)
 have e:(List.range (k+1)).filter (λi=>f.testBit i)=(List.range k).filter (λi=>f.testBit i)++[k]:=by
  rw[List.range_succ,List.filter_append];simp[hb]
 rw[e]at h1
 have h2:=congrArg (λl=>l[((List.range k).filter λi=>f.testBit i).length]?) h1
 simpa[List.getElem?_take]using h2
theorem ZrN(f:Nat)(b c:Nat)(m:Mem)(hb:m.reads b 0 (plL f))(hc:m.reads c 0 [.pointer (some ⟨b,0,none⟩)]):IX Try.prog 98 [] [.pointer (some ⟨c,0,none⟩)] m ((ZbR f).map λi=>[.int .i64 (i:Nat)]):=by
 apply ZdA 0 [] [] c 0
 unfold Zcg
 intro l
 refine⟨λxs _ _ m' q=>∃k:Nat,k<=513/\xs=[.int .i64 (((List.range k).filter λi=>f.testBit i).length:Nat),.int .i64 k]/\m.le m'/\q=513 - k,⟨513,0,by omega,rfl,Mem.le_refl _,rfl⟩,?_⟩
 rintro y n m1 q aW ⟨k,hk,gF,_,hq⟩
 simp only[List.cons.injEq,Value.int.injEq,true_and,and_true]at gF
 obtain⟨rfl,rfl⟩:=gF
 have dZ:((List.range (k+1)).filter λi=>f.testBit i).length=((List.range k).filter λi=>f.testBit i).length+(if f.testBit k then 1 else 0):=by
  rw[List.range_succ,List.filter_append,List.length_append];simp[List.filter_cons];split <;> simp
 refine Zab (λbB=>?_) (λcK=>?_)
 ·have aX:k < 513:=by have:=of_decide_eq_true bB;omega
  refine⟨_,aW _ _ _ (hc 0 _ rfl),Zan (ZmU f k (by omega) b m1 (hb.mono aW)) λm2 aY=>Zab (λh=>?_) (λh=>?_)⟩
  ·refine⟨⟨rfl,by omega,?_⟩,⟨513 - (k+1),by omega,k+1,by omega,?_,mLt aW aY,rfl⟩,.inr rfl⟩
   ·rw[Int.toNat_natCast]
    show((ZbR f).map λi=>[Value.int .i64 (i:Nat)])[((List.range k).filter λi=>f.testBit i).length]?=_
    rw[List.getElem?_map,ZwM f k aX h];rfl
   ·rw[dZ,if_pos h,Zao (by omega) (by omega)];rfl
  ·refine⟨513 - (k+1),by omega,k+1,by omega,?_,mLt aW aY,rfl⟩
   rw[dZ,if_neg (by simp[h]),Zao (by omega) (by omega)];rfl
 ·have:k=513:=by have:=of_decide_eq_false cK;omega
  subst this
  left
  simp[ZbR]
theorem Zu5(f b:Nat)(m:Mem)(hb:m.reads b 0 (plL f)):CX Try.prog 82 #[.pointer (some ⟨b,0,none⟩)] m [] (λv m' _=>∃c,v=.func (.func 98) #[] #[.pointer (some ⟨c,0,none⟩)]/\m'.reads c 0 [.pointer (some ⟨b,0,none⟩)]):=by
 apply ZeO
 unfold ZcJ
 intro c m1 aW hc
 exact⟨m1,aW,Mem.le_refl _,c,rfl,hc⟩
theorem sh6:∀c:Nat,c < 256->IntKind.u8.wrap ((BitVec.ofInt 8 (c:Int)&&&BitVec.ofInt 8 63).toNat:Int)=((c % 64:Nat):Int)/\Int.fdiv (c:Int) (2 ^ 6)=((c / 64:Nat):Int):=by decide
theorem Zt7(t:T)(c:Nat)(hc:c < 256)(m:Mem)(hr:Rep m t):CX Try.prog 119 #[.agg #[.int .u64 t.s0,.int .u64 t.s1,.int .u64 t.s2,.int .u64 t.s3],.int .u8 c] m [] (Ret (.bool (t.hasB c))):=by
 apply ZpG
 unfold ZkT
 intro b m1 aW _
 obtain⟨h1,h2⟩:=sh6 c hc
 simp only[h1,h2,Int.toNat_natCast,Nat.zero_add,Nat.mul_one]
 have cC:=ZuC hr
 have hw:∃w:Int,[Value.int .u64 t.s0,.int .u64 t.s1,.int .u64 t.s2,.int .u64 t.s3][c / 64]?=some (.int .u64 w)/\0<=w/\w < 18446744073709551616/\t.hasB c=w.toNat.testBit (c % 64):=by
  have:c / 64=0\/c / 64=1\/c / 64=2\/c / 64=3:=by omega
  unfold T.hasB
  rcases this with e|e|e|e
  ·exact⟨t.s0,by rw[e];rfl,cC.s0.1,cC.s0.2,by simp[e]⟩
  ·exact⟨t.s1,by rw[e];rfl,cC.s1.1,cC.s1.2,by simp[e]⟩
  ·exact⟨t.s2,by rw[e];rfl,cC.s2.1,cC.s2.2,by simp[e]⟩
  ·exact⟨t.s3,by rw[e];rfl,cC.s3.1,cC.s3.2,by simp[e]⟩
 obtain⟨w,jR,gS,sF,uD⟩:=hw
 refine⟨by omega,⟨by omega,by omega⟩,Zah jR (Zaa rfl ⟨by omega,Zac aW ?_⟩)⟩
 rw[uD,Nat.min_eq_left (by omega)]
 obtain⟨n,rfl⟩:∃n:Nat,w=n:=⟨w.toNat,by omega⟩
 show Value.bool (IntKind.u64.wrap _ == 1)=_
 simp only[intOf]
 rw[Zrt _ _ (by omega)]
 simp
end Go.Proofs.Ythiefodednaikaa
namespace Go.Proofs.Ythiefodednaikaa
open Go Go.Eng Go.Proofs Go.RowKit Go.Rx
theorem ZwN(a b c d e f g h i a' b' c' d' e' f' g' h' i':Int):EqIs Try.prog 95 (.agg #[.int .u64 a,.int .u64 b,.int .u64 c,.int .u64 d,.int .u64 e,.int .u64 f,.int .u64 g,.int .u64 h,.int .u64 i]) (.agg #[.int .u64 a',.int .u64 b',.int .u64 c',.int .u64 d',.int .u64 e',.int .u64 f',.int .u64 g',.int .u64 h',.int .u64 i']) (a == a'&&(b == b'&&(c == c'&&(d == d'&&(e == e'&&(f == f'&&(g == g'&&(h == h'&&i == i')))))))):=by
 refine⟨λw=>?_,λop ox oy w=>Zd8 (by kernel_rfl) op ox oy _ _ w⟩
 have u3:=Try.underlying24
 have a3:=Try.isAgg24
 have z3:=Try.sizeOf24
 rw[Op.equal,Op.maxDepth,show(10000:Nat)=9999+1 from rfl,Op.equalIn]
 simp only[Sem.run_bind,run_underlying Try.underlying95,Result.andThen_ok]
 simp only[Std.Legacy.Range.forIn_eq_forIn_range',Std.Legacy.Range.size,Nat.sub_zero,Nat.add_sub_cancel,Nat.div_one,List.range'_succ,List.range'_zero,List.forIn_cons,List.forIn_nil]
 go_simp
 by_cases h1:a=a'
 ·by_cases h2:b=b'
  ·by_cases h3:c=c'
   ·by_cases h4:d=d'
    ·by_cases h5:e=e'
     ·by_cases h6:f=f'
      ·by_cases h7:g=g'
       ·by_cases h8:h=h'
        ·by_cases h9:i=i' <;> simp[h1,h2,h3,h4,h5,h6,h7,h8,h9]
        ·simp[h1,h2,h3,h4,h5,h6,h7,h8]
       ·simp[h1,h2,h3,h4,h5,h6,h7]
      ·simp[h1,h2,h3,h4,h5,h6]
     ·simp[h1,h2,h3,h4,h5]
    ·simp[h1,h2,h3,h4]
   ·simp[h1,h2,h3]
  ·simp[h1,h2]
 ·simp[h1]
theorem ZyP{f g:Nat}(hf:f < Zcn)(hg:g < Zcn):EqIs Try.prog 95 (plV f) (plV g) (f == g):=by
 have h:=ZwN (wdN f 0:Nat) (wdN f 1:Nat) (wdN f 2:Nat) (wdN f 3:Nat) (wdN f 4:Nat) (wdN f 5:Nat) (wdN f 6:Nat) (wdN f 7:Nat) (wdN f 8:Nat) (wdN g 0:Nat) (wdN g 1:Nat) (wdN g 2:Nat) (wdN g 3:Nat) (wdN g 4:Nat) (wdN g 5:Nat) (wdN g 6:Nat) (wdN g 7:Nat) (wdN g 8:Nat)
 have e:(((wdN f 0:Nat):Int) == (wdN g 0:Nat)&&(((wdN f 1:Nat):Int) == (wdN g 1:Nat)&&(((wdN f 2:Nat):Int) == (wdN g 2:Nat)&&(((wdN f 3:Nat):Int) == (wdN g 3:Nat)&&(((wdN f 4:Nat):Int) == (wdN g 4:Nat)&&(((wdN f 5:Nat):Int) == (wdN g 5:Nat)&&(((wdN f 6:Nat):Int) == (wdN g 6:Nat)&&(((wdN f 7:Nat):Int) == (wdN g 7:Nat)&&((wdN f 8:Nat):Int) == (wdN g 8:Nat)))))))))=(f == g):=by
  rw[Bool.eq_iff_iff]
  simp only[Bool.and_eq_true,beq_iff_eq,Int.natCast_inj]
  constructor
  ·rintro⟨h0,h1,h2,h3,h4,h5,h6,h7,h8⟩
   refine Zxy hf hg λj hj=>?_
   have:j=0\/j=1\/j=2\/j=3\/j=4\/j=5\/j=6\/j=7\/j=8:=by omega
   rcases this with rfl|rfl|rfl|rfl|rfl|rfl|rfl|rfl|rfl
   ·exact h0
   ·exact h1
   ·exact h2
   ·exact h3
   ·exact h4
   ·exact h5
   ·exact h6
   ·exact h7
   ·exact h8
  ·rintro rfl;simp
 rw[e]at h
 exact h
end Go.Proofs.Ythiefodednaikaa
namespace Go.Proofs.Ythiefodednaikaa
open Go Go.Eng Go.Rx Go.Proofs Go.RowKit
set_option maxRecDepth 100000
abbrev txV(a:Option Addr)(s:List Nat)(c:Nat)(back:Bool):Value:=.agg #[.slice a s.length c,.bool back]
theorem Zu6(t:T)(a:Option Addr)(s:List Nat)(c:Nat)(back:Bool)(f:Nat)(m:Mem)(hr:Rep m t)(hb:Byt m a s)(hs:s.length<=512):CX Try.prog 101 #[txV a s c back,t.v,plV f] m [] (Ret (plV (Zr5 t back f s 0 0))):=by
 apply ZeQ
 unfold ZcL
 intro b m1 aW _ b1 m2 aY _ b2 m3 bN dS b3 b4
 refine⟨λxs css _ m' q=>∃k o:Nat,k<=s.length/\xs=[.int .i64 k]/\css=[plL o]/\Zr5 t back f (s.drop k) k o=Zr5 t back f s 0 0/\m3.le m'/\q=s.length - k,⟨_,0,0,by omega,rfl,rfl,rfl,Mem.le_refl _,rfl⟩,?_⟩
 rintro n cs m4 q cE ⟨k,o,hk,hn,cV,dC,_,hq⟩
 obtain rfl:n=k:=by simpa using hn
 obtain rfl:cs=plL o:=by simpa using cV
 have dM:m.le m4:=mLt aW (mLt aY (mLt bN cE))
 refine Zab (λbB=>?_) (λcK=>?_)
 ·have aX:k < s.length:=by have:=of_decide_eq_true bB;omega
  obtain⟨ch,mz⟩:=Zgj aX
  have hw:IntKind.i64.wrap ((k:Int)+1)=((k+1:Nat):Int):=by rw[Zao (by omega) (by omega)];rfl
  have dZ:Zr5 t back f (s.drop (k+1)) (k+1) (Zo8 t back f k ch o)=Zr5 t back f s 0 0:=by rw[ZkH mz]at dC;exact dC
  obtain⟨⟨b5,o5,ha,hv⟩,iI⟩:=(hb.mono dM).get mz
  simp only[hw,Int.toNat_natCast,Nat.mul_one]
  refine⟨b5,o5,ha,⟨by omega,by omega⟩,_,hv,?_⟩
  cases back with
  | true=>
   refine Zln (x:=true) rfl ?_
   refine⟨f.testBit (k+1)&&t.hasB ch,Zan (ZmU f (k+1) (by omega) b2 m4 (dS.mono cE)) λm5 cN=>Zab (λh=>Zan (Zt7 t ch iI m5 (hr.mono (mLt dM cN))) λm6 dA=>⟨by trivial,by rw[h,Bool.true_and]⟩) (λh=>⟨by trivial,by rw[h,Bool.false_and]⟩),Zab (λh=>?_) (λh=>?_)⟩
   ·refine⟨λi _ _=>if i=2 then Ret (plV (2 ^ k))else Ret (plV (o|||2 ^ k)),Ret (plV (2 ^ k)),rfl,Zt6 k (by omega) m4,Zba,Zmc λm5 cN=>⟨Ret (plV (o|||2 ^ k)),rfl,ZwL o (2 ^ k) m5,Zba,Zmc λm6 dA M cR cT fV=>⟨by trivial,s.length - (k+1),by omega,k+1,o|||2 ^ k,by omega,rfl,rfl,?_,mLt cE cR,rfl⟩⟩⟩
    rw[<-dZ];unfold Zo8;rw[if_pos (by simpa using h)];rfl
   ·refine⟨by trivial,s.length - (k+1),by omega,k+1,o,by omega,rfl,rfl,?_,cE,rfl⟩
    rw[<-dZ];unfold Zo8;rw[if_neg (by simpa using h)]
  | false=>
   refine Zln (x:=false) rfl ?_
   refine⟨f.testBit k&&t.hasB ch,Zan (ZmU f k (by omega) b2 m4 (dS.mono cE)) λm5 cN=>Zab (λh=>Zan (Zt7 t ch iI m5 (hr.mono (mLt dM cN))) λm6 dA=>⟨by trivial,by rw[h,Bool.true_and]⟩) (λh=>⟨by trivial,by rw[h,Bool.false_and]⟩),Zab (λh=>?_) (λh=>?_)⟩
   ·refine⟨λi _ _=>if i=2 then Ret (plV (2 ^ (k+1)))else Ret (plV (o|||2 ^ (k+1))),Ret (plV (2 ^ (k+1))),rfl,Zt6 (k+1) (by omega) m4,Zba,Zmc λm5 cN=>⟨Ret (plV (o|||2 ^ (k+1))),rfl,ZwL o (2 ^ (k+1)) m5,Zba,Zmc λm6 dA M cR cT fV=>⟨by trivial,s.length - (k+1),by omega,k+1,o|||2 ^ (k+1),by omega,rfl,rfl,?_,mLt cE cR,rfl⟩⟩⟩
    rw[<-dZ];unfold Zo8;rw[if_pos (by simpa using h)];rfl
   ·refine⟨by trivial,s.length - (k+1),by omega,k+1,o,by omega,rfl,rfl,?_,cE,rfl⟩
    rw[<-dZ];unfold Zo8;rw[if_neg (by simpa using h)]
 ·have:k=s.length:=by have:=of_decide_eq_false cK;omega
  subst this
  refine Zaa rfl (Zac dM ?_)
  rw[List.drop_length]at dC
  rw[<-dC];rfl
theorem ZwO(t:T)(f:Nat)(m:Mem):CX Try.prog 99 #[t.v,plV f] m [] (Ret (plV 0)):=by
 apply ZdB
 unfold Zch
 intro b m1 aW _ b1 m2 aY _ b2
 exact Zac (mLt aW aY) rfl
theorem Zu7(t:T)(f:Nat)(m:Mem):CX Try.prog 100 #[t.v,plV f] m [] (Ret (plV f)):=by
 apply ZdC
 unfold Zci
 intro b m1 aW _ b1 m2 aY _ b2
 exact Zac (mLt aW aY) rfl
def IH(a:Option Addr)(s:List Nat)(c:Nat)(back:Bool)(t:T):Prop:=∀x∈t.subs,∀(f:Nat)(m:Mem),f < Zcn->Rep m x->Byt m a s->CX Try.prog 53 #[txV a s c back,x.v,plV f] m [] (Ret (plV (x.lead s back f)))
section
variable (t:T) (a:Option Addr) (s:List Nat) (c:Nat) (back:Bool) (f:Nat) (m:Mem) (hr:Rep m t) (hb:Byt m a s) (hs:s.length<=512) (ih:IH a s c back t) (hf:f < Zcn)
include hr hb hs ih hf
theorem ZxH(pb po:Nat)(hp:m.reads pb po [.slice a s.length c,.bool back]):CX Try.prog 102 #[t.v,plV f,.pointer (some ⟨pb,po,none⟩)] m [] (Ret (plV (if back then Zgd s back t.subs f else ZgQ s back t.subs f))):=by
 apply ZdD
 unfold Zcj
 intro b m1 aW _ b1 b2
 obtain⟨bS,cF⟩:=Zev hr
 refine⟨λxs css _ m' q=>∃k o:Nat,k<=t.subs.length/\xs=[.int .i64 k]/\css=[plL o]/\o < Zcn/\(if back then Zgd s back (t.subs.take (t.subs.length - k)) o else ZgQ s back (t.subs.drop k) o)=(if back then Zgd s back t.subs f else ZgQ s back t.subs f)/\m1.le m'/\q=t.subs.length - k,⟨_,0,f,by omega,rfl,rfl,hf,by rw[Nat.sub_zero,List.take_length,List.drop_zero],Mem.le_refl _,rfl⟩,?_⟩
 rintro n cs m4 q cE ⟨k,o,hk,hn,cV,ho,dC,_,hq⟩
 obtain rfl:n=k:=by simpa using hn
 obtain rfl:cs=plL o:=by simpa using cV
 have dM:m.le m4:=mLt aW cE
 refine Zab (λbB=>?_) (λcK=>?_)
 ·have aX:k < t.subs.length:=by have:=of_decide_eq_true bB;omega
  have hw:IntKind.i64.wrap ((k:Int)+1)=((k+1:Nat):Int):=by rw[Zao (by omega) (by omega)];rfl
  have jR:IntKind.i64.wrap ((t.subs.length:Int) - 1)=((t.subs.length - 1:Nat):Int):=by rw[Zao (by omega) (by omega)];omega
  have gS:IntKind.i64.wrap (((t.subs.length - 1:Nat):Int) - k)=((t.subs.length - 1 - k:Nat):Int):=by rw[Zao (by omega) (by omega)];omega
  rcases cF with cF|⟨sb,so,j5,kM⟩
  ·rw[cF]at aX;simp at aX
  simp only[hw,jR,gS,Int.toNat_natCast]
  refine⟨.bool back,dM _ _ _ (hp 1 _ rfl),Zaa rfl ?_⟩
  cases back with
  | true=>
   refine Zln (x:=true) rfl ?_
   obtain⟨x,hx⟩:=Zgj (l:=t.subs) (k:=t.subs.length - 1 - k) (by omega)
   obtain⟨eR,gu⟩:=kM.get hx
   refine⟨λ_ _ _=>Ret (plV (x.lead s true o)),_,_,hp.mono dM,sb,so,j5,⟨by omega,by omega⟩,_,_,_,_,_,_,_,_,eR.mono dM,Ret (plV (x.lead s true o)),rfl,ih x (List.mem_of_getElem? hx) o m4 ho (gu.mono dM) (hb.mono dM),Zba,Zmc λm6 dA M cR cT=>⟨by trivial,t.subs.length - (k+1),by omega,k+1,x.lead s true o,by omega,rfl,rfl,Zfj s true hs x o ho,?_,mLt cE cR,rfl⟩⟩
   rw[if_pos rfl,if_pos rfl]at dC ⊢
   rw[show t.subs.length - k=t.subs.length - 1 - k+1 by omega,Ziu hx,Zqt]at dC
   rw[show t.subs.length - (k+1)=t.subs.length - 1 - k by omega]
   exact dC
  | false=>
   refine Zln (x:=false) rfl ?_
   obtain⟨x,hx⟩:=Zgj aX
   obtain⟨eR,gu⟩:=kM.get hx
   refine⟨λ_ _ _=>Ret (plV (x.lead s false o)),_,_,hp.mono dM,sb,so,j5,⟨by omega,by omega⟩,_,_,_,_,_,_,_,_,eR.mono dM,Ret (plV (x.lead s false o)),rfl,ih x (List.mem_of_getElem? hx) o m4 ho (gu.mono dM) (hb.mono dM),Zba,Zmc λm6 dA M cR cT=>⟨by trivial,t.subs.length - (k+1),by omega,k+1,x.lead s false o,by omega,rfl,rfl,Zfj s false hs x o ho,?_,mLt cE cR,rfl⟩⟩
   rw[if_neg (by simp),if_neg (by simp)]at dC ⊢
   rw[ZkH hx,Zqs]at dC
   exact dC
 ·have:k=t.subs.length:=by have:=of_decide_eq_false cK;omega
  subst this
  refine Zaa rfl (Zac dM ?_)
  rw[Nat.sub_self,List.drop_length]at dC
  rw[<-dC];cases back <;> rfl
theorem ZxI(pb po:Nat)(hp:m.reads pb po [.slice a s.length c,.bool back]):CX Try.prog 103 #[t.v,plV f,.pointer (some ⟨pb,po,none⟩)] m [] (Ret (plV (Zqr s back t.subs f 0))):=by
 apply ZdE
 unfold Zck
 intro b m1 aW _ b1 m2 aY _ b2 b3
 obtain⟨bS,cF⟩:=Zev hr
 refine⟨λxs css _ m' q=>∃k o:Nat,k<=t.subs.length/\xs=[.int .i64 k]/\css=[plL o]/\Zqr s back (t.subs.drop k) f o=Zqr s back t.subs f 0/\m2.le m'/\q=t.subs.length - k,⟨_,0,0,by omega,rfl,rfl,rfl,Mem.le_refl _,rfl⟩,?_⟩
 rintro n cs m4 q cE ⟨k,o,hk,hn,cV,dC,_,hq⟩
 obtain rfl:n=k:=by simpa using hn
 obtain rfl:cs=plL o:=by simpa using cV
 have dM:m.le m4:=mLt aW (mLt aY cE)
 refine Zab (λbB=>?_) (λcK=>?_)
 ·have aX:k < t.subs.length:=by have:=of_decide_eq_true bB;omega
  have hw:IntKind.i64.wrap ((k:Int)+1)=((k+1:Nat):Int):=by rw[Zao (by omega) (by omega)];rfl
  rcases cF with cF|⟨sb,so,j5,kM⟩
  ·rw[cF]at aX;simp at aX
  simp only[hw,Int.toNat_natCast]
  obtain⟨x,hx⟩:=Zgj aX
  obtain⟨eR,gu⟩:=kM.get hx
  refine⟨sb,so,j5,⟨by omega,by omega⟩,_,_,_,_,_,_,_,_,eR.mono dM,λb5=>Zaa rfl ⟨λi _ _=>if i=4 then Ret (plV (x.lead s back f))else Ret (plV (o|||x.lead s back f)),_,_,hp.mono dM,Ret (plV (x.lead s back f)),rfl,ih x (List.mem_of_getElem? hx) f m4 hf (gu.mono dM) (hb.mono dM),Zba,Zmc λm5 cN=>⟨Ret (plV (o|||x.lead s back f)),rfl,ZwL o _ m5,Zba,Zmc λm6 dA M cR cT fV=>⟨by trivial,t.subs.length - (k+1),by omega,k+1,o|||x.lead s back f,by omega,rfl,rfl,?_,mLt cE cR,rfl⟩⟩⟩⟩
  rw[ZkH hx,Zpa]at dC
  exact dC
 ·have:k=t.subs.length:=by have:=of_decide_eq_false cK;omega
  subst this
  refine Zaa rfl (Zac dM ?_)
  rw[List.drop_length,Zrv]at dC
  rw[dC];rfl
theorem ZxJ(x:T)(hx:t.subs=[x])(pb po:Nat)(hp:m.reads pb po [.slice a s.length c,.bool back]):CX Try.prog 106 #[t.v,plV f,.pointer (some ⟨pb,po,none⟩)] m [] (Ret (plV (ZfM s back t.subs f))):=by
 apply ZdF
 unfold Zcl
 intro b m1 aW _ b1 m2 aY _ b2
 obtain⟨bS,cF⟩:=Zev hr
 have dM:m.le m2:=mLt aW aY
 rcases cF with cF|⟨sb,so,j5,kM⟩
 ·rw[cF]at hx;cases hx
 have iS:t.subs[0]?=some x:=by rw[hx];rfl
 obtain⟨eR,gu⟩:=kM.get iS
 refine⟨λ_ _ _=>Ret (plV (x.lead s back f)),_,_,hp.mono dM,sb,so,j5,⟨by omega,by rw[hx];simp⟩,_,_,_,_,_,_,_,_,eR.mono dM,Ret (plV (x.lead s back f)),rfl,ih x (List.mem_of_getElem? iS) f m2 hf (gu.mono dM) (hb.mono dM),Zba,Zmc λm6 dA M cR cT=>Zac (mLt dM cR) ?_⟩
 rw[hx];unfold ZfM;rfl
theorem Zth(x:T)(hx:t.subs=[x])(j3:0<=t.mn):CX Try.prog 105 #[txV a s c back,t.v,plV f] m [] (Ret (plV (Zwi (ZfM s back t.subs) t.mn t.mx f))):=by
 apply Zel
 unfold Zcv
 intro b m1 aW _ b1 m2 aY _ b2 b3
 obtain⟨bS,cF⟩:=Zev hr
 rcases cF with cF|⟨sb,so,j5,kM⟩
 ·rw[cF]at hx;cases hx
 have iS:t.subs[0]?=some x:=by rw[hx];rfl
 obtain⟨eR,gu⟩:=kM.get iS
 have hg:ZfM s back t.subs=x.lead s back:=by rw[hx];rfl
 have kH:t.subs.length=1:=by rw[hx];rfl
 have cC:=ZuC hr
 obtain⟨N,hN⟩:∃N:Nat,t.mn=N:=⟨t.mn.toNat,by omega⟩
 have sA:=cC.mn
 rw[hg,hN]
 unfold Zwi
 rw[Int.toNat_natCast]
 refine⟨λxs css _ m' q=>∃k o:Nat,k<=N/\xs=[.int .i64 k]/\css=[plL o]/\o < Zcn/\ZvH (x.lead s back) (N - k) o=ZvH (x.lead s back) N f/\m2.le m'/\q=N - k,⟨_,0,f,by omega,rfl,rfl,hf,rfl,Mem.le_refl _,rfl⟩,?_⟩
 rintro n cs m4 q cE ⟨k,o,hk,hn,cV,ho,dC,_,hq⟩
 obtain rfl:n=k:=by simpa using hn
 obtain rfl:cs=plL o:=by simpa using cV
 have dM:m.le m4:=mLt aW (mLt aY cE)
 refine Zab (λbB=>?_) (λcK=>?_)
 ·have aX:k < N:=by have:=of_decide_eq_true bB;omega
  have hw:IntKind.i64.wrap ((k:Int)+1)=((k+1:Nat):Int):=by rw[Zao (by omega) (by omega)];rfl
  simp only[hw]
  refine⟨λ_ _ _=>Ret (plV (x.lead s back o)),sb,so,j5,⟨by omega,by rw[hx];simp⟩,_,_,_,_,_,_,_,_,eR.mono dM,Ret (plV (x.lead s back o)),rfl,ih x (List.mem_of_getElem? iS) o m4 ho (gu.mono dM) (hb.mono dM),Zba,Zmc λm6 dA M cR cT=>⟨by trivial,N - (k+1),by omega,k+1,x.lead s back o,by omega,rfl,rfl,Zfj s back hs x o ho,?_,mLt cE cR,rfl⟩⟩
  rw[show N - k=N - (k+1)+1 by omega]at dC
  exact dC
 ·have:k=N:=by have:=of_decide_eq_false cK;omega
  subst this
  replace dC:o=ZvH (x.lead s back) k f:=by rw[Nat.sub_self]at dC;exact dC
  rw[<-dC]
  intro b4 b5
  refine Zaa rfl (Zaa rfl ?_)
  refine⟨λxs css _ m' q=>∃(i:Int)(c1:List Value)(out last:Nat),xs=[.int .i64 i]/\css=[c1,plL out,plL last]/\out < Zcn/\last < Zcn/\Zcn - out < q/\ZpX (x.lead s back) t.mx q i out last=ZpX (x.lead s back) t.mx (Zcn+1) k o o/\m4.le m',⟨Zcn+1,k,_,o,o,rfl,rfl,ho,ho,by omega,rfl,Mem.le_refl _⟩,?_⟩
  rintro i cs1 cs2 cs3 m5 q cN ⟨i',c1,out,last,hi,cV,cX,dE,hq,eD,_⟩
  obtain rfl:i=i':=by simpa using hi
  obtain⟨rfl,rfl,rfl⟩:cs1=c1/\cs2=plL out/\cs3=plL last:=by simpa using cV
  have kN:m.le m5:=mLt dM cN
  obtain⟨q,rfl⟩:∃q',q=q'+1:=⟨q - 1,by omega⟩
  rw[ZmE (n:=q)]at eD
  refine Zab (λcW=>?_) (λhe=>?_)
  ·have qR:¬i=t.mx:=by simpa using cW
   rw[if_neg qR]at eD
   refine⟨λ_ _ _=>Ret (plV (x.lead s back last)),sb,so,j5,⟨by omega,by rw[hx];simp⟩,_,_,_,_,_,_,_,_,eR.mono kN,Ret (plV (x.lead s back last)),rfl,ih x (List.mem_of_getElem? iS) last m5 dE (gu.mono kN) (hb.mono kN),Zba,Zmc λm6 dA M cR cT=>Zal (ZwL out (x.lead s back last) M) Zba (Zmc λm7 dN b7=>?_)⟩
   have gT:=Zfj s back hs x last dE
   have md:=Nat.or_lt_two_pow cX gT
   refine⟨(out|||x.lead s back last) == out,ZyP md cX,Zab (λh=>?_) (λh=>?_)⟩
   ·rw[if_pos (by simpa using h)]at eD
    refine Zaa rfl (Zac (mLt kN (mLt cR dN)) ?_)
    rw[<-eD];rfl
   ·have fK:¬(out|||x.lead s back last)=out:=by simpa using h
    rw[if_neg fK]at eD
    have cL:out<=out|||x.lead s back last:=Nat.left_le_or
    refine⟨by trivial,q,by omega,_,_,out|||x.lead s back last,x.lead s back last,rfl,rfl,md,gT,by omega,eD,mLt cN (mLt cR dN)⟩
  ·have he':i=t.mx:=by simpa using he
   rw[if_pos he']at eD
   refine Zaa rfl ⟨m,Mem.le_refl _,kN,?_⟩
   rw[<-eD];rfl
end
def KR(a:Option Addr)(s:List Nat)(c:Nat)(back:Bool):Value->Mem->List (List Value)->Prop:=λv m' _=>∃b,v=.agg #[.func (.func 99) #[] #[],.func (.func 100) #[] #[],.func (.func 101) #[txV a s c back] #[],.func (.func 102) #[] #[.pointer (some ⟨b,0,none⟩)],.func (.func 103) #[] #[.pointer (some ⟨b,0,none⟩)],.func (.func 105) #[txV a s c back] #[],.func (.func 106) #[] #[.pointer (some ⟨b,0,none⟩)]]/\m'.reads b 0 [.slice a s.length c,.bool back]
theorem ZfY(a:Option Addr)(s:List Nat)(c:Nat)(back:Bool)(m:Mem):CX Try.prog 84 #[txV a s c back] m [] (KR a s c back):=by
 apply ZeP
 unfold ZcK
 intro b m1 aW hb b1
 exact⟨m1,aW,Mem.le_refl _,b,rfl,hb⟩
theorem ZiS{a s c back}:∀(v:Value)(m':Mem) (css:List (List Value)),KR a s c back v m' css->Shape.fits (.agg [.fn,.fn,.fn,.fn,.fn,.fn,.fn]) v=true:=λv _ _ ⟨b,e,_⟩=>by rw[e];rfl
theorem Zt8{t:T}(h:(t.subs.length == 1)=true):∃x,t.subs=[x]:=List.length_eq_one_iff.1 (by simpa using h)
theorem Zu8(t:T)(a:Option Addr)(s:List Nat)(c:Nat)(back:Bool)(f:Nat)(m:Mem)(hr:Rep m t)(hb:Byt m a s)(hs:s.length<=512)(hf:f < Zcn)(hk:t.k=0):CX Try.prog 53 #[txV a s c back,t.v,plV f] m [] (Ret (plV (0))):=by
 have key:ZbD a s.length c back t.s0 t.s1 t.s2 t.s3 t.mn t.mx t.a t.subs.length t.c (wdN f 0:Nat) (wdN f 1:Nat) (wdN f 2:Nat) (wdN f 3:Nat) (wdN f 4:Nat) (wdN f 5:Nat) (wdN f 6:Nat) (wdN f 7:Nat) (wdN f 8:Nat) m (Ret (plV (0))):=by
  unfold ZbD
  intro b1 m1 aW _ b2 m2 aY _ b3 m3 bN _ b4
  refine⟨λi _ _=>if i=1 then KR a s c back else Ret (plV (0)),KR a s c back,rfl,ZfY a s c back m3,ZiS,?_⟩
  rintro g0 i0 c0 g1 i1 c1 g2 i2 c2 g3 i3 c3 g4 i4 c4 g5 i5 c5 g6 i6 c6 m5 cN ⟨b,hv,cJ⟩
  simp only[Value.agg.injEq,Array.mk.injEq,List.cons.injEq,Value.func.injEq,Fn.func.injEq,and_true]at hv
  obtain⟨⟨rfl,rfl,rfl⟩,⟨rfl,rfl,rfl⟩,⟨rfl,rfl,rfl⟩,⟨rfl,rfl,rfl⟩,⟨rfl,rfl,rfl⟩,⟨rfl,rfl,rfl⟩,⟨rfl,rfl,rfl⟩⟩:=hv
  have hM:m.le m5:=mLt aW (mLt aY (mLt bN cN))
  have bZ:=ZwO t f m5
  rw[T.v,hk]at bZ
  exact⟨⟨by omega,by omega⟩,Ret (plV (0)),rfl,bZ,Zba,Zmc λm6 dA M cR cT fV=>Zac (mLt hM cT) rfl⟩
 have h:=Zd9 a s.length c back t.s0 t.s1 t.s2 t.s3 t.mn t.mx t.a t.subs.length t.c (wdN f 0:Nat) (wdN f 1:Nat) (wdN f 2:Nat) (wdN f 3:Nat) (wdN f 4:Nat) (wdN f 5:Nat) (wdN f 6:Nat) (wdN f 7:Nat) (wdN f 8:Nat) m _ key
 rw[T.v,hk]
 exact h
theorem Zu9(t:T)(a:Option Addr)(s:List Nat)(c:Nat)(back:Bool)(f:Nat)(m:Mem)(hr:Rep m t)(hb:Byt m a s)(hs:s.length<=512)(hf:f < Zcn)(hk:t.k=1):CX Try.prog 53 #[txV a s c back,t.v,plV f] m [] (Ret (plV (f))):=by
 have key:ZbE a s.length c back t.s0 t.s1 t.s2 t.s3 t.mn t.mx t.a t.subs.length t.c (wdN f 0:Nat) (wdN f 1:Nat) (wdN f 2:Nat) (wdN f 3:Nat) (wdN f 4:Nat) (wdN f 5:Nat) (wdN f 6:Nat) (wdN f 7:Nat) (wdN f 8:Nat) m (Ret (plV (f))):=by
  unfold ZbE
  intro b1 m1 aW _ b2 m2 aY _ b3 m3 bN _ b4
  refine⟨λi _ _=>if i=1 then KR a s c back else Ret (plV (f)),KR a s c back,rfl,ZfY a s c back m3,ZiS,?_⟩
  rintro g0 i0 c0 g1 i1 c1 g2 i2 c2 g3 i3 c3 g4 i4 c4 g5 i5 c5 g6 i6 c6 m5 cN ⟨b,hv,cJ⟩
  simp only[Value.agg.injEq,Array.mk.injEq,List.cons.injEq,Value.func.injEq,Fn.func.injEq,and_true]at hv
  obtain⟨⟨rfl,rfl,rfl⟩,⟨rfl,rfl,rfl⟩,⟨rfl,rfl,rfl⟩,⟨rfl,rfl,rfl⟩,⟨rfl,rfl,rfl⟩,⟨rfl,rfl,rfl⟩,⟨rfl,rfl,rfl⟩⟩:=hv
  have hM:m.le m5:=mLt aW (mLt aY (mLt bN cN))
  have bZ:=Zu7 t f m5
  rw[T.v,hk]at bZ
  exact⟨⟨by omega,by omega⟩,Ret (plV (f)),rfl,bZ,Zba,Zmc λm6 dA M cR cT fV=>Zac (mLt hM cT) rfl⟩
 have h:=Zea a s.length c back t.s0 t.s1 t.s2 t.s3 t.mn t.mx t.a t.subs.length t.c (wdN f 0:Nat) (wdN f 1:Nat) (wdN f 2:Nat) (wdN f 3:Nat) (wdN f 4:Nat) (wdN f 5:Nat) (wdN f 6:Nat) (wdN f 7:Nat) (wdN f 8:Nat) m _ key
 rw[T.v,hk]
 exact h
theorem Zva(t:T)(a:Option Addr)(s:List Nat)(c:Nat)(back:Bool)(f:Nat)(m:Mem)(hr:Rep m t)(hb:Byt m a s)(hs:s.length<=512)(hf:f < Zcn)(hk:t.k=2):CX Try.prog 53 #[txV a s c back,t.v,plV f] m [] (Ret (plV (Zr5 t back f s 0 0))):=by
 have key:ZbF a s.length c back t.s0 t.s1 t.s2 t.s3 t.mn t.mx t.a t.subs.length t.c (wdN f 0:Nat) (wdN f 1:Nat) (wdN f 2:Nat) (wdN f 3:Nat) (wdN f 4:Nat) (wdN f 5:Nat) (wdN f 6:Nat) (wdN f 7:Nat) (wdN f 8:Nat) m (Ret (plV (Zr5 t back f s 0 0))):=by
  unfold ZbF
  intro b1 m1 aW _ b2 m2 aY _ b3 m3 bN _ b4
  refine⟨λi _ _=>if i=1 then KR a s c back else Ret (plV (Zr5 t back f s 0 0)),KR a s c back,rfl,ZfY a s c back m3,ZiS,?_⟩
  rintro g0 i0 c0 g1 i1 c1 g2 i2 c2 g3 i3 c3 g4 i4 c4 g5 i5 c5 g6 i6 c6 m5 cN ⟨b,hv,cJ⟩
  simp only[Value.agg.injEq,Array.mk.injEq,List.cons.injEq,Value.func.injEq,Fn.func.injEq,and_true]at hv
  obtain⟨⟨rfl,rfl,rfl⟩,⟨rfl,rfl,rfl⟩,⟨rfl,rfl,rfl⟩,⟨rfl,rfl,rfl⟩,⟨rfl,rfl,rfl⟩,⟨rfl,rfl,rfl⟩,⟨rfl,rfl,rfl⟩⟩:=hv
  have hM:m.le m5:=mLt aW (mLt aY (mLt bN cN))
  have bZ:=Zu6 t a s c back f m5 (hr.mono hM) (hb.mono hM) hs
  rw[T.v,hk]at bZ
  exact⟨⟨by omega,by omega⟩,Ret (plV (Zr5 t back f s 0 0)),rfl,bZ,Zba,Zmc λm6 dA M cR cT fV=>Zac (mLt hM cT) rfl⟩
 have h:=Zeb a s.length c back t.s0 t.s1 t.s2 t.s3 t.mn t.mx t.a t.subs.length t.c (wdN f 0:Nat) (wdN f 1:Nat) (wdN f 2:Nat) (wdN f 3:Nat) (wdN f 4:Nat) (wdN f 5:Nat) (wdN f 6:Nat) (wdN f 7:Nat) (wdN f 8:Nat) m _ key
 rw[T.v,hk]
 exact h
theorem Zvb(t:T)(a:Option Addr)(s:List Nat)(c:Nat)(back:Bool)(f:Nat)(m:Mem)(hr:Rep m t)(hb:Byt m a s)(hs:s.length<=512)(hf:f < Zcn)(ih:IH a s c back t)(hk:t.k=3):CX Try.prog 53 #[txV a s c back,t.v,plV f] m [] (Ret (plV (if back then Zgd s back t.subs f else ZgQ s back t.subs f))):=by
 have key:ZbG a s.length c back t.s0 t.s1 t.s2 t.s3 t.mn t.mx t.a t.subs.length t.c (wdN f 0:Nat) (wdN f 1:Nat) (wdN f 2:Nat) (wdN f 3:Nat) (wdN f 4:Nat) (wdN f 5:Nat) (wdN f 6:Nat) (wdN f 7:Nat) (wdN f 8:Nat) m (Ret (plV (if back then Zgd s back t.subs f else ZgQ s back t.subs f))):=by
  unfold ZbG
  intro b1 m1 aW _ b2 m2 aY _ b3 m3 bN _ b4
  refine⟨λi _ _=>if i=1 then KR a s c back else Ret (plV (if back then Zgd s back t.subs f else ZgQ s back t.subs f)),KR a s c back,rfl,ZfY a s c back m3,ZiS,?_⟩
  rintro g0 i0 c0 g1 i1 c1 g2 i2 c2 g3 i3 c3 g4 i4 c4 g5 i5 c5 g6 i6 c6 m5 cN ⟨b,hv,cJ⟩
  simp only[Value.agg.injEq,Array.mk.injEq,List.cons.injEq,Value.func.injEq,Fn.func.injEq,and_true]at hv
  obtain⟨⟨rfl,rfl,rfl⟩,⟨rfl,rfl,rfl⟩,⟨rfl,rfl,rfl⟩,⟨rfl,rfl,rfl⟩,⟨rfl,rfl,rfl⟩,⟨rfl,rfl,rfl⟩,⟨rfl,rfl,rfl⟩⟩:=hv
  have hM:m.le m5:=mLt aW (mLt aY (mLt bN cN))
  have bZ:=ZxH t a s c back f m5 (hr.mono hM) (hb.mono hM) hs ih hf b 0 cJ
  rw[T.v,hk]at bZ
  exact⟨⟨by omega,by omega⟩,Ret (plV (if back then Zgd s back t.subs f else ZgQ s back t.subs f)),rfl,bZ,Zba,Zmc λm6 dA M cR cT fV=>Zac (mLt hM cT) rfl⟩
 have h:=Zec a s.length c back t.s0 t.s1 t.s2 t.s3 t.mn t.mx t.a t.subs.length t.c (wdN f 0:Nat) (wdN f 1:Nat) (wdN f 2:Nat) (wdN f 3:Nat) (wdN f 4:Nat) (wdN f 5:Nat) (wdN f 6:Nat) (wdN f 7:Nat) (wdN f 8:Nat) m _ key
 rw[T.v,hk]
 exact h
theorem Zvc(t:T)(a:Option Addr)(s:List Nat)(c:Nat)(back:Bool)(f:Nat)(m:Mem)(hr:Rep m t)(hb:Byt m a s)(hs:s.length<=512)(hf:f < Zcn)(ih:IH a s c back t)(hk:t.k=4):CX Try.prog 53 #[txV a s c back,t.v,plV f] m [] (Ret (plV (Zqr s back t.subs f 0))):=by
 have key:ZbH a s.length c back t.s0 t.s1 t.s2 t.s3 t.mn t.mx t.a t.subs.length t.c (wdN f 0:Nat) (wdN f 1:Nat) (wdN f 2:Nat) (wdN f 3:Nat) (wdN f 4:Nat) (wdN f 5:Nat) (wdN f 6:Nat) (wdN f 7:Nat) (wdN f 8:Nat) m (Ret (plV (Zqr s back t.subs f 0))):=by
  unfold ZbH
  intro b1 m1 aW _ b2 m2 aY _ b3 m3 bN _ b4
  refine⟨λi _ _=>if i=1 then KR a s c back else Ret (plV (Zqr s back t.subs f 0)),KR a s c back,rfl,ZfY a s c back m3,ZiS,?_⟩
  rintro g0 i0 c0 g1 i1 c1 g2 i2 c2 g3 i3 c3 g4 i4 c4 g5 i5 c5 g6 i6 c6 m5 cN ⟨b,hv,cJ⟩
  simp only[Value.agg.injEq,Array.mk.injEq,List.cons.injEq,Value.func.injEq,Fn.func.injEq,and_true]at hv
  obtain⟨⟨rfl,rfl,rfl⟩,⟨rfl,rfl,rfl⟩,⟨rfl,rfl,rfl⟩,⟨rfl,rfl,rfl⟩,⟨rfl,rfl,rfl⟩,⟨rfl,rfl,rfl⟩,⟨rfl,rfl,rfl⟩⟩:=hv
  have hM:m.le m5:=mLt aW (mLt aY (mLt bN cN))
  have bZ:=ZxI t a s c back f m5 (hr.mono hM) (hb.mono hM) hs ih hf b 0 cJ
  rw[T.v,hk]at bZ
  exact⟨⟨by omega,by omega⟩,Ret (plV (Zqr s back t.subs f 0)),rfl,bZ,Zba,Zmc λm6 dA M cR cT fV=>Zac (mLt hM cT) rfl⟩
 have h:=Zed a s.length c back t.s0 t.s1 t.s2 t.s3 t.mn t.mx t.a t.subs.length t.c (wdN f 0:Nat) (wdN f 1:Nat) (wdN f 2:Nat) (wdN f 3:Nat) (wdN f 4:Nat) (wdN f 5:Nat) (wdN f 6:Nat) (wdN f 7:Nat) (wdN f 8:Nat) m _ key
 rw[T.v,hk]
 exact h
theorem Zvd(t:T)(a:Option Addr)(s:List Nat)(c:Nat)(back:Bool)(f:Nat)(m:Mem)(hr:Rep m t)(hb:Byt m a s)(hs:s.length<=512)(hf:f < Zcn)(ih:IH a s c back t)(x:T)(hx:t.subs=[x])(j3:0<=t.mn)(hk:t.k=5):CX Try.prog 53 #[txV a s c back,t.v,plV f] m [] (Ret (plV (Zwi (ZfM s back t.subs) t.mn t.mx f))):=by
 have key:ZbI a s.length c back t.s0 t.s1 t.s2 t.s3 t.mn t.mx t.a t.subs.length t.c (wdN f 0:Nat) (wdN f 1:Nat) (wdN f 2:Nat) (wdN f 3:Nat) (wdN f 4:Nat) (wdN f 5:Nat) (wdN f 6:Nat) (wdN f 7:Nat) (wdN f 8:Nat) m (Ret (plV (Zwi (ZfM s back t.subs) t.mn t.mx f))):=by
  unfold ZbI
  intro b1 m1 aW _ b2 m2 aY _ b3 m3 bN _ b4
  refine⟨λi _ _=>if i=1 then KR a s c back else Ret (plV (Zwi (ZfM s back t.subs) t.mn t.mx f)),KR a s c back,rfl,ZfY a s c back m3,ZiS,?_⟩
  rintro g0 i0 c0 g1 i1 c1 g2 i2 c2 g3 i3 c3 g4 i4 c4 g5 i5 c5 g6 i6 c6 m5 cN ⟨b,hv,cJ⟩
  simp only[Value.agg.injEq,Array.mk.injEq,List.cons.injEq,Value.func.injEq,Fn.func.injEq,and_true]at hv
  obtain⟨⟨rfl,rfl,rfl⟩,⟨rfl,rfl,rfl⟩,⟨rfl,rfl,rfl⟩,⟨rfl,rfl,rfl⟩,⟨rfl,rfl,rfl⟩,⟨rfl,rfl,rfl⟩,⟨rfl,rfl,rfl⟩⟩:=hv
  have hM:m.le m5:=mLt aW (mLt aY (mLt bN cN))
  have bZ:=Zth t a s c back f m5 (hr.mono hM) (hb.mono hM) hs ih hf x hx j3
  rw[T.v,hk]at bZ
  exact⟨⟨by omega,by omega⟩,Ret (plV (Zwi (ZfM s back t.subs) t.mn t.mx f)),rfl,bZ,Zba,Zmc λm6 dA M cR cT fV=>Zac (mLt hM cT) rfl⟩
 have h:=Zee a s.length c back t.s0 t.s1 t.s2 t.s3 t.mn t.mx t.a t.subs.length t.c (wdN f 0:Nat) (wdN f 1:Nat) (wdN f 2:Nat) (wdN f 3:Nat) (wdN f 4:Nat) (wdN f 5:Nat) (wdN f 6:Nat) (wdN f 7:Nat) (wdN f 8:Nat) m _ key
 rw[T.v,hk]
 exact h
theorem Zve(t:T)(a:Option Addr)(s:List Nat)(c:Nat)(back:Bool)(f:Nat)(m:Mem)(hr:Rep m t)(hb:Byt m a s)(hs:s.length<=512)(hf:f < Zcn)(ih:IH a s c back t)(x:T)(hx:t.subs=[x])(hk:t.k=6):CX Try.prog 53 #[txV a s c back,t.v,plV f] m [] (Ret (plV (ZfM s back t.subs f))):=by
 have key:ZbJ a s.length c back t.s0 t.s1 t.s2 t.s3 t.mn t.mx t.a t.subs.length t.c (wdN f 0:Nat) (wdN f 1:Nat) (wdN f 2:Nat) (wdN f 3:Nat) (wdN f 4:Nat) (wdN f 5:Nat) (wdN f 6:Nat) (wdN f 7:Nat) (wdN f 8:Nat) m (Ret (plV (ZfM s back t.subs f))):=by
  unfold ZbJ
  intro b1 m1 aW _ b2 m2 aY _ b3 m3 bN _ b4
  refine⟨λi _ _=>if i=1 then KR a s c back else Ret (plV (ZfM s back t.subs f)),KR a s c back,rfl,ZfY a s c back m3,ZiS,?_⟩
  rintro g0 i0 c0 g1 i1 c1 g2 i2 c2 g3 i3 c3 g4 i4 c4 g5 i5 c5 g6 i6 c6 m5 cN ⟨b,hv,cJ⟩
  simp only[Value.agg.injEq,Array.mk.injEq,List.cons.injEq,Value.func.injEq,Fn.func.injEq,and_true]at hv
  obtain⟨⟨rfl,rfl,rfl⟩,⟨rfl,rfl,rfl⟩,⟨rfl,rfl,rfl⟩,⟨rfl,rfl,rfl⟩,⟨rfl,rfl,rfl⟩,⟨rfl,rfl,rfl⟩,⟨rfl,rfl,rfl⟩⟩:=hv
  have hM:m.le m5:=mLt aW (mLt aY (mLt bN cN))
  have bZ:=ZxJ t a s c back f m5 (hr.mono hM) (hb.mono hM) hs ih hf x hx b 0 cJ
  rw[T.v,hk]at bZ
  exact⟨⟨by omega,by omega⟩,Ret (plV (ZfM s back t.subs f)),rfl,bZ,Zba,Zmc λm6 dA M cR cT fV=>Zac (mLt hM cT) rfl⟩
 have h:=Zef a s.length c back t.s0 t.s1 t.s2 t.s3 t.mn t.mx t.a t.subs.length t.c (wdN f 0:Nat) (wdN f 1:Nat) (wdN f 2:Nat) (wdN f 3:Nat) (wdN f 4:Nat) (wdN f 5:Nat) (wdN f 6:Nat) (wdN f 7:Nat) (wdN f 8:Nat) m _ key
 rw[T.v,hk]
 exact h
theorem ZmV(a:Option Addr)(s:List Nat)(c:Nat)(back:Bool)(hs:s.length<=512)(t:T)(hw:t.walks)(f:Nat)(m:Mem)(hf:f < Zcn)(hr:Rep m t)(hb:Byt m a s):CX Try.prog 53 #[txV a s c back,t.v,plV f] m [] (Ret (plV (t.lead s back f))):=by
 have ih:t.k≠0->IH a s c back t:=λh0 x hx f m hf hr hb=>by
  have bW:=ZfU hx
  exact ZmV a s c back hs x (ZsJ hw h0 hx) f m hf hr hb
 by_cases k0:t.k=0
 ·rw[ZuH k0];exact Zu8 t a s c back f m hr hb hs hf k0
 have hR:t.right=true:=by
  rcases hw with h|h
  ·exact absurd h k0
  ·exact h t (by rw[Zbi];simp)
 have ih:=ih k0
 by_cases k1:t.k=1
 ·rw[Zwj k1];exact Zu9 t a s c back f m hr hb hs hf k1
 by_cases k2:t.k=2
 ·rw[Zwk k2];exact Zva t a s c back f m hr hb hs hf k2
 by_cases k3:t.k=3
 ·rw[ZuI k3];exact Zvb t a s c back f m hr hb hs hf ih k3
 by_cases k4:t.k=4
 ·rw[Zwl k4];exact Zvc t a s c back f m hr hb hs hf ih k4
 unfold T.right at hR
 rw[Bool.and_eq_true]at hR
 replace hR:=hR.2
 rw[if_neg k1,if_neg k2,if_neg k3,if_neg k4]at hR
 by_cases k5:t.k=5
 ·rw[if_pos k5,Bool.and_eq_true,Bool.and_eq_true]at hR
  obtain⟨x,hx⟩:=Zt8 hR.1
  have j3:0<=t.mn:=by
   have:=hR.2.1
   simp[Zd7]at this
   omega
  rw[Zwm k5];exact Zvd t a s c back f m hr hb hs hf ih x hx j3 k5
 rw[if_neg k5,Bool.and_eq_true]at hR
 have k6:t.k=6:=by simpa using hR.1
 obtain⟨x,hx⟩:=Zt8 hR.2
 rw[Zwn k6];exact Zve t a s c back f m hr hb hs hf ih x hx k6
termination_by SizeOf.sizeOf t
decreasing_by exact bW
theorem ZgV(t:T)(a:Option Addr)(len c:Nat)(i:Int)(m:Mem)(hr:Rep m t):CX Try.prog 52 #[t.v,.slice a len c,.int .i64 i] m [] (Ret (.int .i64 (t.wrong len i))):=by
 apply ZiM
 unfold Zfs
 intro b m1 aW _
 refine⟨t.isNone,Zab (λh=>Zan (ZwJ t T0 m1 (hr.mono aW) (Zpc m1)) λm2 aY=>⟨by trivial,ZaU ?_⟩) (λh=>⟨by trivial,ZaU ?_⟩),!t.isNone&&!(t.check == 0),Zab (λh=>ZaC (Zn9 false false t m1 (hr.mono aW)) λm2 aY=>⟨by trivial,ZaU ?_⟩) (λh=>⟨by trivial,ZaU ?_⟩),Zab (λh=>Zac aW ?_) (λh=>Zab (λh1=>Zac aW ?_) (λh1=>⟨decide (i < 0)||decide (i > len),Zab (λh2=>⟨by trivial,ZaU ?_⟩) (λh2=>⟨by trivial,ZaU ?_⟩),Zab (λh3=>Zac aW ?_) (λh3=>Zac aW ?_)⟩))⟩
 ·unfold T.isNone;rw[h];rfl
 ·unfold T.isNone;rw[h];rfl
 ·rw[h];rfl
 ·rw[h];rfl
 ·unfold T.wrong;rw[if_pos h]
 ·unfold T.wrong;rw[if_neg (by rw[h];decide),if_pos (of_decide_eq_true h1)]
 ·rw[h2];rfl
 ·rw[h2];rfl
 ·unfold T.wrong;rw[if_neg (by rw[h];decide),if_neg (of_decide_eq_false h1),if_pos (by simpa using h3)]
 ·unfold T.wrong;rw[if_neg (by rw[h];decide),if_neg (of_decide_eq_false h1),if_neg (by simpa using h3)]
def Zcq(l:List Nat):List Value:=l.map λi:Nat=>.int .i64 (i:Nat)
def Zt9(e:Int)(l:List Nat):Value->Mem->List (List Value)->Prop:=λv m' _=>∃a c,v=.tuple #[.slice a l.length c,.int .i64 e]/\rowRd m' a (Zcq l)
theorem ZdQ{e l}:∀(v:Value)(m':Mem) (css:List (List Value)),Zt9 e l v m' css->Shape.fits (.tup [.slice,.int .i64]) v=true:=λv _ _ ⟨a,c,h,_⟩=>by rw[h];rfl
def T.list(t:T)(s:List Nat)(i:Int)(back:Bool):List Nat:=if t.wrong s.length i=0 then ZbR (t.lead s back (2 ^ i.toNat))else[]
theorem ZmW{l:List Nat}{q i:Nat}(h:l[q]?=some i):Zcq (l.take q)++[.int .i64 (i:Nat)]=Zcq (l.take (q+1)):=by
 unfold Zcq
 rw[Ziu h,List.map_append];rfl
theorem Zua(t:T)(a:Option Addr)(s:List Nat)(c:Nat)(i:Int)(back:Bool)(m:Mem)(hr:Rep m t)(hb:t.wrong s.length i=0->Byt m a s):CX Try.prog 47 #[t.v,.slice a s.length c,.int .i64 i,.bool back] m [] (Zt9 (t.wrong s.length i) (T.list t s i back)):=by
 apply ZjO
 unfold Zgk
 intro b m1 aW _
 refine ZaC (ZgV t a s.length c i m1 (hr.mono aW)) λm2 aY=>Zab (λh=>?_) (λh b1=>?_)
 ·have h':¬t.wrong s.length i=0:=by simpa using h
  refine Zac (mLt aW aY) ⟨none,0,?_,.inl ?_⟩ <;> unfold T.list <;> rw[if_neg h'] <;> rfl
 ·have h':t.wrong s.length i=0:=by simpa using h
  obtain⟨hw,hs,j6,eO⟩:=Zew h'
  obtain⟨n,rfl⟩:∃n:Nat,i=n:=⟨i.toNat,by omega⟩
  have cT:m.le m2:=mLt aW aY
  have iy:(2:Nat) ^ n < Zcn:=Zru (by omega)
  refine⟨λj _ _=>if j=5 then Ret (plV (2 ^ n))else Ret (plV (t.lead s back (2 ^ n))),Ret (plV (2 ^ n)),rfl,Zt6 n (by omega) m2,Zba,Zmc λm3 bN=>⟨Ret (plV (t.lead s back (2 ^ n))),rfl,ZmV a s c back hs t hw (2 ^ n) m3 iy (hr.mono (mLt cT bN)) ((hb h').mono (mLt cT bN)),Zba,Zmc λm4 cE b2 M cR fV dM m5 cN dS=>Zal (Zu5 (t.lead s back (2 ^ n)) b2 m5 dS) (λv _ _ ⟨c,e,_⟩=>by rw[e];rfl) ?_⟩⟩
  rintro g fi ca m6 dA ⟨cb,hv,lG⟩
  simp only[Value.func.injEq,Fn.func.injEq,Array.mk.injEq]at hv
  obtain⟨rfl,rfl,rfl⟩:=hv
  have iz:m.le m6:=mLt cT (mLt cR (mLt cN dA))
  have hL:T.list t s (n:Int) back=ZbR (t.lead s back (2 ^ n)):=by unfold T.list;rw[if_pos h'];rfl
  rw[hL,h']
  generalize hX:ZbR (t.lead s back (2 ^ n))=X
  have uE:X.length<=513:=by rw[<-hX];exact Zn3 _
  refine⟨X.map λi=>[.int .i64 (i:Nat)],?_,?_,?_⟩
  ·rw[<-hX];exact ZrN _ b2 cb m6 (dS.mono dA) lG
  ·intro x hx
   obtain⟨y,_,rfl⟩:=List.mem_map.1 hx
   rfl
  refine⟨λxs css tvs m' q=>∃a' c',css=[[.slice a' q c']]/\tvs=[.slice a' q c']/\rowRd m' a' (Zcq (X.take q)),⟨none,0,rfl,rfl,.inl rfl⟩,?_,?_⟩
  ·rintro z cs a1 n1 c1 m7 q dN hq ⟨a',c',cV,iW,bU⟩
   obtain rfl:cs=[.slice a' q c']:=by simpa using cV
   obtain⟨rfl,rfl,rfl⟩:a1=a'/\n1=q/\c1=c':=by simpa using iW
   have hq':(X.map λi=>[Value.int .i64 (i:Nat)])[(n1:Nat)]?=some [.int .i64 z]:=hq
   rw[List.getElem?_map]at hq'
   obtain⟨y,hy,hz⟩:=Option.map_eq_some_iff.1 hq'
   obtain rfl:z=y:=(Zrn hz).symm
   have bB:=(List.getElem?_eq_some_iff.1 hy).1
   refine Zah rfl λb3 bT=>Zaa rfl ⟨.inl rfl,Zcq (X.take n1),[.int .i64 y],?_,rfl,bU.mono (Mem.le_add bT _),.inr ⟨b3,0,rfl,?_⟩,?_,?_,?_,?_⟩
   ·simp[Zcq,slN];omega
   ·intro j v hj;rw[Nat.zero_add,Mem.add_same];exact hj
   ·intro u hu;obtain rfl:u=.int .i64 y:=by simpa using hu
    rfl
   ·simp only[slN];omega
   ·simp only[slN];omega
   ·intro a2 c2 m8 jJ hH
    refine⟨by trivial,a2,c2,rfl,rfl,?_⟩
    rw[<-ZmW hy];exact hH
  ·rintro cs a1 n1 c1 m7 dN ⟨a',c',cV,iW,bU⟩
   rw[List.length_map]at cV iW bU
   obtain rfl:cs=[.slice a' X.length c']:=by simpa using cV
   rw[List.take_length]at bU
   exact Zah rfl ⟨m7,mLt iz dN,Mem.le_refl _,a',c',rfl,bU⟩
theorem ZrO(t:T)(a:Option Addr)(s:List Nat)(c:Nat)(i:Int)(m:Mem)(hr:Rep m t)(hb:t.wrong s.length i=0->Byt m a s):CX Try.prog 14 #[t.v,.slice a s.length c,.int .i64 i] m [] (Zt9 (t.wrong s.length i) (T.list t s i false)):=by
 apply Zgl
 unfold ZdZ
 intro b m1 aW _
 refine Zal (Zua t a s c i false m1 (hr.mono aW) (λh=>(hb h).mono aW)) ZdQ ?_
 intro a1 n1 c1 e1 m2 aY h
 exact⟨m2,mLt aW aY,Mem.le_refl _,h⟩
theorem Zti(t:T)(a:Option Addr)(s:List Nat)(c:Nat)(i:Int)(m:Mem)(hr:Rep m t)(hb:t.wrong s.length i=0->Byt m a s):CX Try.prog 15 #[t.v,.slice a s.length c,.int .i64 i] m [] (Zt9 (t.wrong s.length i) (T.list t s i true)):=by
 apply Zey
 unfold ZcO
 intro b m1 aW _
 refine Zal (Zua t a s c i true m1 (hr.mono aW) (λh=>(hb h).mono aW)) ZdQ ?_
 intro a1 n1 c1 e1 m2 aY h
 exact⟨m2,mLt aW aY,Mem.le_refl _,h⟩
def T.matches(t:T)(s:List Nat):Bool:=t.wrong s.length 0 == 0&&(t.lead s false 1).testBit s.length
theorem ZdR(t:T)(a:Option Addr)(s:List Nat)(c:Nat)(m:Mem)(hr:Rep m t)(hb:t.wrong s.length 0=0->Byt m a s):CX Try.prog 19 #[t.v,.slice a s.length c] m [] (Ret (.tuple #[.bool (T.matches t s),.int .i64 (t.wrong s.length 0)])):=by
 apply ZgU
 unfold ZdP
 intro b m1 aW _
 refine ZaC (ZgV t a s.length c 0 m1 (hr.mono aW)) λm2 aY=>Zab (λh=>?_) (λh=>?_)
 ·have h':¬t.wrong s.length 0=0:=by simpa using h
  refine Zac (mLt aW aY) ?_
  unfold T.matches
  rw[show(t.wrong s.length 0 == 0)=false by simpa using h'];rfl
 ·have h':t.wrong s.length 0=0:=by simpa using h
  obtain⟨hw,hs,j6,eO⟩:=Zew h'
  have cT:m.le m2:=mLt aW aY
  have iy:(2:Nat) ^ 0 < Zcn:=Zru (by omega)
  refine⟨λj _ _=>if j=3 then Ret (plV (2 ^ 0))else Ret (plV (t.lead s false (2 ^ 0))),Ret (plV (2 ^ 0)),rfl,Zt6 0 (by omega) m2,Zba,Zmc λm3 bN=>⟨Ret (plV (t.lead s false (2 ^ 0))),rfl,ZmV a s c false hs t hw (2 ^ 0) m3 iy (hr.mono (mLt cT bN)) ((hb h').mono (mLt cT bN)),Zba,Zmc λm4 cE b2 M cR fV dM m5 cN dS=>Zan (ZmU (t.lead s false (2 ^ 0)) s.length (by omega) b2 m5 dS) λm6 dA=>Zac (mLt cT (mLt cR (mLt cN dA))) ?_⟩⟩
  unfold T.matches
  rw[h'];rfl
theorem Zvf(r:Rg)(a:Option Addr)(len c:Nat)(n:Int)(m:Mem)(hr:Rep m r.t):CX Try.prog 48 #[r.v,.slice a len c,.int .i64 n] m [] (Ret (.int .i64 (Rg.wrong r len n))):=by
 apply ZiO
 unfold Zft
 intro b m1 aW _
 refine ZaC (Zn9 r.bg r.en r.t m1 (hr.mono aW)) λm2 aY=>Zab (λh=>Zac (mLt aW aY) ?_) (λh=>ZaC (ZgV r.t a len c n m2 (hr.mono (mLt aW aY))) λm3 bN=>Zac (mLt aW (mLt aY bN)) ?_)
 ·unfold Rg.wrong;rw[if_neg (by simpa using h)]
 ·unfold Rg.wrong;rw[if_pos (by simpa using h)]
theorem Zub(r:Rg)(a:Option Addr)(s:List Nat)(c:Nat)(n:Nat)(m:Mem)(hw:r.t.walks)(hs:s.length<=512)(hn:n<=s.length)(hr:Rep m r.t)(hb:Byt m a s):CX Try.prog 49 #[r.v,.slice a s.length c,.int .i64 n] m [] (Ret (.tuple (ZmG (r.from s n)).toArray)):=by
 apply ZjQ
 unfold Zgm
 intro b m1 aW _ b1 m2 aY _ b2 b3
 have cT:m.le m2:=mLt aW aY
 refine⟨r.en&&decide ((n:Int) < s.length),Zab (λh=>⟨by trivial,ZaU (by rw[h];rfl)⟩) (λh=>⟨by trivial,ZaU (by rw[h];rfl)⟩),Zab (λh=>Zac cT ?_) (λh=>?_)⟩
 ·unfold Rg.from;rw[if_pos h];rfl
 ·have iy:(2:Nat) ^ n < Zcn:=Zru (by omega)
  refine⟨λj _ _=>if j=5 then Ret (plV (2 ^ n))else Ret (plV (r.t.lead s true (2 ^ n))),Ret (plV (2 ^ n)),rfl,Zt6 n (by omega) m2,Zba,Zmc λm3 bN=>⟨Ret (plV (r.t.lead s true (2 ^ n))),rfl,ZmV a s c true hs r.t hw (2 ^ n) m3 iy (hr.mono (mLt cT bN)) (hb.mono (mLt cT bN)),Zba,Zmc λm4 cE b2 M cR fV dM=>Zab (λqS m5 cN dS=>Zan (ZmU (r.t.lead s true (2 ^ n)) 0 (by omega) b2 m5 dS) λm6 dA=>Zac (mLt cT (mLt cR (mLt cN dA))) ?_) (λqS m5 cN dS=>Zal (Zu5 (r.t.lead s true (2 ^ n)) b2 m5 dS) (λv _ _ ⟨c,e,_⟩=>by rw[e];rfl) ?_)⟩⟩
  ·unfold Rg.from;rw[if_neg (by rw[h];decide),if_pos qS]
   cases(r.t.lead s true (2 ^ n)).testBit 0 <;> rfl
  rintro g fi ca m6 dA ⟨cb,hv,lG⟩
  simp only[Value.func.injEq,Fn.func.injEq,Array.mk.injEq]at hv
  obtain⟨rfl,rfl,rfl⟩:=hv
  have iz:m.le m6:=mLt cT (mLt cR (mLt cN dA))
  have hF:r.from s n=ZmF n (ZbR (r.t.lead s true (2 ^ n))):=by
   unfold Rg.from;rw[if_neg (by rw[h];decide),if_neg (by rw[qS];decide)]
  refine⟨(ZbR (r.t.lead s true (2 ^ n))).map λi=>[.int .i64 (i:Nat)],ZrN _ b2 cb m6 (dS.mono dA) lG,?_,?_⟩
  ·intro x hx
   obtain⟨y,_,rfl⟩:=List.mem_map.1 hx
   rfl
  rw[hF]
  generalize ZbR (r.t.lead s true (2 ^ n))=X
  refine⟨λxs css tvs m' q=>q=0,rfl,?_,?_⟩
  ·intro z cs cs1 m7 q dN hq oY
   have hq':(X.map λi=>[Value.int .i64 (i:Nat)])[(q:Nat)]?=some [.int .i64 z]:=hq
   rw[oY,List.getElem?_map]at hq'
   obtain⟨y,hy,hz⟩:=Option.map_eq_some_iff.1 hq'
   obtain rfl:z=y:=(Zrn hz).symm
   cases X with
   | nil=>simp at hy
   | cons x X=>
    obtain rfl:x=y:=by simpa using hy
    refine Zab (λjK=>⟨by trivial,Zac (mLt iz dN) ?_⟩) (λcL=>⟨by trivial,Zac (mLt iz dN) ?_⟩)
    ·have:x > n:=by have:=of_decide_eq_true jK;omega
     show _=Value.tuple (ZmG (if x > n then none else some x)).toArray
     rw[if_pos this];rfl
    ·have:¬x > n:=by have:=of_decide_eq_false cL;omega
     show _=Value.tuple (ZmG (if x > n then none else some x)).toArray
     rw[if_neg this];rfl
  ·intro cs cs1 m7 dN oY
   cases X with
   | nil=>exact Zac (mLt iz dN) rfl
   | cons x X=>simp at oY
def ZgW(r:Rg)(s:List Nat)(n:Int):Option Nat:=if Rg.wrong r s.length n=0 then r.from s n.toNat else none
theorem Zvg{r:Rg}{len:Nat}{n:Int}(h:Rg.wrong r len n=0):r.t.walks/\len<=512/\0<=n/\n<=len:=by
 unfold Rg.wrong at h
 split at h
 ·exact Zew h
 ·exact absurd h (by decide)
theorem ZrP(o:Option Nat):∃i b,ZmG o=[.int .i64 i,.bool b]:=by cases o <;> exact⟨_,_,rfl⟩
theorem ZrQ(r:Rg)(a:Option Addr)(s:List Nat)(c:Nat)(n:Int)(m:Mem)(hr:Rep m r.t)(hb:Rg.wrong r s.length n=0->Byt m a s):CX Try.prog 17 #[r.v,.slice a s.length c,.int .i64 n] m [] (Ret (.tuple (ZmG (ZgW r s n)++[Value.int .i64 (Rg.wrong r s.length n)]).toArray)):=by
 apply ZjR
 unfold Zgn
 intro b m1 aW _
 refine ZaC (Zvf r a s.length c n m1 (hr.mono aW)) λm2 aY=>Zab (λh=>Zac (mLt aW aY) ?_) (λh=>?_)
 ·unfold ZgW;rw[if_neg (by simpa using h)];rfl
 ·have h':Rg.wrong r s.length n=0:=by simpa using h
  obtain⟨hw,hs,j6,eO⟩:=Zvg h'
  obtain⟨k,rfl⟩:∃k:Nat,n=k:=⟨n.toNat,by omega⟩
  have cT:m.le m2:=mLt aW aY
  have hE:ZgW r s (k:Int)=r.from s k:=by unfold ZgW;rw[if_pos h'];rfl
  rw[hE,h']
  refine Zal (Zub r a s c k m2 hw hs (by omega) (hr.mono cT) ((hb h').mono cT)) (λv _ _ e=>by rw[e];obtain⟨i,b,e⟩:=ZrP (r.from s k);rw[e];rfl) ?_
  intro i bb m3 bN e
  refine Zac (mLt cT bN) ?_
  have e':ZmG (r.from s k)=[.int .i64 i,.bool bb]:=by
   have:=(Value.tuple.injEq _ _).mp e
   simpa using(congrArg Array.toList this).symm
  rw[e'];rfl
theorem Zoa(r:Rg)(a:Option Addr)(s:List Nat)(c:Nat)(n:Int)(m:Mem)(hr:Rep m r.t)(hb:Rg.wrong r s.length n=0->Byt m a s):CX Try.prog 16 #[r.v,.slice a s.length c,.int .i64 n] m [] (Ret (.tuple #[.bool (ZgW r s n).isSome,.int .i64 (Rg.wrong r s.length n)])):=by
 apply ZiP
 unfold Zfu
 intro b m1 aW _
 refine Zal (ZrQ r a s c n m1 (hr.mono aW) (λh=>(hb h).mono aW)) (λv _ _ e=>by rw[e];cases ZgW r s n <;> rfl) ?_
 intro i bb e m2 aY he
 refine Zac (mLt aW aY) ?_
 cases hF:ZgW r s n with
 | none=>
  rw[hF]at he
  have:=(Value.tuple.injEq _ _).mp he
  have:=congrArg Array.toList this
  simp[ZmG]at this
  obtain⟨rfl,rfl,rfl⟩:=this
  rfl
 | some j=>
  rw[hF]at he
  have:=(Value.tuple.injEq _ _).mp he
  have:=congrArg Array.toList this
  simp[ZmG]at this
  obtain⟨rfl,rfl,rfl⟩:=this
  rfl
theorem Rgs.get{m:Mem}{a l}(h:Rgs m a l){i:Nat}{r:Rg}(hi:l[i]?=some r):(∃b o,a=some ⟨b,o,none⟩/\m.reads b (o+i*10) r.cs)/\Rep m r.t:=by
 refine⟨?_,h.2.2 r (List.mem_of_getElem? hi)⟩
 rcases h.2.1 with h|⟨b,o,h1,h2⟩
 ·subst h;simp at hi
 ·exact⟨b,o,h1,h2 i r hi⟩
theorem ZrR(l:List Rg)(al:Option Addr)(cl:Nat)(a:Option Addr)(len c:Nat)(n:Int)(m:Mem)(hl:l.length<=64->Rgs m al l):CX Try.prog 50 #[.slice al l.length cl,.slice a len c,.int .i64 n] m [] (Ret (.int .i64 (Za7 l len n))):=by
 apply ZiQ
 unfold Zfv
 refine Zab (λh=>Zac (Mem.le_refl _) ?_) (λh=>?_)
 ·unfold Za7;rw[if_pos (of_decide_eq_true h)]
 have gT:¬((l.length:Int) > 64):=of_decide_eq_false h
 refine⟨λxs css _ m' q=>∃k:Nat,k<=l.length/\xs=[.int .i64 k]/\(l.take k).all (λr=>r.t.check == 0)=true/\m.le m'/\q=l.length - k,⟨_,0,by omega,rfl,rfl,Mem.le_refl _,rfl⟩,?_⟩
 rintro z m1 q aW ⟨k,hk,hz,bR,_,hq⟩
 obtain rfl:z=k:=by simpa using hz
 refine Zab (λbB=>?_) (λcK=>?_)
 ·have aX:k < l.length:=by have:=of_decide_eq_true bB;omega
  obtain⟨r,hr⟩:=Zgj aX
  obtain⟨⟨b,o,ha,hv⟩,fT⟩:=Rgs.get ((hl (by omega)).mono aW) hr
  have hw:IntKind.i64.wrap ((k:Int)+1)=((k+1:Nat):Int):=by rw[Zao (by omega) (by omega)];rfl
  simp only[hw,Int.toNat_natCast]
  refine⟨b,o,ha,⟨by omega,by omega⟩,_,_,_,_,_,_,_,_,_,_,hv,λb2=>Zaa rfl (ZaC (Zn9 r.bg r.en r.t m1 fT) λm2 aY=>Zab (λhc=>Zac (mLt aW aY) ?_) (λhc=>⟨l.length - (k+1),by omega,k+1,by omega,rfl,?_,mLt aW aY,rfl⟩))⟩
  ·unfold Za7
   rw[if_neg gT,if_neg]
   intro hU
   rw[List.all_eq_true]at hU
   have:=hU r (List.mem_of_getElem? hr)
   rw[this]at hc;cases hc
  ·rw[Ziu hr,List.all_append,bR]
   simp at hc
   simp[hc]
 ·have:k=l.length:=by have:=of_decide_eq_false cK;omega
  subst this
  rw[List.take_length]at bR
  refine ZaC (ZgV T1 a len c n m1 (ZuK m1)) λm2 aY=>Zac (mLt aW aY) ?_
  unfold Za7
  rw[if_neg gT,if_pos bR]
theorem ZpH(n:Nat)(o:Option (Nat×Nat)):∃x y z b,ZsK n o=[.agg #[.int .i64 x,.int .i64 y,.int .i64 z],.bool b]:=by cases o <;> exact⟨_,_,_,_,rfl⟩
theorem Zuc(l:List Rg)(al:Option Addr)(cl:Nat)(a:Option Addr)(s:List Nat)(c n:Nat)(m:Mem)(hw:∀r∈l,r.t.walks)(hs:s.length<=512)(hn:n<=s.length)(hl:Rgs m al l)(hb:Byt m a s):CX Try.prog 51 #[.slice al l.length cl,.slice a s.length c,.int .i64 n] m [] (Ret (.tuple (ZsK n (Zex s n l 0)).toArray)):=by
 have bS:=hl.1
 apply ZjU
 unfold Zgo
 intro b
 generalize hG:Zex s n l 0=G
 refine⟨λxs css _ m' q=>∃k:Nat,k<=l.length/\xs=[.int .i64 k]/\Zex s n (l.drop k) k=G/\m.le m'/\q=l.length - k,⟨_,0,by omega,rfl,hG,Mem.le_refl _,rfl⟩,?_⟩
 rintro z cs m1 q aW ⟨k,hk,hz,dC,_,hq⟩
 obtain rfl:z=k:=by simpa using hz
 refine Zab (λbB=>?_) (λcK=>?_)
 ·have aX:k < l.length:=by have:=of_decide_eq_true bB;omega
  obtain⟨r,hr⟩:=Zgj aX
  obtain⟨⟨b1,o,ha,hv⟩,fT⟩:=Rgs.get (hl.mono aW) hr
  have gL:IntKind.i64.wrap ((k:Int)+1)=((k+1:Nat):Int):=by rw[Zao (by omega) (by omega)];rfl
  simp only[gL,Int.toNat_natCast]
  rw[ZkH hr]at dC
  unfold Zex at dC
  refine⟨b1,o,ha,⟨by omega,by omega⟩,_,_,_,_,_,_,_,_,_,_,hv,λb2=>Zaa rfl (Zal (Zub r a s c n m1 (hw r (List.mem_of_getElem? hr)) hs hn fT (hb.mono aW)) (λv _ _ e=>by rw[e];obtain⟨i,b,e⟩:=ZrP (r.from s n);rw[e];rfl) ?_)⟩
  intro i bb m2 aY e
  cases hF:r.from s n with
  | none=>
   rw[hF]at e dC
   have:=congrArg Array.toList ((Value.tuple.injEq _ _).mp e)
   simp[ZmG]at this
   obtain⟨rfl,rfl⟩:=this
   exact Zln (x:=false) rfl ⟨by trivial,l.length - (k+1),by omega,k+1,by omega,rfl,dC,mLt aW aY,rfl⟩
  | some j=>
   rw[hF]at e dC
   have:=congrArg Array.toList ((Value.tuple.injEq _ _).mp e)
   simp[ZmG]at this
   obtain⟨rfl,rfl⟩:=this
   refine Zln (x:=true) rfl (Zac (mLt aW aY) ?_)
   rw[<-dC];rfl
 ·have:k=l.length:=by have:=of_decide_eq_false cK;omega
  subst this
  rw[List.drop_length]at dC
  refine Zac aW ?_
  rw[<-dC];rfl
theorem ZpI{l:List Rg}{len:Nat}{n:Int}(h:Za7 l len n=0):l.length<=64:=by
 unfold Za7 at h
 split at h
 ·exact absurd h (by decide)
 ·omega
theorem ZlJ{l:List Rg}{len:Nat}{n:Int}(h:Za7 l len n=0):(∀r∈l,r.t.walks)/\len<=512/\0<=n/\n<=len:=by
 unfold Za7 at h
 split at h
 ·exact absurd h (by decide)
 ·split at h
  ·rename_i bR
   refine⟨λr hr=>Zge ?_,(Zew h).2⟩
   simpa using List.all_eq_true.1 bR r hr
  ·exact absurd h (by decide)
def ZpJ(l:List Rg)(s:List Nat)(n:Int):Option (Nat×Nat):=if Za7 l s.length n=0 then Zex s n.toNat l 0 else none
theorem ZwP(l:List Rg)(al:Option Addr)(cl:Nat)(a:Option Addr)(s:List Nat)(c:Nat)(n:Int)(m:Mem)(hl:l.length<=64->Rgs m al l)(hb:Za7 l s.length n=0->Byt m a s):CX Try.prog 18 #[.slice al l.length cl,.slice a s.length c,.int .i64 n] m [] (Ret (.tuple (ZsK n.toNat (ZpJ l s n)++[Value.int .i64 (Za7 l s.length n)]).toArray)):=by
 apply ZjV
 unfold Zgp
 intro b
 refine ZaC (ZrR l al cl a s.length c n m hl) λm1 aW=>Zab (λh=>Zac aW ?_) (λh=>?_)
 ·unfold ZpJ;rw[if_neg (by simpa using h)];rfl
 ·have h':Za7 l s.length n=0:=by simpa using h
  obtain⟨hw,hs,j6,eO⟩:=ZlJ h'
  obtain⟨k,rfl⟩:∃k:Nat,n=k:=⟨n.toNat,by omega⟩
  have hE:ZpJ l s (k:Int)=Zex s k l 0:=by unfold ZpJ;rw[if_pos h'];rfl
  rw[hE,h',Int.toNat_natCast]
  refine Zal (Zuc l al cl a s c k m1 hw hs (by omega) ((hl (ZpI h')).mono aW) ((hb h').mono aW)) (λv _ _ e=>by rw[e];obtain⟨x,y,z,b,e⟩:=ZpH k (Zex s k l 0);rw[e];rfl) ?_
  intro x y z bb m2 aY e b2
  refine Zac (mLt aW aY) ?_
  have e':ZsK k (Zex s k l 0)=[.agg #[.int .i64 x,.int .i64 y,.int .i64 z],.bool bb]:=by
   have:=(Value.tuple.injEq _ _).mp e
   simpa using(congrArg Array.toList this).symm
  rw[e'];rfl
def ZdH(l:List Rg)(s:List Nat):Option (Nat×Nat×Nat):=if Za7 l s.length 0=0 then Zc6 l s (s.length+1) 0 else none
theorem ZfZ(l:List Rg)(al:Option Addr)(cl:Nat)(a:Option Addr)(s:List Nat)(c:Nat)(m:Mem)(hl:l.length<=64->Rgs m al l)(hb:Za7 l s.length 0=0->Byt m a s):CX Try.prog 20 #[.slice al l.length cl,.slice a s.length c] m [] (Ret (.tuple (Znv (ZdH l s)++[Value.int .i64 (Za7 l s.length 0)]).toArray)):=by
 apply ZiR
 unfold Zfw
 intro b
 refine ZaC (ZrR l al cl a s.length c 0 m hl) λm1 aW=>Zab (λh=>Zac aW ?_) (λh=>?_)
 ·unfold ZdH;rw[if_neg (by simpa using h)];rfl
 ·have h':Za7 l s.length 0=0:=by simpa using h
  obtain⟨hw,hs,j6,eO⟩:=ZlJ h'
  have hE:ZdH l s=Zc6 l s (s.length+1) 0:=by unfold ZdH;rw[if_pos h']
  rw[hE,h']
  have uF:IntKind.i64.wrap ((s.length:Int)+1)=((s.length+1:Nat):Int):=by rw[Zao (by omega) (by omega)];rfl
  generalize hG:Zc6 l s (s.length+1) 0=G
  refine⟨λxs css _ m' q=>∃k:Nat,k<=s.length+1/\xs=[.int .i64 k]/\Zc6 l s (s.length+1 - k) k=G/\m1.le m'/\q=s.length+1 - k,⟨_,0,by omega,rfl,hG,Mem.le_refl _,rfl⟩,?_⟩
  rintro z cs m2 q aY ⟨k,hk,hz,dC,_,hq⟩
  obtain rfl:z=k:=by simpa using hz
  simp only[uF]
  refine Zab (λbB=>?_) (λcK=>?_)
  ·have aX:k < s.length+1:=by have:=of_decide_eq_true bB;omega
   have gL:IntKind.i64.wrap ((k:Int)+1)=((k+1:Nat):Int):=by rw[Zao (by omega) (by omega)];rfl
   simp only[gL]
   rw[show s.length+1 - k=(s.length+1 - (k+1))+1 by omega]at dC
   unfold Zc6 at dC
   refine Zal (Zuc l al cl a s c k m2 hw hs (by omega) ((hl (ZpI h')).mono (mLt aW aY)) ((hb h').mono (mLt aW aY))) (λv _ _ e=>by rw[e];obtain⟨x,y,z,b,e⟩:=ZpH k (Zex s k l 0);rw[e];rfl) ?_
   intro x y z bb m3 bN e b2
   cases hF:Zex s k l 0 with
   | none=>
    rw[hF]at e dC
    have:=congrArg Array.toList ((Value.tuple.injEq _ _).mp e)
    simp[ZsK]at this
    obtain⟨_,rfl⟩:=this
    exact Zln (x:=false) rfl ⟨by trivial,s.length+1 - (k+1),by omega,k+1,by omega,rfl,by rw[<-dC],mLt aY bN,rfl⟩
   | some p=>
    obtain⟨j,i⟩:=p
    rw[hF]at e dC
    have:=congrArg Array.toList ((Value.tuple.injEq _ _).mp e)
    simp[ZsK]at this
    obtain⟨⟨rfl,rfl,rfl⟩,rfl⟩:=this
    refine Zln (x:=true) rfl (Zac (mLt aW (mLt aY bN)) ?_)
    rw[<-dC];rfl
  ·have:k=s.length+1:=by have:=of_decide_eq_false cK;omega
   subst this
   rw[Nat.sub_self]at dC
   unfold Zc6 at dC
   refine Zac (mLt aW aY) ?_
   rw[<-dC];rfl
theorem Zen(x y:List Nat)(ax ay:Option Addr)(cx cy:Nat)(m:Mem)(hx:rowRd m ax (Zcq x))(hy:rowRd m ay (Zcq y))(bS:x.length<=1000000000000000):CX Try.prog 28 #[.slice ax x.length cx,.slice ay y.length cy] m [] (Ret (.bool (x == y))):=by
 apply Zdn
 unfold Zb6
 refine Zab (λh=>Zac (Mem.le_refl _) ?_) (λh=>?_)
 ·have:¬x=y:=λe=>by subst e;simp at h
  rw[show(x == y)=false by simpa using this]
 have hl:x.length=y.length:=by
  simp only[Bool.not_eq_false',beq_iff_eq]at h
  omega
 refine⟨λxs css _ m' q=>∃k:Nat,k<=x.length/\xs=[.int .i64 k]/\x.take k=y.take k/\m.le m'/\q=x.length - k,⟨_,0,by omega,rfl,rfl,Mem.le_refl _,rfl⟩,?_⟩
 rintro z m1 q aW ⟨k,hk,hz,dC,_,hq⟩
 obtain rfl:z=k:=by simpa using hz
 refine Zab (λbB=>?_) (λcK=>?_)
 ·have aX:k < x.length:=by have:=of_decide_eq_true bB;omega
  obtain⟨u,hu⟩:=Zgj aX
  obtain⟨v,hv⟩:=Zgj (l:=y) (k:=k) (by omega)
  have gL:IntKind.i64.wrap ((k:Int)+1)=((k+1:Nat):Int):=by rw[Zao (by omega) (by omega)];rfl
  rcases hx.mono aW with hx|⟨b,o,h1,h2⟩
  ·rw[show x=[] by simpa[Zcq]using hx]at aX;simp at aX
  rcases hy.mono aW with hy|⟨b',o',h1',h2'⟩
  ·rw[hl,show y=[] by simpa[Zcq]using hy]at aX;simp at aX
  simp only[gL,Int.toNat_natCast,Nat.mul_one]
  refine⟨b,o,h1,⟨by omega,by omega⟩,_,h2 k (.int .i64 u) (by rw[Zcq,List.getElem?_map,hu];rfl),b',o',h1',⟨by omega,by omega⟩,_,h2' k (.int .i64 v) (by rw[Zcq,List.getElem?_map,hv];rfl),Zaa rfl (Zab (λhc=>Zac aW ?_) (λhc=>⟨x.length - (k+1),by omega,k+1,by omega,rfl,?_,aW,rfl⟩))⟩
  ·have:¬x=y:=λe=>by
    subst e
    rw[hu]at hv;cases hv
    simp at hc
   rw[show(x == y)=false by simpa using this]
  ·have:u=v:=by
    have:=hc
    simp[RowKit.intOf]at this
    omega
   rw[Ziu hu,Ziu hv,dC,this]
 ·have:k=x.length:=by have:=of_decide_eq_false cK;omega
  subst this
  rw[List.take_length,hl,List.take_length]at dC
  refine Zac aW ?_
  rw[dC];simp
theorem ZyQ{n:Int}(h1:0<=n)(h2:n < 256):IntKind.u8.wrap n=n:=by
 unfold IntKind.wrap
 simp only[IntKind.bits,IntKind.signed,Bool.false_and,Bool.false_eq_true,if_false]
 have e:(2:Int) ^ 8=256:=by decide
 rw[e];omega
theorem ZbK(c:Nat)(hc:c < 256)(m:Mem):CX Try.prog 35 #[.int .u8 c] m [] (Zb1 (λt=>t=Zai c)):=by
 apply ZiC
 unfold Zfk
 intro b b1
 have hq:IntKind.u8.wrap (Int.tdiv (c:Int) 64)=((c / 64:Nat):Int):=by rw[Zxn];exact ZyQ (by omega) (by omega)
 have hr:IntKind.u64.wrap (1*2 ^ min (Int.toNat (Int.tmod (c:Int) 64)) 64)=((2 ^ (c % 64):Nat):Int):=by
  rw[Zt5,Int.toNat_natCast,Nat.min_eq_left (by omega),Int.one_mul]
  have:=ZvG (2 ^ (c % 64)) (by
   have:2 ^ (c % 64) < 2 ^ 64:=Nat.pow_lt_pow_right (by omega) (by omega)
   exact this)
  rw[<-this];push_cast;rfl
 simp only[hq,hr,Int.toNat_natCast,Nat.zero_add,Nat.mul_one]
 have hL:(Value.agg #[.int .u8 2,.int .u64 (ZmH c 0),.int .u64 (ZmH c 1),.int .u64 (ZmH c 2),.int .u64 (ZmH c 3),.int .i64 0,.int .i64 0,.slice none 0 0])=(Zai c).v:=rfl
 refine⟨by omega,by omega,by rw[Zt5];omega,⟨by omega,by omega⟩,Zaa (by rw[Nat.ble_eq];omega) ?_⟩
 have:c / 64=0\/c / 64=1\/c / 64=2\/c / 64=3:=by omega
 rcases this with e|e|e|e <;>
 ·rw[e]
  refine Zaa rfl (Zaa rfl (Zac (Mem.le_refl _) ⟨Zai c,?_,Zcc c m,rfl⟩))
  rw[<-hL]
  unfold ZmH
  rw[e]
  rfl
theorem ZmX(a:Option Addr)(c:Nat)(l:List T)(m:Mem)(hl:RepL m a l):CX Try.prog 13 #[.slice a l.length c] m [] (Zb1 (λt=>t=Zaw 3 0 0 a c l)):=by
 apply Znx
 unfold ZiD
 intro b
 exact Zac (Mem.le_refl _) ⟨Zaw 3 0 0 a c l,rfl,ZbO hl (by omega) (by omega) (by omega),rfl⟩
theorem ZmY(a:Option Addr)(c:Nat)(l:List T)(m:Mem)(hl:RepL m a l):CX Try.prog 36 #[.slice a l.length c] m [] (Zb1 (λt=>t=Zaw 4 0 0 a c l)):=by
 apply Zny
 unfold ZiE
 intro b
 exact Zac (Mem.le_refl _) ⟨Zaw 4 0 0 a c l,rfl,ZbO hl (by omega) (by omega) (by omega),rfl⟩
theorem ZrS(t:T)(m:Mem)(hr:Rep m t):CX Try.prog 38 #[t.v] m [] (Zb1 (λu=>∃a c,u=Zaw 5 0 (-1) a c [t])):=by
 apply ZlA
 unfold Zhw
 intro b m1 aW _ b1 b2 hf
 have cL:=Mem.le_add hf t.cs
 refine Zrm (mLt aW cL) ⟨Zaw 5 0 (-1) (some ⟨b2,0,none⟩) 1 [t],rfl,ZbO (ZuL ?_ (hr.mono (mLt aW cL))) (by omega) (by omega) (by omega),_,_,rfl⟩
 intro j v hj
 rw[Nat.zero_add,Mem.add_same];exact hj
def Zdo(s:ByteArray):List Nat:=s.data.toList.map λb=>b.toNat
theorem ZhA(s:ByteArray):ZaP s=(Zdo s).map λc:Nat=>Value.int .u8 c:=by
 unfold ZaP Zdo
 rw[List.map_map];rfl
theorem ZmZ(s:ByteArray):(Zdo s).length=s.size:=by unfold Zdo;rw[List.length_map,Array.length_toList];rfl
theorem Ztj(s:ByteArray):∀c∈Zdo s,c < 256:=by
 intro c hc
 unfold Zdo at hc
 obtain⟨b,_,rfl⟩:=List.mem_map.1 hc
 exact b.toBitVec.isLt
theorem Zm0(s:ByteArray)(hs:(Zdo s).length<=100000)(m:Mem):CX Try.prog 37 #[.string s] m [] (Zb1 (λt=>∃a c,t=Zaw 3 0 0 a c ((Zdo s).map Zai))):=by
 apply ZlB
 unfold Zhx
 intro b b1 b2 c0 sD we
 have bS:=ZmZ s
 refine⟨λxs css tvs m' q=>∃(k:Nat)(a:Option Addr)(c:Nat),k<=s.size/\xs=[.int .i64 k]/\css=[[.int .u8 3,.int .u64 0,.int .u64 0,.int .u64 0,.int .u64 0,.int .i64 0,.int .i64 0,.slice a k c]]/\tvs=[.slice a k c]/\rowRd m' a (ZcD (((Zdo s).take k).map Zai))/\q=s.size - k,⟨_,0,none,0,by omega,rfl,rfl,rfl,.inl rfl,rfl⟩,?_⟩
 rintro n cs a n1 c m1 q aW ⟨k,a',c',hk,hn,cV,iW,bU,hq⟩
 obtain rfl:n=k:=by simpa using hn
 obtain⟨rfl,rfl,rfl⟩:a=a'/\n1=k/\c=c':=by simpa using iW
 obtain rfl:cs=[.int .u8 3,.int .u64 0,.int .u64 0,.int .u64 0,.int .u64 0,.int .i64 0,.int .i64 0,.slice a n1 c]:=by simpa using cV
 have cR:m.le m1:=mLt (Mem.le_add sD _) aW
 refine Zab (λbB=>?_) (λcK=>?_)
 ·have aX:n1 < s.size:=by have:=of_decide_eq_true bB;omega
  obtain⟨ch,mz⟩:=Zgj (l:=Zdo s) (k:=n1) (by omega)
  have iI:=Ztj s ch (List.mem_of_getElem? mz)
  have hw:IntKind.i64.wrap ((n1:Int)+1)=((n1+1:Nat):Int):=by rw[Zao (by omega) (by omega)];rfl
  have hv:m1 b2 (0+n1)=some (.int .u8 ch):=aW _ _ _ (by rw[Nat.zero_add,Mem.add_same,ZhA,List.getElem?_map,mz];rfl)
  simp only[hw,Int.toNat_natCast,Nat.mul_one]
  refine⟨b2,0,rfl,⟨by omega,by omega⟩,_,hv,λ_ _ _=>Zb1 (λt=>t=Zai ch),Zah rfl ⟨Zb1 (λt=>t=Zai ch),rfl,ZbK ch iI m1,ZaA,Zbo λt m2 aY hr ht b4 jL=>?_⟩⟩
  have cL:=Mem.le_add jL t.cs
  refine Zaa rfl ⟨.inl rfl,ZcD (((Zdo s).take n1).map Zai),t.cs,?_,rfl,bU.mono (mLt aY cL),.inr ⟨b4,0,rfl,?_⟩,?_,?_,?_,λa2 c2 m3 bN jn=>Zaa rfl λM cR cT fV dM=>⟨by trivial,s.size - (n1+1),by omega,n1+1,a2,c2,by omega,rfl,rfl,rfl,?_,rfl⟩⟩
  ·rw[Zcd,List.length_map,List.length_take,Nat.min_eq_left (by omega)];rfl
  ·intro j v hj
   rw[Nat.zero_add,Mem.add_same];exact hj
  ·intro u hu
   simp only[T.cs,List.mem_cons,List.not_mem_nil,or_false]at hu
   rcases hu with rfl|rfl|rfl|rfl|rfl|rfl|rfl|rfl <;> rfl
  ·simp only[slN];omega
  ·simp only[slN];omega
  ·rw[Ziu mz,List.map_append,Zdi]
   have e:ZcD (List.map Zai [ch])=t.cs:=by rw[ht];rfl
   rw[e]
   exact jn.mono dM
 ·have:n1=s.size:=by have:=of_decide_eq_false cK;omega
  subst this
  rw[<-bS,List.take_length]at bU
  refine Zaa rfl (Zrm cR ⟨Zaw 3 0 0 a c ((Zdo s).map Zai),?_,ZbO (Ziv bU ?_ ?_) (by omega) (by omega) (by omega),a,c,rfl⟩)
  ·show _=Value.agg #[.int .u8 3,.int .u64 0,.int .u64 0,.int .u64 0,.int .u64 0,.int .i64 0,.int .i64 0,.slice a ((Zdo s).map Zai).length c]
   rw[List.length_map,bS]
  ·intro x hx
   obtain⟨y,_,rfl⟩:=List.mem_map.1 hx
   exact Zcc y m1
  ·rw[List.length_map];omega
end Go.Proofs.Ythiefodednaikaa