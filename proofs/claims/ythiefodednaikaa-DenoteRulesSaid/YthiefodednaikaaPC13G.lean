/- Part of the proof: conditions and contracts of functions of this program. No condition of its own. -/
import Derived.Test.YthiefodednaikaaPVB
import Derived.Test.YthiefodednaikaaPVC
import Derived.Test.YthiefodednaikaaMr
import Derived.Test.YthiefodednaikaaPC13Q
import Derived.Test.YthiefodednaikaaPVD
set_option linter.unusedVariables false
set_option linter.unusedSimpArgs false
namespace Go.Proofs.Ythiefodednaikaa
open Go Go.Eng Go.Rx Go.Proofs Go.RowKit
set_option maxRecDepth 100000
theorem Zvv(i:Nat):Int.tdiv (i:Int) 64=((i / 64:Nat):Int):=rfl
theorem Zso(i:Nat):Int.tmod (i:Int) 64=((i % 64:Nat):Int):=rfl
theorem ZtT(i:Nat)(h:i < 576)(m:Mem):CX Try.prog 54 #[.int .i64 i] m [] (Ret (plV (2 ^ i))):=by
 apply Zmb
 unfold Zhq
 intro b b2
 have hq:IntKind.i64.wrap (Int.tdiv (i:Int) 64)=((i / 64:Nat):Int):=by rw[Zvv];exact Zap (by omega) (by omega)
 have hr:IntKind.u64.wrap (1*2 ^ min (Int.toNat (Int.tmod (i:Int) 64)) 64)=((2 ^ (i % 64):Nat):Int):=by
  rw[Zso,Int.toNat_natCast,Nat.min_eq_left (by omega),Int.one_mul]
  have:=ZtP (2 ^ (i % 64)) (by
   have:2 ^ (i % 64) < 2 ^ 64:=Nat.pow_lt_pow_right (by omega) (by omega)
   exact this)
  rw[←this];push_cast;rfl
 have hs:=ZwK (q:=i / 64) (r:=i % 64) (by omega) (by omega)
 rw[show 64*(i / 64)+i % 64=i by omega]at hs
 simp only[hq,hr,Int.toNat_natCast,Nat.zero_add,Nat.mul_one,hs]
 refine⟨by omega,by omega,by rw[Zso];omega,⟨by omega,by omega⟩,Zaa (by rw[Nat.ble_eq];omega) (Zaa rfl (Zac (Mem.le_refl _) rfl))⟩
theorem Zlx(f i:Nat)(h:i < 576)(b:Nat)(m:Mem)(hb:m.reads b 0 (plL f)):CX Try.prog 55 #[.pointer (some ⟨b,0,none⟩),.int .i64 i] m [] (Ret (.bool (f.testBit i))):=by
 apply ZdQ
 unfold Zb6
 have hq:IntKind.i64.wrap (Int.tdiv (i:Int) 64)=((i / 64:Nat):Int):=by rw[Zvv];exact Zap (by omega) (by omega)
 simp only[hq,Int.toNat_natCast,Nat.zero_add,Nat.mul_one]
 have kS:(wdN f (i / 64)).testBit (i % 64)=f.testBit i:=by
  rw[Znw,show 64*(i / 64)+i % 64=i by omega];simp;omega
 refine⟨by omega,⟨by omega,by omega⟩,_,(by have:=hb (i / 64) _ (Zr9 (by omega));simpa using this),by omega,Zaa rfl ⟨by rw[Zso];omega,Zac (Mem.le_refl _) ?_⟩⟩
 rw[Zso,Int.toNat_natCast,Nat.min_eq_left (by omega)]
 show Value.bool (IntKind.u64.wrap _ == 1)=_
 simp only[intOf]
 rw[ZpR _ _ (ZsX _ _),kS]
theorem ZuQ(f g:Nat)(m:Mem):CX Try.prog 104 #[plV f,plV g] m [] (Ret (plV (f|||g))):=by
 apply Zep
 unfold Zci
 intro b b1 m1 aW _ b2
 refine⟨fun xs css _ m' q=>∃k:Nat,k≤9∧xs=[.int .i64 k]∧css=[orL f g k]∧m1.le m'∧q=9 - k,⟨9,0,by omega,rfl,rfl,Mem.le_refl _,rfl⟩,?_⟩
 rintro n cs m2 q aY ⟨k,hk,hn,cR,_,hq⟩
 obtain rfl:n=k:=by simpa using hn
 obtain rfl:cs=orL f g k:=by simpa using cR
 refine Zab (fun bA=>?_) (fun cN=>?_)
 ·have aX:k < 9:=by have:=of_decide_eq_true bA;omega
  have h1:=Zup (f:=f) (g:=g) (k:=k) aX
  rw[if_neg (by omega)]at h1
  have h2:=Zr9 (f:=g) aX
  simp only[Int.toNat_natCast,Nat.zero_add,Nat.mul_one]
  refine⟨⟨by omega,by omega⟩,Zag h1 ⟨⟨by omega,by omega⟩,Zag h2 (Zaa rfl ⟨⟨by omega,by omega⟩,Zaa (by rw[Nat.ble_eq];simp[orL];omega) ⟨by trivial,9 - (k+1),by omega,k+1,by omega,?_,?_,Mem.le_trans (by assumption) (Mem.le_refl _),rfl⟩⟩)⟩⟩
  ·rw[Zap (by omega) (by omega)];rfl
  ·show[Zaj _ _ [Value.int .u64 (IntKind.u64.wrap _)]]=_
   simp only[intOf]
   rw[ZsY _ _ (ZsX _ _) (ZsX _ _),ZsZ aX]
 ·have:k=9:=by have:=of_decide_eq_false cN;omega
  subst this
  exact Zaa (by rfl) (Zac (Mem.le_trans aW aY) rfl)
theorem Zry(f k:Nat)(h:k≤513):(Zcs f).take (((List.range k).filter fun i=>f.testBit i).length)=(List.range k).filter fun i=>f.testBit i:=by
 have e:List.range 513=List.range k++(List.range 513).drop k:=by
  have:=(List.take_append_drop k (List.range 513)).symm
  rwa [List.take_range,Nat.min_eq_left h]at this
 unfold Zcs
 conv=>lhs;rw[e,List.filter_append]
 rw[List.take_left']
 rfl
theorem ZuR(f k:Nat)(h:k < 513)(hb:f.testBit k=true):(Zcs f)[((List.range k).filter fun i=>f.testBit i).length]?=some k:=by
 have h1:=Zry f (k+1) (by omega)
 have e:(List.range (k+1)).filter (fun i=>f.testBit i)=(List.range k).filter (fun i=>f.testBit i)++[k]:=by
  rw[List.range_succ,List.filter_append];simp[hb]
 rw[e]at h1
 have h2:=congrArg (fun l=>l[((List.range k).filter fun i=>f.testBit i).length]?) h1
 simpa[List.getElem?_take]using h2
theorem Zsp(f:Nat)(b c:Nat)(m:Mem)(hb:m.reads b 0 (plL f))(hc:m.reads c 0 [.pointer (some ⟨b,0,none⟩)]):IX Try.prog 98 [] [.pointer (some ⟨c,0,none⟩)] m ((Zcs f).map fun i=>[.int .i64 (i:Nat)]):=by
 apply ZcN 0 [] [] c 0
 unfold ZbH
 intro l
 refine⟨fun xs _ _ m' q=>∃k:Nat,k≤513∧xs=[.int .i64 (((List.range k).filter fun i=>f.testBit i).length:Nat),.int .i64 k]∧m.le m'∧q=513 - k,⟨513,0,by omega,rfl,Mem.le_refl _,rfl⟩,?_⟩
 rintro y n m1 q aW ⟨k,hk,eY,_,hq⟩
 simp only[List.cons.injEq,Value.int.injEq,true_and,and_true]at eY
 obtain⟨rfl,rfl⟩:=eY
 have dZ:((List.range (k+1)).filter fun i=>f.testBit i).length=((List.range k).filter fun i=>f.testBit i).length+(if f.testBit k then 1 else 0):=by
  rw[List.range_succ,List.filter_append,List.length_append];simp[List.filter_cons];split <;> simp
 refine Zab (fun bA=>?_) (fun cN=>?_)
 ·have aX:k < 513:=by have:=of_decide_eq_true bA;omega
  refine⟨_,aW _ _ _ (hc 0 _ rfl),Zak (Zlx f k (by omega) b m1 (hb.mono aW)) fun m2 aY=>Zab (fun h=>?_) (fun h=>?_)⟩
  ·refine⟨⟨rfl,by omega,?_⟩,⟨513 - (k+1),by omega,k+1,by omega,?_,Mem.le_trans aW aY,rfl⟩,.inr rfl⟩
   ·rw[Int.toNat_natCast]
    show((Zcs f).map fun i=>[Value.int .i64 (i:Nat)])[((List.range k).filter fun i=>f.testBit i).length]?=_
    rw[List.getElem?_map,ZuR f k aX h];rfl
   ·rw[dZ,if_pos h,Zap (by omega) (by omega)];rfl
  ·refine⟨513 - (k+1),by omega,k+1,by omega,?_,Mem.le_trans aW aY,rfl⟩
   rw[dZ,if_neg (by simp[h]),Zap (by omega) (by omega)];rfl
 ·have:k=513:=by have:=of_decide_eq_false cN;omega
  subst this
  left
  simp[Zcs]
theorem ZuS(f b:Nat)(m:Mem)(hb:m.reads b 0 (plL f)):CX Try.prog 82 #[.pointer (some ⟨b,0,none⟩)] m [] (fun v m' _=>∃c,v=.func (.func 98) #[] #[.pointer (some ⟨c,0,none⟩)]∧m'.reads c 0 [.pointer (some ⟨b,0,none⟩)]):=by
 apply ZdR
 unfold Zb7
 intro c m1 aW hc
 exact⟨m1,aW,Mem.le_refl _,c,rfl,hc⟩
theorem sh6:∀c:Nat,c < 256→IntKind.u8.wrap ((BitVec.ofInt 8 (c:Int)&&&BitVec.ofInt 8 63).toNat:Int)=((c % 64:Nat):Int)∧Int.fdiv (c:Int) (2 ^ 6)=((c / 64:Nat):Int):=by decide
theorem Zsq(t:T)(c:Nat)(hc:c < 256)(m:Mem)(hr:Rep m t):CX Try.prog 119 #[.agg #[.int .u64 t.s0,.int .u64 t.s1,.int .u64 t.s2,.int .u64 t.s3],.int .u8 c] m [] (Ret (.bool (t.hasB c))):=by
 apply Zn7
 unfold Zjy
 intro b m1 aW _
 obtain⟨h1,h2⟩:=sh6 c hc
 simp only[h1,h2,Int.toNat_natCast,Nat.zero_add,Nat.mul_one]
 have cB:=ZsV hr
 have hw:∃w:Int,[Value.int .u64 t.s0,.int .u64 t.s1,.int .u64 t.s2,.int .u64 t.s3][c / 64]?=some (.int .u64 w)∧0≤w∧w < 18446744073709551616∧t.hasB c=w.toNat.testBit (c % 64):=by
  have:c / 64=0∨c / 64=1∨c / 64=2∨c / 64=3:=by omega
  unfold T.hasB
  rcases this with e|e|e|e
  ·exact⟨t.s0,by rw[e];rfl,cB.s0.1,cB.s0.2,by simp[e]⟩
  ·exact⟨t.s1,by rw[e];rfl,cB.s1.1,cB.s1.2,by simp[e]⟩
  ·exact⟨t.s2,by rw[e];rfl,cB.s2.1,cB.s2.2,by simp[e]⟩
  ·exact⟨t.s3,by rw[e];rfl,cB.s3.1,cB.s3.2,by simp[e]⟩
 obtain⟨w,ku,ig,s4,rZ⟩:=hw
 refine⟨by omega,⟨by omega,by omega⟩,Zag ku (Zaa rfl ⟨by omega,Zac aW ?_⟩)⟩
 rw[rZ,Nat.min_eq_left (by omega)]
 obtain⟨n,rfl⟩:∃n:Nat,w=n:=⟨w.toNat,by omega⟩
 show Value.bool (IntKind.u64.wrap _ == 1)=_
 simp only[intOf]
 rw[ZpR _ _ (by omega)]
 simp
end Go.Proofs.Ythiefodednaikaa
set_option linter.unusedVariables false
set_option linter.unusedSimpArgs false
namespace Go.Proofs.Ythiefodednaikaa
open Go Go.Eng Go.Proofs Go.RowKit Go.Rx
theorem ZuT(a b c d e f g h i a' b' c' d' e' f' g' h' i':Int):EqIs Try.prog 95 (.agg #[.int .u64 a,.int .u64 b,.int .u64 c,.int .u64 d,.int .u64 e,.int .u64 f,.int .u64 g,.int .u64 h,.int .u64 i]) (.agg #[.int .u64 a',.int .u64 b',.int .u64 c',.int .u64 d',.int .u64 e',.int .u64 f',.int .u64 g',.int .u64 h',.int .u64 i']) (a == a'&&(b == b'&&(c == c'&&(d == d'&&(e == e'&&(f == f'&&(g == g'&&(h == h'&&i == i')))))))):=by
 refine⟨fun w=>?_,fun op ox oy w=>Zdi (by kernel_rfl) op ox oy _ _ w⟩
 have u3:=Try.underlying24
 have a3:=Try.isAgg24
 have z3:=Try.sizeOf24
 rw[Op.equal,Op.maxDepth,show(10000:Nat)=9999+1 from rfl,Op.equalIn]
 simp only[Sem.run_bind,run_underlying Try.underlying95,Result.andThen_ok]
 simp only[Std.Legacy.Range.forIn_eq_forIn_range',Std.Legacy.Range.size,Nat.sub_zero,Nat.add_sub_cancel,Nat.div_one,List.range'_succ,List.range'_zero,List.forIn_cons,List.forIn_nil]
 go_simp
 by_cases h1:a=a'
 ·by_cases h2:b=b'
  ·by_cases h3:c=c'
   ·by_cases h4:d=d'
    ·by_cases h5:e=e'
     ·by_cases h6:f=f'
      ·by_cases h7:g=g'
       ·by_cases h8:h=h'
        ·by_cases h9:i=i' <;> simp[h1,h2,h3,h4,h5,h6,h7,h8,h9]
        ·simp[h1,h2,h3,h4,h5,h6,h7,h8]
       ·simp[h1,h2,h3,h4,h5,h6,h7]
      ·simp[h1,h2,h3,h4,h5,h6]
     ·simp[h1,h2,h3,h4,h5]
    ·simp[h1,h2,h3,h4]
   ·simp[h1,h2,h3]
  ·simp[h1,h2]
 ·simp[h1]
theorem ZwX{f g:Nat}(hf:f < ZbR)(hg:g < ZbR):EqIs Try.prog 95 (plV f) (plV g) (f == g):=by
 have h:=ZuT (wdN f 0:Nat) (wdN f 1:Nat) (wdN f 2:Nat) (wdN f 3:Nat) (wdN f 4:Nat) (wdN f 5:Nat) (wdN f 6:Nat) (wdN f 7:Nat) (wdN f 8:Nat) (wdN g 0:Nat) (wdN g 1:Nat) (wdN g 2:Nat) (wdN g 3:Nat) (wdN g 4:Nat) (wdN g 5:Nat) (wdN g 6:Nat) (wdN g 7:Nat) (wdN g 8:Nat)
 have e:(((wdN f 0:Nat):Int) == (wdN g 0:Nat)&&(((wdN f 1:Nat):Int) == (wdN g 1:Nat)&&(((wdN f 2:Nat):Int) == (wdN g 2:Nat)&&(((wdN f 3:Nat):Int) == (wdN g 3:Nat)&&(((wdN f 4:Nat):Int) == (wdN g 4:Nat)&&(((wdN f 5:Nat):Int) == (wdN g 5:Nat)&&(((wdN f 6:Nat):Int) == (wdN g 6:Nat)&&(((wdN f 7:Nat):Int) == (wdN g 7:Nat)&&((wdN f 8:Nat):Int) == (wdN g 8:Nat)))))))))=(f == g):=by
  rw[Bool.eq_iff_iff]
  simp only[Bool.and_eq_true,beq_iff_eq,Int.natCast_inj]
  constructor
  ·rintro⟨h0,h1,h2,h3,h4,h5,h6,h7,h8⟩
   refine ZvH hf hg fun j hj=>?_
   have:j=0∨j=1∨j=2∨j=3∨j=4∨j=5∨j=6∨j=7∨j=8:=by omega
   rcases this with rfl|rfl|rfl|rfl|rfl|rfl|rfl|rfl|rfl
   ·exact h0
   ·exact h1
   ·exact h2
   ·exact h3
   ·exact h4
   ·exact h5
   ·exact h6
   ·exact h7
   ·exact h8
  ·rintro rfl;simp
 rw[e]at h
 exact h
end Go.Proofs.Ythiefodednaikaa
set_option linter.unusedVariables false
set_option linter.unusedSimpArgs false
set_option linter.unusedSectionVars false
namespace Go.Proofs.Ythiefodednaikaa
open Go Go.Eng Go.Rx Go.Proofs Go.RowKit
set_option maxRecDepth 100000
abbrev txV(a:Option Addr)(s:List Nat)(c:Nat)(back:Bool):Value:=.agg #[.slice a s.length c,.bool back]
theorem Zti(t:T)(a:Option Addr)(s:List Nat)(c:Nat)(back:Bool)(f:Nat)(m:Mem)(hr:Rep m t)(hb:Byt m a s)(hs:s.length≤512):CX Try.prog 101 #[txV a s c back,t.v,plV f] m [] (Ret (plV (Zqq t back f s 0 0))):=by
 apply ZdT
 unfold Zb9
 intro b m1 aW _ b1 m2 aY _ b2 m3 bR dT b3 b4
 refine⟨fun xs css _ m' q=>∃k o:Nat,k≤s.length∧xs=[.int .i64 k]∧css=[plL o]∧Zqq t back f (s.drop k) k o=Zqq t back f s 0 0∧m3.le m'∧q=s.length - k,⟨_,0,0,by omega,rfl,rfl,rfl,Mem.le_refl _,rfl⟩,?_⟩
 rintro n cs m4 q cF ⟨k,o,hk,hn,cR,cY,_,hq⟩
 obtain rfl:n=k:=by simpa using hn
 obtain rfl:cs=plL o:=by simpa using cR
 have dO:m.le m4:=Mem.le_trans aW (Mem.le_trans aY (Mem.le_trans bR cF))
 refine Zab (fun bA=>?_) (fun cN=>?_)
 ·have aX:k < s.length:=by have:=of_decide_eq_true bA;omega
  obtain⟨ch,lq⟩:=Zfb aX
  have hw:IntKind.i64.wrap ((k:Int)+1)=((k+1:Nat):Int):=by rw[Zap (by omega) (by omega)];rfl
  have dZ:Zqq t back f (s.drop (k+1)) (k+1) (Znx t back f k ch o)=Zqq t back f s 0 0:=by rw[Zjm lq]at cY;exact cY
  obtain⟨⟨b5,o5,ha,hv⟩,im⟩:=(hb.mono dO).get lq
  simp only[hw,Int.toNat_natCast,Nat.mul_one]
  refine⟨b5,o5,ha,⟨by omega,by omega⟩,_,hv,?_⟩
  cases back with
  | true=>
   refine Zj3 (x:=true) rfl ?_
   refine⟨f.testBit (k+1)&&t.hasB ch,Zak (Zlx f (k+1) (by omega) b2 m4 (dT.mono cF)) fun m5 cO=>Zab (fun h=>Zak (Zsq t ch im m5 (hr.mono (Mem.le_trans dO cO))) fun m6 dK=>⟨by trivial,by rw[h,Bool.true_and]⟩) (fun h=>⟨by trivial,by rw[h,Bool.false_and]⟩),Zab (fun h=>?_) (fun h=>?_)⟩
   ·refine⟨fun i _ _=>if i=2 then Ret (plV (2 ^ k))else Ret (plV (o|||2 ^ k)),Ret (plV (2 ^ k)),rfl,ZtT k (by omega) m4,Za1,ZlX fun m5 cO=>⟨Ret (plV (o|||2 ^ k)),rfl,ZuQ o (2 ^ k) m5,Za1,ZlX fun m6 dK M dD cW ic=>⟨by trivial,s.length - (k+1),by omega,k+1,o|||2 ^ k,by omega,rfl,rfl,?_,Mem.le_trans cF dD,rfl⟩⟩⟩
    rw[←dZ];unfold Znx;rw[if_pos (by simpa using h)];rfl
   ·refine⟨by trivial,s.length - (k+1),by omega,k+1,o,by omega,rfl,rfl,?_,cF,rfl⟩
    rw[←dZ];unfold Znx;rw[if_neg (by simpa using h)]
  | false=>
   refine Zj3 (x:=false) rfl ?_
   refine⟨f.testBit k&&t.hasB ch,Zak (Zlx f k (by omega) b2 m4 (dT.mono cF)) fun m5 cO=>Zab (fun h=>Zak (Zsq t ch im m5 (hr.mono (Mem.le_trans dO cO))) fun m6 dK=>⟨by trivial,by rw[h,Bool.true_and]⟩) (fun h=>⟨by trivial,by rw[h,Bool.false_and]⟩),Zab (fun h=>?_) (fun h=>?_)⟩
   ·refine⟨fun i _ _=>if i=2 then Ret (plV (2 ^ (k+1)))else Ret (plV (o|||2 ^ (k+1))),Ret (plV (2 ^ (k+1))),rfl,ZtT (k+1) (by omega) m4,Za1,ZlX fun m5 cO=>⟨Ret (plV (o|||2 ^ (k+1))),rfl,ZuQ o (2 ^ (k+1)) m5,Za1,ZlX fun m6 dK M dD cW ic=>⟨by trivial,s.length - (k+1),by omega,k+1,o|||2 ^ (k+1),by omega,rfl,rfl,?_,Mem.le_trans cF dD,rfl⟩⟩⟩
    rw[←dZ];unfold Znx;rw[if_pos (by simpa using h)];rfl
   ·refine⟨by trivial,s.length - (k+1),by omega,k+1,o,by omega,rfl,rfl,?_,cF,rfl⟩
    rw[←dZ];unfold Znx;rw[if_neg (by simpa using h)]
 ·have:k=s.length:=by have:=of_decide_eq_false cN;omega
  subst this
  refine Zaa rfl (Zac dO ?_)
  rw[List.drop_length]at cY
  rw[←cY];rfl
theorem ZuU(t:T)(f:Nat)(m:Mem):CX Try.prog 99 #[t.v,plV f] m [] (Ret (plV 0)):=by
 apply ZcO
 unfold ZbI
 intro b m1 aW _ b1 m2 aY _ b2
 exact Zac (Mem.le_trans aW aY) rfl
theorem Ztj(t:T)(f:Nat)(m:Mem):CX Try.prog 100 #[t.v,plV f] m [] (Ret (plV f)):=by
 apply ZcP
 unfold ZbJ
 intro b m1 aW _ b1 m2 aY _ b2
 exact Zac (Mem.le_trans aW aY) rfl
def IH(a:Option Addr)(s:List Nat)(c:Nat)(back:Bool)(t:T):Prop:=∀x∈t.subs,∀(f:Nat)(m:Mem),f < ZbR→Rep m x→Byt m a s→CX Try.prog 53 #[txV a s c back,x.v,plV f] m [] (Ret (plV (x.lead s back f)))
section
variable (t:T) (a:Option Addr) (s:List Nat) (c:Nat) (back:Bool) (f:Nat) (m:Mem) (hr:Rep m t) (hb:Byt m a s) (hs:s.length≤512) (ih:IH a s c back t) (hf:f < ZbR)
include hr hb hs ih hf
theorem ZvU(pb po:Nat)(hp:m.reads pb po [.slice a s.length c,.bool back]):CX Try.prog 102 #[t.v,plV f,.pointer (some ⟨pb,po,none⟩)] m [] (Ret (plV (if back then Ze6 s back t.subs f else ZfJ s back t.subs f))):=by
 apply ZcQ
 unfold ZbK
 intro b m1 aW _ b1 b2
 obtain⟨bQ,cC⟩:=ZdC hr
 refine⟨fun xs css _ m' q=>∃k o:Nat,k≤t.subs.length∧xs=[.int .i64 k]∧css=[plL o]∧o < ZbR∧(if back then Ze6 s back (t.subs.take (t.subs.length - k)) o else ZfJ s back (t.subs.drop k) o)=(if back then Ze6 s back t.subs f else ZfJ s back t.subs f)∧m1.le m'∧q=t.subs.length - k,⟨_,0,f,by omega,rfl,rfl,hf,by rw[Nat.sub_zero,List.take_length,List.drop_zero],Mem.le_refl _,rfl⟩,?_⟩
 rintro n cs m4 q cF ⟨k,o,hk,hn,cR,ho,cY,_,hq⟩
 obtain rfl:n=k:=by simpa using hn
 obtain rfl:cs=plL o:=by simpa using cR
 have dO:m.le m4:=Mem.le_trans aW cF
 refine Zab (fun bA=>?_) (fun cN=>?_)
 ·have aX:k < t.subs.length:=by have:=of_decide_eq_true bA;omega
  have hw:IntKind.i64.wrap ((k:Int)+1)=((k+1:Nat):Int):=by rw[Zap (by omega) (by omega)];rfl
  have ku:IntKind.i64.wrap ((t.subs.length:Int) - 1)=((t.subs.length - 1:Nat):Int):=by rw[Zap (by omega) (by omega)];omega
  have ig:IntKind.i64.wrap (((t.subs.length - 1:Nat):Int) - k)=((t.subs.length - 1 - k:Nat):Int):=by rw[Zap (by omega) (by omega)];omega
  rcases cC with cC|⟨sb,so,jE,j2⟩
  ·rw[cC]at aX;simp at aX
  simp only[hw,ku,ig,Int.toNat_natCast]
  refine⟨.bool back,dO _ _ _ (hp 1 _ rfl),Zaa rfl ?_⟩
  cases back with
  | true=>
   refine Zj3 (x:=true) rfl ?_
   obtain⟨x,hx⟩:=Zfb (l:=t.subs) (k:=t.subs.length - 1 - k) (by omega)
   obtain⟨eN,fY⟩:=j2.get hx
   refine⟨fun _ _ _=>Ret (plV (x.lead s true o)),_,_,hp.mono dO,sb,so,jE,⟨by omega,by omega⟩,_,_,_,_,_,_,_,_,eN.mono dO,Ret (plV (x.lead s true o)),rfl,ih x (List.mem_of_getElem? hx) o m4 ho (fY.mono dO) (hb.mono dO),Za1,ZlX fun m6 dK M dD cW=>⟨by trivial,t.subs.length - (k+1),by omega,k+1,x.lead s true o,by omega,rfl,rfl,Zej s true hs x o ho,?_,Mem.le_trans cF dD,rfl⟩⟩
   rw[if_pos rfl,if_pos rfl]at cY ⊢
   rw[show t.subs.length - k=t.subs.length - 1 - k+1 by omega,Zjn hx,ZoP]at cY
   rw[show t.subs.length - (k+1)=t.subs.length - 1 - k by omega]
   exact cY
  | false=>
   refine Zj3 (x:=false) rfl ?_
   obtain⟨x,hx⟩:=Zfb aX
   obtain⟨eN,fY⟩:=j2.get hx
   refine⟨fun _ _ _=>Ret (plV (x.lead s false o)),_,_,hp.mono dO,sb,so,jE,⟨by omega,by omega⟩,_,_,_,_,_,_,_,_,eN.mono dO,Ret (plV (x.lead s false o)),rfl,ih x (List.mem_of_getElem? hx) o m4 ho (fY.mono dO) (hb.mono dO),Za1,ZlX fun m6 dK M dD cW=>⟨by trivial,t.subs.length - (k+1),by omega,k+1,x.lead s false o,by omega,rfl,rfl,Zej s false hs x o ho,?_,Mem.le_trans cF dD,rfl⟩⟩
   rw[if_neg (by simp),if_neg (by simp)]at cY ⊢
   rw[Zjm hx,ZoO]at cY
   exact cY
 ·have:k=t.subs.length:=by have:=of_decide_eq_false cN;omega
  subst this
  refine Zaa rfl (Zac dO ?_)
  rw[Nat.sub_self,List.drop_length]at cY
  rw[←cY];cases back <;> rfl
theorem ZvV(pb po:Nat)(hp:m.reads pb po [.slice a s.length c,.bool back]):CX Try.prog 103 #[t.v,plV f,.pointer (some ⟨pb,po,none⟩)] m [] (Ret (plV (ZoN s back t.subs f 0))):=by
 apply ZcR
 unfold ZbL
 intro b m1 aW _ b1 m2 aY _ b2 b3
 obtain⟨bQ,cC⟩:=ZdC hr
 refine⟨fun xs css _ m' q=>∃k o:Nat,k≤t.subs.length∧xs=[.int .i64 k]∧css=[plL o]∧ZoN s back (t.subs.drop k) f o=ZoN s back t.subs f 0∧m2.le m'∧q=t.subs.length - k,⟨_,0,0,by omega,rfl,rfl,rfl,Mem.le_refl _,rfl⟩,?_⟩
 rintro n cs m4 q cF ⟨k,o,hk,hn,cR,cY,_,hq⟩
 obtain rfl:n=k:=by simpa using hn
 obtain rfl:cs=plL o:=by simpa using cR
 have dO:m.le m4:=Mem.le_trans aW (Mem.le_trans aY cF)
 refine Zab (fun bA=>?_) (fun cN=>?_)
 ·have aX:k < t.subs.length:=by have:=of_decide_eq_true bA;omega
  have hw:IntKind.i64.wrap ((k:Int)+1)=((k+1:Nat):Int):=by rw[Zap (by omega) (by omega)];rfl
  rcases cC with cC|⟨sb,so,jE,j2⟩
  ·rw[cC]at aX;simp at aX
  simp only[hw,Int.toNat_natCast]
  obtain⟨x,hx⟩:=Zfb aX
  obtain⟨eN,fY⟩:=j2.get hx
  refine⟨sb,so,jE,⟨by omega,by omega⟩,_,_,_,_,_,_,_,_,eN.mono dO,fun b5=>Zaa rfl ⟨fun i _ _=>if i=4 then Ret (plV (x.lead s back f))else Ret (plV (o|||x.lead s back f)),_,_,hp.mono dO,Ret (plV (x.lead s back f)),rfl,ih x (List.mem_of_getElem? hx) f m4 hf (fY.mono dO) (hb.mono dO),Za1,ZlX fun m5 cO=>⟨Ret (plV (o|||x.lead s back f)),rfl,ZuQ o _ m5,Za1,ZlX fun m6 dK M dD cW ic=>⟨by trivial,t.subs.length - (k+1),by omega,k+1,o|||x.lead s back f,by omega,rfl,rfl,?_,Mem.le_trans cF dD,rfl⟩⟩⟩⟩
  rw[Zjm hx,Znz]at cY
  exact cY
 ·have:k=t.subs.length:=by have:=of_decide_eq_false cN;omega
  subst this
  refine Zaa rfl (Zac dO ?_)
  rw[List.drop_length,ZpS]at cY
  rw[cY];rfl
theorem ZvW(x:T)(hx:t.subs=[x])(pb po:Nat)(hp:m.reads pb po [.slice a s.length c,.bool back]):CX Try.prog 106 #[t.v,plV f,.pointer (some ⟨pb,po,none⟩)] m [] (Ret (plV (ZeJ s back t.subs f))):=by
 apply ZcS
 unfold ZbM
 intro b m1 aW _ b1 m2 aY _ b2
 obtain⟨bQ,cC⟩:=ZdC hr
 have dO:m.le m2:=Mem.le_trans aW aY
 rcases cC with cC|⟨sb,so,jE,j2⟩
 ·rw[cC]at hx;cases hx
 have iB:t.subs[0]?=some x:=by rw[hx];rfl
 obtain⟨eN,fY⟩:=j2.get iB
 refine⟨fun _ _ _=>Ret (plV (x.lead s back f)),_,_,hp.mono dO,sb,so,jE,⟨by omega,by rw[hx];simp⟩,_,_,_,_,_,_,_,_,eN.mono dO,Ret (plV (x.lead s back f)),rfl,ih x (List.mem_of_getElem? iB) f m2 hf (fY.mono dO) (hb.mono dO),Za1,ZlX fun m6 dK M dD cW=>Zac (Mem.le_trans dO dD) ?_⟩
 rw[hx];unfold ZeJ;rfl
theorem Zrz(x:T)(hx:t.subs=[x])(jC:0≤t.mn):CX Try.prog 105 #[txV a s c back,t.v,plV f] m [] (Ret (plV (Zuq (ZeJ s back t.subs) t.mn t.mx f))):=by
 apply Zdv
 unfold ZbY
 intro b m1 aW _ b1 m2 aY _ b2 b3
 obtain⟨bQ,cC⟩:=ZdC hr
 rcases cC with cC|⟨sb,so,jE,j2⟩
 ·rw[cC]at hx;cases hx
 have iB:t.subs[0]?=some x:=by rw[hx];rfl
 obtain⟨eN,fY⟩:=j2.get iB
 have hg:ZeJ s back t.subs=x.lead s back:=by rw[hx];rfl
 have jX:t.subs.length=1:=by rw[hx];rfl
 have cB:=ZsV hr
 obtain⟨N,hN⟩:∃N:Nat,t.mn=N:=⟨t.mn.toNat,by omega⟩
 have qf:=cB.mn
 rw[hg,hN]
 unfold Zuq
 rw[Int.toNat_natCast]
 refine⟨fun xs css _ m' q=>∃k o:Nat,k≤N∧xs=[.int .i64 k]∧css=[plL o]∧o < ZbR∧ZtQ (x.lead s back) (N - k) o=ZtQ (x.lead s back) N f∧m2.le m'∧q=N - k,⟨_,0,f,by omega,rfl,rfl,hf,rfl,Mem.le_refl _,rfl⟩,?_⟩
 rintro n cs m4 q cF ⟨k,o,hk,hn,cR,ho,cY,_,hq⟩
 obtain rfl:n=k:=by simpa using hn
 obtain rfl:cs=plL o:=by simpa using cR
 have dO:m.le m4:=Mem.le_trans aW (Mem.le_trans aY cF)
 refine Zab (fun bA=>?_) (fun cN=>?_)
 ·have aX:k < N:=by have:=of_decide_eq_true bA;omega
  have hw:IntKind.i64.wrap ((k:Int)+1)=((k+1:Nat):Int):=by rw[Zap (by omega) (by omega)];rfl
  simp only[hw]
  refine⟨fun _ _ _=>Ret (plV (x.lead s back o)),sb,so,jE,⟨by omega,by rw[hx];simp⟩,_,_,_,_,_,_,_,_,eN.mono dO,Ret (plV (x.lead s back o)),rfl,ih x (List.mem_of_getElem? iB) o m4 ho (fY.mono dO) (hb.mono dO),Za1,ZlX fun m6 dK M dD cW=>⟨by trivial,N - (k+1),by omega,k+1,x.lead s back o,by omega,rfl,rfl,Zej s back hs x o ho,?_,Mem.le_trans cF dD,rfl⟩⟩
  rw[show N - k=N - (k+1)+1 by omega]at cY
  exact cY
 ·have:k=N:=by have:=of_decide_eq_false cN;omega
  subst this
  replace cY:o=ZtQ (x.lead s back) k f:=by rw[Nat.sub_self]at cY;exact cY
  rw[←cY]
  intro b4 b5
  refine Zaa rfl (Zaa rfl ?_)
  refine⟨fun xs css _ m' q=>∃(i:Int)(c1:List Value)(out last:Nat),xs=[.int .i64 i]∧css=[c1,plL out,plL last]∧out < ZbR∧last < ZbR∧ZbR - out < q∧Zoj (x.lead s back) t.mx q i out last=Zoj (x.lead s back) t.mx (ZbR+1) k o o∧m4.le m',⟨ZbR+1,k,_,o,o,rfl,rfl,ho,ho,by omega,rfl,Mem.le_refl _⟩,?_⟩
  rintro i cs1 cs2 cs3 m5 q cO ⟨i',c1,out,last,hi,cR,cU,dA,hq,eC,_⟩
  obtain rfl:i=i':=by simpa using hi
  obtain⟨rfl,rfl,rfl⟩:cs1=c1∧cs2=plL out∧cs3=plL last:=by simpa using cR
  have lr:m.le m5:=Mem.le_trans dO cO
  obtain⟨q,rfl⟩:∃q',q=q'+1:=⟨q - 1,by omega⟩
  rw[Zle (n:=q)]at eC
  refine Zab (fun cS=>?_) (fun he=>?_)
  ·have pj:¬i=t.mx:=by simpa using cS
   rw[if_neg pj]at eC
   refine⟨fun _ _ _=>Ret (plV (x.lead s back last)),sb,so,jE,⟨by omega,by rw[hx];simp⟩,_,_,_,_,_,_,_,_,eN.mono lr,Ret (plV (x.lead s back last)),rfl,ih x (List.mem_of_getElem? iB) last m5 dA (fY.mono lr) (hb.mono lr),Za1,ZlX fun m6 dK M dD cW=>Zan (ZuQ out (x.lead s back last) M) Za1 (ZlX fun m7 eA b7=>?_)⟩
   have gF:=Zej s back hs x last dA
   have la:=Nat.or_lt_two_pow cU gF
   refine⟨(out|||x.lead s back last) == out,ZwX la cU,Zab (fun h=>?_) (fun h=>?_)⟩
   ·rw[if_pos (by simpa using h)]at eC
    refine Zaa rfl (Zac (Mem.le_trans lr (Mem.le_trans dD eA)) ?_)
    rw[←eC];rfl
   ·have gw:¬(out|||x.lead s back last)=out:=by simpa using h
    rw[if_neg gw]at eC
    have cI:out≤out|||x.lead s back last:=Nat.left_le_or
    refine⟨by trivial,q,by omega,_,_,out|||x.lead s back last,x.lead s back last,rfl,rfl,la,gF,by omega,eC,Mem.le_trans cO (Mem.le_trans dD eA)⟩
  ·have he':i=t.mx:=by simpa using he
   rw[if_pos he']at eC
   refine Zaa rfl ⟨m,Mem.le_refl _,lr,?_⟩
   rw[←eC];rfl
end
def KR(a:Option Addr)(s:List Nat)(c:Nat)(back:Bool):Value→Mem→List (List Value)→Prop:=fun v m' _=>∃b,v=.agg #[.func (.func 99) #[] #[],.func (.func 100) #[] #[],.func (.func 101) #[txV a s c back] #[],.func (.func 102) #[] #[.pointer (some ⟨b,0,none⟩)],.func (.func 103) #[] #[.pointer (some ⟨b,0,none⟩)],.func (.func 105) #[txV a s c back] #[],.func (.func 106) #[] #[.pointer (some ⟨b,0,none⟩)]]∧m'.reads b 0 [.slice a s.length c,.bool back]
theorem ZeT(a:Option Addr)(s:List Nat)(c:Nat)(back:Bool)(m:Mem):CX Try.prog 84 #[txV a s c back] m [] (KR a s c back):=by
 apply ZdS
 unfold Zb8
 intro b m1 aW hb b1
 exact⟨m1,aW,Mem.le_refl _,b,rfl,hb⟩
theorem Zhx{a s c back}:∀(v:Value)(m':Mem) (css:List (List Value)),KR a s c back v m' css→Shape.fits (.agg [.fn,.fn,.fn,.fn,.fn,.fn,.fn]) v=true:=fun v _ _ ⟨b,e,_⟩=>by rw[e];rfl
theorem Zsr{t:T}(h:(t.subs.length == 1)=true):∃x,t.subs=[x]:=List.length_eq_one_iff.1 (by simpa using h)
theorem Ztk(t:T)(a:Option Addr)(s:List Nat)(c:Nat)(back:Bool)(f:Nat)(m:Mem)(hr:Rep m t)(hb:Byt m a s)(hs:s.length≤512)(hf:f < ZbR)(hk:t.k=0):CX Try.prog 53 #[txV a s c back,t.v,plV f] m [] (Ret (plV (0))):=by
 have key:Zbk a s.length c back t.s0 t.s1 t.s2 t.s3 t.mn t.mx t.a t.subs.length t.c (wdN f 0:Nat) (wdN f 1:Nat) (wdN f 2:Nat) (wdN f 3:Nat) (wdN f 4:Nat) (wdN f 5:Nat) (wdN f 6:Nat) (wdN f 7:Nat) (wdN f 8:Nat) m (Ret (plV (0))):=by
  unfold Zbk
  intro b1 m1 aW _ b2 m2 aY _ b3 m3 bR _ b4
  refine⟨fun i _ _=>if i=1 then KR a s c back else Ret (plV (0)),KR a s c back,rfl,ZeT a s c back m3,Zhx,?_⟩
  rintro g0 i0 c0 g1 i1 c1 g2 i2 c2 g3 i3 c3 g4 i4 c4 g5 i5 c5 g6 i6 c6 m5 cO ⟨b,hv,cH⟩
  simp only[Value.agg.injEq,Array.mk.injEq,List.cons.injEq,Value.func.injEq,Fn.func.injEq,and_true]at hv
  obtain⟨⟨rfl,rfl,rfl⟩,⟨rfl,rfl,rfl⟩,⟨rfl,rfl,rfl⟩,⟨rfl,rfl,rfl⟩,⟨rfl,rfl,rfl⟩,⟨rfl,rfl,rfl⟩,⟨rfl,rfl,rfl⟩⟩:=hv
  have hM:m.le m5:=Mem.le_trans aW (Mem.le_trans aY (Mem.le_trans bR cO))
  have bX:=ZuU t f m5
  rw[T.v,hk]at bX
  exact⟨⟨by omega,by omega⟩,Ret (plV (0)),rfl,bX,Za1,ZlX fun m6 dK M dD cW ic=>Zac (Mem.le_trans hM cW) rfl⟩
 have h:=Zdj a s.length c back t.s0 t.s1 t.s2 t.s3 t.mn t.mx t.a t.subs.length t.c (wdN f 0:Nat) (wdN f 1:Nat) (wdN f 2:Nat) (wdN f 3:Nat) (wdN f 4:Nat) (wdN f 5:Nat) (wdN f 6:Nat) (wdN f 7:Nat) (wdN f 8:Nat) m _ key
 rw[T.v,hk]
 exact h
theorem Ztl(t:T)(a:Option Addr)(s:List Nat)(c:Nat)(back:Bool)(f:Nat)(m:Mem)(hr:Rep m t)(hb:Byt m a s)(hs:s.length≤512)(hf:f < ZbR)(hk:t.k=1):CX Try.prog 53 #[txV a s c back,t.v,plV f] m [] (Ret (plV (f))):=by
 have key:Zbl a s.length c back t.s0 t.s1 t.s2 t.s3 t.mn t.mx t.a t.subs.length t.c (wdN f 0:Nat) (wdN f 1:Nat) (wdN f 2:Nat) (wdN f 3:Nat) (wdN f 4:Nat) (wdN f 5:Nat) (wdN f 6:Nat) (wdN f 7:Nat) (wdN f 8:Nat) m (Ret (plV (f))):=by
  unfold Zbl
  intro b1 m1 aW _ b2 m2 aY _ b3 m3 bR _ b4
  refine⟨fun i _ _=>if i=1 then KR a s c back else Ret (plV (f)),KR a s c back,rfl,ZeT a s c back m3,Zhx,?_⟩
  rintro g0 i0 c0 g1 i1 c1 g2 i2 c2 g3 i3 c3 g4 i4 c4 g5 i5 c5 g6 i6 c6 m5 cO ⟨b,hv,cH⟩
  simp only[Value.agg.injEq,Array.mk.injEq,List.cons.injEq,Value.func.injEq,Fn.func.injEq,and_true]at hv
  obtain⟨⟨rfl,rfl,rfl⟩,⟨rfl,rfl,rfl⟩,⟨rfl,rfl,rfl⟩,⟨rfl,rfl,rfl⟩,⟨rfl,rfl,rfl⟩,⟨rfl,rfl,rfl⟩,⟨rfl,rfl,rfl⟩⟩:=hv
  have hM:m.le m5:=Mem.le_trans aW (Mem.le_trans aY (Mem.le_trans bR cO))
  have bX:=Ztj t f m5
  rw[T.v,hk]at bX
  exact⟨⟨by omega,by omega⟩,Ret (plV (f)),rfl,bX,Za1,ZlX fun m6 dK M dD cW ic=>Zac (Mem.le_trans hM cW) rfl⟩
 have h:=Zdk a s.length c back t.s0 t.s1 t.s2 t.s3 t.mn t.mx t.a t.subs.length t.c (wdN f 0:Nat) (wdN f 1:Nat) (wdN f 2:Nat) (wdN f 3:Nat) (wdN f 4:Nat) (wdN f 5:Nat) (wdN f 6:Nat) (wdN f 7:Nat) (wdN f 8:Nat) m _ key
 rw[T.v,hk]
 exact h
theorem Ztm(t:T)(a:Option Addr)(s:List Nat)(c:Nat)(back:Bool)(f:Nat)(m:Mem)(hr:Rep m t)(hb:Byt m a s)(hs:s.length≤512)(hf:f < ZbR)(hk:t.k=2):CX Try.prog 53 #[txV a s c back,t.v,plV f] m [] (Ret (plV (Zqq t back f s 0 0))):=by
 have key:Zbm a s.length c back t.s0 t.s1 t.s2 t.s3 t.mn t.mx t.a t.subs.length t.c (wdN f 0:Nat) (wdN f 1:Nat) (wdN f 2:Nat) (wdN f 3:Nat) (wdN f 4:Nat) (wdN f 5:Nat) (wdN f 6:Nat) (wdN f 7:Nat) (wdN f 8:Nat) m (Ret (plV (Zqq t back f s 0 0))):=by
  unfold Zbm
  intro b1 m1 aW _ b2 m2 aY _ b3 m3 bR _ b4
  refine⟨fun i _ _=>if i=1 then KR a s c back else Ret (plV (Zqq t back f s 0 0)),KR a s c back,rfl,ZeT a s c back m3,Zhx,?_⟩
  rintro g0 i0 c0 g1 i1 c1 g2 i2 c2 g3 i3 c3 g4 i4 c4 g5 i5 c5 g6 i6 c6 m5 cO ⟨b,hv,cH⟩
  simp only[Value.agg.injEq,Array.mk.injEq,List.cons.injEq,Value.func.injEq,Fn.func.injEq,and_true]at hv
  obtain⟨⟨rfl,rfl,rfl⟩,⟨rfl,rfl,rfl⟩,⟨rfl,rfl,rfl⟩,⟨rfl,rfl,rfl⟩,⟨rfl,rfl,rfl⟩,⟨rfl,rfl,rfl⟩,⟨rfl,rfl,rfl⟩⟩:=hv
  have hM:m.le m5:=Mem.le_trans aW (Mem.le_trans aY (Mem.le_trans bR cO))
  have bX:=Zti t a s c back f m5 (hr.mono hM) (hb.mono hM) hs
  rw[T.v,hk]at bX
  exact⟨⟨by omega,by omega⟩,Ret (plV (Zqq t back f s 0 0)),rfl,bX,Za1,ZlX fun m6 dK M dD cW ic=>Zac (Mem.le_trans hM cW) rfl⟩
 have h:=Zdl a s.length c back t.s0 t.s1 t.s2 t.s3 t.mn t.mx t.a t.subs.length t.c (wdN f 0:Nat) (wdN f 1:Nat) (wdN f 2:Nat) (wdN f 3:Nat) (wdN f 4:Nat) (wdN f 5:Nat) (wdN f 6:Nat) (wdN f 7:Nat) (wdN f 8:Nat) m _ key
 rw[T.v,hk]
 exact h
theorem Ztn(t:T)(a:Option Addr)(s:List Nat)(c:Nat)(back:Bool)(f:Nat)(m:Mem)(hr:Rep m t)(hb:Byt m a s)(hs:s.length≤512)(hf:f < ZbR)(ih:IH a s c back t)(hk:t.k=3):CX Try.prog 53 #[txV a s c back,t.v,plV f] m [] (Ret (plV (if back then Ze6 s back t.subs f else ZfJ s back t.subs f))):=by
 have key:Zbn a s.length c back t.s0 t.s1 t.s2 t.s3 t.mn t.mx t.a t.subs.length t.c (wdN f 0:Nat) (wdN f 1:Nat) (wdN f 2:Nat) (wdN f 3:Nat) (wdN f 4:Nat) (wdN f 5:Nat) (wdN f 6:Nat) (wdN f 7:Nat) (wdN f 8:Nat) m (Ret (plV (if back then Ze6 s back t.subs f else ZfJ s back t.subs f))):=by
  unfold Zbn
  intro b1 m1 aW _ b2 m2 aY _ b3 m3 bR _ b4
  refine⟨fun i _ _=>if i=1 then KR a s c back else Ret (plV (if back then Ze6 s back t.subs f else ZfJ s back t.subs f)),KR a s c back,rfl,ZeT a s c back m3,Zhx,?_⟩
  rintro g0 i0 c0 g1 i1 c1 g2 i2 c2 g3 i3 c3 g4 i4 c4 g5 i5 c5 g6 i6 c6 m5 cO ⟨b,hv,cH⟩
  simp only[Value.agg.injEq,Array.mk.injEq,List.cons.injEq,Value.func.injEq,Fn.func.injEq,and_true]at hv
  obtain⟨⟨rfl,rfl,rfl⟩,⟨rfl,rfl,rfl⟩,⟨rfl,rfl,rfl⟩,⟨rfl,rfl,rfl⟩,⟨rfl,rfl,rfl⟩,⟨rfl,rfl,rfl⟩,⟨rfl,rfl,rfl⟩⟩:=hv
  have hM:m.le m5:=Mem.le_trans aW (Mem.le_trans aY (Mem.le_trans bR cO))
  have bX:=ZvU t a s c back f m5 (hr.mono hM) (hb.mono hM) hs ih hf b 0 cH
  rw[T.v,hk]at bX
  exact⟨⟨by omega,by omega⟩,Ret (plV (if back then Ze6 s back t.subs f else ZfJ s back t.subs f)),rfl,bX,Za1,ZlX fun m6 dK M dD cW ic=>Zac (Mem.le_trans hM cW) rfl⟩
 have h:=Zdm a s.length c back t.s0 t.s1 t.s2 t.s3 t.mn t.mx t.a t.subs.length t.c (wdN f 0:Nat) (wdN f 1:Nat) (wdN f 2:Nat) (wdN f 3:Nat) (wdN f 4:Nat) (wdN f 5:Nat) (wdN f 6:Nat) (wdN f 7:Nat) (wdN f 8:Nat) m _ key
 rw[T.v,hk]
 exact h
theorem Zto(t:T)(a:Option Addr)(s:List Nat)(c:Nat)(back:Bool)(f:Nat)(m:Mem)(hr:Rep m t)(hb:Byt m a s)(hs:s.length≤512)(hf:f < ZbR)(ih:IH a s c back t)(hk:t.k=4):CX Try.prog 53 #[txV a s c back,t.v,plV f] m [] (Ret (plV (ZoN s back t.subs f 0))):=by
 have key:Zbo a s.length c back t.s0 t.s1 t.s2 t.s3 t.mn t.mx t.a t.subs.length t.c (wdN f 0:Nat) (wdN f 1:Nat) (wdN f 2:Nat) (wdN f 3:Nat) (wdN f 4:Nat) (wdN f 5:Nat) (wdN f 6:Nat) (wdN f 7:Nat) (wdN f 8:Nat) m (Ret (plV (ZoN s back t.subs f 0))):=by
  unfold Zbo
  intro b1 m1 aW _ b2 m2 aY _ b3 m3 bR _ b4
  refine⟨fun i _ _=>if i=1 then KR a s c back else Ret (plV (ZoN s back t.subs f 0)),KR a s c back,rfl,ZeT a s c back m3,Zhx,?_⟩
  rintro g0 i0 c0 g1 i1 c1 g2 i2 c2 g3 i3 c3 g4 i4 c4 g5 i5 c5 g6 i6 c6 m5 cO ⟨b,hv,cH⟩
  simp only[Value.agg.injEq,Array.mk.injEq,List.cons.injEq,Value.func.injEq,Fn.func.injEq,and_true]at hv
  obtain⟨⟨rfl,rfl,rfl⟩,⟨rfl,rfl,rfl⟩,⟨rfl,rfl,rfl⟩,⟨rfl,rfl,rfl⟩,⟨rfl,rfl,rfl⟩,⟨rfl,rfl,rfl⟩,⟨rfl,rfl,rfl⟩⟩:=hv
  have hM:m.le m5:=Mem.le_trans aW (Mem.le_trans aY (Mem.le_trans bR cO))
  have bX:=ZvV t a s c back f m5 (hr.mono hM) (hb.mono hM) hs ih hf b 0 cH
  rw[T.v,hk]at bX
  exact⟨⟨by omega,by omega⟩,Ret (plV (ZoN s back t.subs f 0)),rfl,bX,Za1,ZlX fun m6 dK M dD cW ic=>Zac (Mem.le_trans hM cW) rfl⟩
 have h:=Zdn a s.length c back t.s0 t.s1 t.s2 t.s3 t.mn t.mx t.a t.subs.length t.c (wdN f 0:Nat) (wdN f 1:Nat) (wdN f 2:Nat) (wdN f 3:Nat) (wdN f 4:Nat) (wdN f 5:Nat) (wdN f 6:Nat) (wdN f 7:Nat) (wdN f 8:Nat) m _ key
 rw[T.v,hk]
 exact h
theorem Ztp(t:T)(a:Option Addr)(s:List Nat)(c:Nat)(back:Bool)(f:Nat)(m:Mem)(hr:Rep m t)(hb:Byt m a s)(hs:s.length≤512)(hf:f < ZbR)(ih:IH a s c back t)(x:T)(hx:t.subs=[x])(jC:0≤t.mn)(hk:t.k=5):CX Try.prog 53 #[txV a s c back,t.v,plV f] m [] (Ret (plV (Zuq (ZeJ s back t.subs) t.mn t.mx f))):=by
 have key:Zbp a s.length c back t.s0 t.s1 t.s2 t.s3 t.mn t.mx t.a t.subs.length t.c (wdN f 0:Nat) (wdN f 1:Nat) (wdN f 2:Nat) (wdN f 3:Nat) (wdN f 4:Nat) (wdN f 5:Nat) (wdN f 6:Nat) (wdN f 7:Nat) (wdN f 8:Nat) m (Ret (plV (Zuq (ZeJ s back t.subs) t.mn t.mx f))):=by
  unfold Zbp
  intro b1 m1 aW _ b2 m2 aY _ b3 m3 bR _ b4
  refine⟨fun i _ _=>if i=1 then KR a s c back else Ret (plV (Zuq (ZeJ s back t.subs) t.mn t.mx f)),KR a s c back,rfl,ZeT a s c back m3,Zhx,?_⟩
  rintro g0 i0 c0 g1 i1 c1 g2 i2 c2 g3 i3 c3 g4 i4 c4 g5 i5 c5 g6 i6 c6 m5 cO ⟨b,hv,cH⟩
  simp only[Value.agg.injEq,Array.mk.injEq,List.cons.injEq,Value.func.injEq,Fn.func.injEq,and_true]at hv
  obtain⟨⟨rfl,rfl,rfl⟩,⟨rfl,rfl,rfl⟩,⟨rfl,rfl,rfl⟩,⟨rfl,rfl,rfl⟩,⟨rfl,rfl,rfl⟩,⟨rfl,rfl,rfl⟩,⟨rfl,rfl,rfl⟩⟩:=hv
  have hM:m.le m5:=Mem.le_trans aW (Mem.le_trans aY (Mem.le_trans bR cO))
  have bX:=Zrz t a s c back f m5 (hr.mono hM) (hb.mono hM) hs ih hf x hx jC
  rw[T.v,hk]at bX
  exact⟨⟨by omega,by omega⟩,Ret (plV (Zuq (ZeJ s back t.subs) t.mn t.mx f)),rfl,bX,Za1,ZlX fun m6 dK M dD cW ic=>Zac (Mem.le_trans hM cW) rfl⟩
 have h:=Zdo a s.length c back t.s0 t.s1 t.s2 t.s3 t.mn t.mx t.a t.subs.length t.c (wdN f 0:Nat) (wdN f 1:Nat) (wdN f 2:Nat) (wdN f 3:Nat) (wdN f 4:Nat) (wdN f 5:Nat) (wdN f 6:Nat) (wdN f 7:Nat) (wdN f 8:Nat) m _ key
 rw[T.v,hk]
 exact h
theorem Ztq(t:T)(a:Option Addr)(s:List Nat)(c:Nat)(back:Bool)(f:Nat)(m:Mem)(hr:Rep m t)(hb:Byt m a s)(hs:s.length≤512)(hf:f < ZbR)(ih:IH a s c back t)(x:T)(hx:t.subs=[x])(hk:t.k=6):CX Try.prog 53 #[txV a s c back,t.v,plV f] m [] (Ret (plV (ZeJ s back t.subs f))):=by
 have key:Zbq a s.length c back t.s0 t.s1 t.s2 t.s3 t.mn t.mx t.a t.subs.length t.c (wdN f 0:Nat) (wdN f 1:Nat) (wdN f 2:Nat) (wdN f 3:Nat) (wdN f 4:Nat) (wdN f 5:Nat) (wdN f 6:Nat) (wdN f 7:Nat) (wdN f 8:Nat) m (Ret (plV (ZeJ s back t.subs f))):=by
  unfold Zbq
  intro b1 m1 aW _ b2 m2 aY _ b3 m3 bR _ b4
  refine⟨fun i _ _=>if i=1 then KR a s c back else Ret (plV (ZeJ s back t.subs f)),KR a s c back,rfl,ZeT a s c back m3,Zhx,?_⟩
  rintro g0 i0 c0 g1 i1 c1 g2 i2 c2 g3 i3 c3 g4 i4 c4 g5 i5 c5 g6 i6 c6 m5 cO ⟨b,hv,cH⟩
  simp only[Value.agg.injEq,Array.mk.injEq,List.cons.injEq,Value.func.injEq,Fn.func.injEq,and_true]at hv
  obtain⟨⟨rfl,rfl,rfl⟩,⟨rfl,rfl,rfl⟩,⟨rfl,rfl,rfl⟩,⟨rfl,rfl,rfl⟩,⟨rfl,rfl,rfl⟩,⟨rfl,rfl,rfl⟩,⟨rfl,rfl,rfl⟩⟩:=hv
  have hM:m.le m5:=Mem.le_trans aW (Mem.le_trans aY (Mem.le_trans bR cO))
  have bX:=ZvW t a s c back f m5 (hr.mono hM) (hb.mono hM) hs ih hf x hx b 0 cH
  rw[T.v,hk]at bX
  exact⟨⟨by omega,by omega⟩,Ret (plV (ZeJ s back t.subs f)),rfl,bX,Za1,ZlX fun m6 dK M dD cW ic=>Zac (Mem.le_trans hM cW) rfl⟩
 have h:=Zdp a s.length c back t.s0 t.s1 t.s2 t.s3 t.mn t.mx t.a t.subs.length t.c (wdN f 0:Nat) (wdN f 1:Nat) (wdN f 2:Nat) (wdN f 3:Nat) (wdN f 4:Nat) (wdN f 5:Nat) (wdN f 6:Nat) (wdN f 7:Nat) (wdN f 8:Nat) m _ key
 rw[T.v,hk]
 exact h
theorem Zn8(a:Option Addr)(s:List Nat)(c:Nat)(back:Bool)(hs:s.length≤512)(t:T)(hw:t.walks)(f:Nat)(m:Mem)(hf:f < ZbR)(hr:Rep m t)(hb:Byt m a s):CX Try.prog 53 #[txV a s c back,t.v,plV f] m [] (Ret (plV (t.lead s back f))):=by
 have ih:t.k≠0→IH a s c back t:=fun h0 x hx f m hf hr hb=>by
  have bT:=Zeh hx
  exact Zn8 a s c back hs x (Zq3 hw h0 hx) f m hf hr hb
 by_cases k0:t.k=0
 ·rw[ZvG k0];exact Ztk t a s c back f m hr hb hs hf k0
 have hR:t.right=true:=by
  rcases hw with h|h
  ·exact absurd h k0
  ·exact h t (by rw[Zbf];simp)
 have ih:=ih k0
 by_cases k1:t.k=1
 ·rw[Zur k1];exact Ztl t a s c back f m hr hb hs hf k1
 by_cases k2:t.k=2
 ·rw[Zus k2];exact Ztm t a s c back f m hr hb hs hf k2
 by_cases k3:t.k=3
 ·rw[Zs0 k3];exact Ztn t a s c back f m hr hb hs hf ih k3
 by_cases k4:t.k=4
 ·rw[Zut k4];exact Zto t a s c back f m hr hb hs hf ih k4
 unfold T.right at hR
 rw[Bool.and_eq_true]at hR
 replace hR:=hR.2
 rw[if_neg k1,if_neg k2,if_neg k3,if_neg k4]at hR
 by_cases k5:t.k=5
 ·rw[if_pos k5,Bool.and_eq_true,Bool.and_eq_true]at hR
  obtain⟨x,hx⟩:=Zsr hR.1
  have jC:0≤t.mn:=by
   have:=hR.2.1
   simp[Zdh]at this
   omega
  rw[Zuu k5];exact Ztp t a s c back f m hr hb hs hf ih x hx jC k5
 rw[if_neg k5,Bool.and_eq_true]at hR
 have k6:t.k=6:=by simpa using hR.1
 obtain⟨x,hx⟩:=Zsr hR.2
 rw[Zuv k6];exact Ztq t a s c back f m hr hb hs hf ih x hx k6
termination_by SizeOf.sizeOf t
decreasing_by exact bT
end Go.Proofs.Ythiefodednaikaa
set_option linter.unusedVariables false
set_option linter.unusedSimpArgs false
set_option linter.unusedSectionVars false
namespace Go.Proofs.Ythiefodednaikaa
open Go Go.Eng Go.Rx Go.Proofs Go.RowKit
set_option maxRecDepth 100000
theorem Zhy(t:T)(a:Option Addr)(len c:Nat)(i:Int)(m:Mem)(hr:Rep m t):CX Try.prog 52 #[t.v,.slice a len c,.int .i64 i] m [] (Ret (.int .i64 (t.wrong len i))):=by
 apply Zhr
 unfold Zet
 intro b m1 aW _
 refine⟨t.isNone,Zab (fun h=>Zak (ZuO t T0 m1 (hr.mono aW) (ZvI m1)) fun m2 aY=>⟨by trivial,ZaL ?_⟩) (fun h=>⟨by trivial,ZaL ?_⟩),!t.isNone&&!(t.check == 0),Zab (fun h=>Zat (ZmB false false t m1 (hr.mono aW)) fun m2 aY=>⟨by trivial,ZaL ?_⟩) (fun h=>⟨by trivial,ZaL ?_⟩),Zab (fun h=>Zac aW ?_) (fun h=>Zab (fun h1=>Zac aW ?_) (fun h1=>⟨decide (i < 0)||decide (i > len),Zab (fun h2=>⟨by trivial,ZaL ?_⟩) (fun h2=>⟨by trivial,ZaL ?_⟩),Zab (fun h3=>Zac aW ?_) (fun h3=>Zac aW ?_)⟩))⟩
 ·unfold T.isNone;rw[h];rfl
 ·unfold T.isNone;rw[h];rfl
 ·rw[h];rfl
 ·rw[h];rfl
 ·unfold T.wrong;rw[if_pos h]
 ·unfold T.wrong;rw[if_neg (by rw[h];decide),if_pos (of_decide_eq_true h1)]
 ·rw[h2];rfl
 ·rw[h2];rfl
 ·unfold T.wrong;rw[if_neg (by rw[h];decide),if_neg (of_decide_eq_false h1),if_pos (by simpa using h3)]
 ·unfold T.wrong;rw[if_neg (by rw[h];decide),if_neg (of_decide_eq_false h1),if_neg (by simpa using h3)]
def Zkq(l:List Nat):List Value:=l.map fun i:Nat=>.int .i64 (i:Nat)
def ZuV(e:Int)(l:List Nat):Value→Mem→List (List Value)→Prop:=fun v m' _=>∃a c,v=.tuple #[.slice a l.length c,.int .i64 e]∧rowRd m' a (Zkq l)
theorem ZfP{e l}:∀(v:Value)(m':Mem) (css:List (List Value)),ZuV e l v m' css→Shape.fits (.tup [.slice,.int .i64]) v=true:=fun v _ _ ⟨a,c,h,_⟩=>by rw[h];rfl
def T.list(t:T)(s:List Nat)(i:Int)(back:Bool):List Nat:=if t.wrong s.length i=0 then Zcs (t.lead s back (2 ^ i.toNat))else[]
theorem Zpa{l:List Nat}{q i:Nat}(h:l[q]?=some i):Zkq (l.take q)++[.int .i64 (i:Nat)]=Zkq (l.take (q+1)):=by
 unfold Zkq
 rw[Zjn h,List.map_append];rfl
theorem Zss(t:T)(a:Option Addr)(s:List Nat)(c:Nat)(i:Int)(back:Bool)(m:Mem)(hr:Rep m t)(hb:t.wrong s.length i=0→Byt m a s):CX Try.prog 47 #[t.v,.slice a s.length c,.int .i64 i,.bool back] m [] (ZuV (t.wrong s.length i) (T.list t s i back)):=by
 apply Zit
 unfold Zfc
 intro b m1 aW _
 refine Zat (Zhy t a s.length c i m1 (hr.mono aW)) fun m2 aY=>Zab (fun h=>?_) (fun h b1=>?_)
 ·have h':¬t.wrong s.length i=0:=by simpa using h
  refine Zac (Mem.le_trans aW aY) ⟨none,0,?_,.inl ?_⟩ <;> unfold T.list <;> rw[if_neg h'] <;> rfl
 ·have h':t.wrong s.length i=0:=by simpa using h
  obtain⟨hw,hs,kT,eQ⟩:=Zlf h'
  obtain⟨n,rfl⟩:∃n:Nat,i=n:=⟨i.toNat,by omega⟩
  have cW:m.le m2:=Mem.le_trans aW aY
  have iW:(2:Nat) ^ n < ZbR:=Zsa (by omega)
  refine⟨fun j _ _=>if j=5 then Ret (plV (2 ^ n))else Ret (plV (t.lead s back (2 ^ n))),Ret (plV (2 ^ n)),rfl,ZtT n (by omega) m2,Za1,ZlX fun m3 bR=>⟨Ret (plV (t.lead s back (2 ^ n))),rfl,Zn8 a s c back hs t hw (2 ^ n) m3 iW (hr.mono (Mem.le_trans cW bR)) ((hb h').mono (Mem.le_trans cW bR)),Za1,ZlX fun m4 cF b2 M dD ic dO m5 cO dT=>Zan (ZuS (t.lead s back (2 ^ n)) b2 m5 dT) (fun v _ _ ⟨c,e,_⟩=>by rw[e];rfl) ?_⟩⟩
  rintro g fi ca m6 dK ⟨cb,hv,mj⟩
  simp only[Value.func.injEq,Fn.func.injEq,Array.mk.injEq]at hv
  obtain⟨rfl,rfl,rfl⟩:=hv
  have iX:m.le m6:=Mem.le_trans cW (Mem.le_trans dD (Mem.le_trans cO dK))
  have hL:T.list t s (n:Int) back=Zcs (t.lead s back (2 ^ n)):=by unfold T.list;rw[if_pos h'];rfl
  rw[hL,h']
  generalize hX:Zcs (t.lead s back (2 ^ n))=X
  have s5:X.length≤513:=by rw[←hX];exact Zs2 _
  refine⟨X.map fun i=>[.int .i64 (i:Nat)],?_,?_,?_⟩
  ·rw[←hX];exact Zsp _ b2 cb m6 (dT.mono dK) mj
  ·intro x hx
   obtain⟨y,_,rfl⟩:=List.mem_map.1 hx
   rfl
  refine⟨fun xs css tvs m' q=>∃a' c',css=[[.slice a' q c']]∧tvs=[.slice a' q c']∧rowRd m' a' (Zkq (X.take q)),⟨none,0,rfl,rfl,.inl rfl⟩,?_,?_⟩
  ·rintro z cs a1 n1 c1 m7 q eA hq ⟨a',c',cR,j3,cJ⟩
   obtain rfl:cs=[.slice a' q c']:=by simpa using cR
   obtain⟨rfl,rfl,rfl⟩:a1=a'∧n1=q∧c1=c':=by simpa using j3
   have hq':(X.map fun i=>[Value.int .i64 (i:Nat)])[(n1:Nat)]?=some [.int .i64 z]:=hq
   rw[List.getElem?_map]at hq'
   obtain⟨y,hy,hz⟩:=Option.map_eq_some_iff.1 hq'
   obtain rfl:z=y:=(Zr5 hz).symm
   have bA:=(List.getElem?_eq_some_iff.1 hy).1
   refine Zag rfl fun b3 bS=>Zaa rfl ⟨.inl rfl,Zkq (X.take n1),[.int .i64 y],?_,rfl,cJ.mono (Mem.le_add bS _),.inr ⟨b3,0,rfl,?_⟩,?_,?_,?_,?_⟩
   ·simp[Zkq,slN];omega
   ·intro j v hj;rw[Nat.zero_add,Mem.add_same];exact hj
   ·intro u hu;obtain rfl:u=.int .i64 y:=by simpa using hu
    rfl
   ·simp only[slN];omega
   ·simp only[slN];omega
   ·intro a2 c2 m8 qj mu
    refine⟨by trivial,a2,c2,rfl,rfl,?_⟩
    rw[←Zpa hy];exact mu
  ·rintro cs a1 n1 c1 m7 eA ⟨a',c',cR,j3,cJ⟩
   rw[List.length_map]at cR j3 cJ
   obtain rfl:cs=[.slice a' X.length c']:=by simpa using cR
   rw[List.take_length]at cJ
   exact Zag rfl ⟨m7,Mem.le_trans iX eA,Mem.le_refl _,a',c',rfl,cJ⟩
theorem ZuW(t:T)(a:Option Addr)(s:List Nat)(c:Nat)(i:Int)(m:Mem)(hr:Rep m t)(hb:t.wrong s.length i=0→Byt m a s):CX Try.prog 14 #[t.v,.slice a s.length c,.int .i64 i] m [] (ZuV (t.wrong s.length i) (T.list t s i false)):=by
 apply Ziu
 unfold Zfd
 intro b m1 aW _
 refine Zan (Zss t a s c i false m1 (hr.mono aW) (fun h=>(hb h).mono aW)) ZfP ?_
 intro a1 n1 c1 e1 m2 aY h
 exact⟨m2,Mem.le_trans aW aY,Mem.le_refl _,h⟩
theorem ZrA(t:T)(a:Option Addr)(s:List Nat)(c:Nat)(i:Int)(m:Mem)(hr:Rep m t)(hb:t.wrong s.length i=0→Byt m a s):CX Try.prog 15 #[t.v,.slice a s.length c,.int .i64 i] m [] (ZuV (t.wrong s.length i) (T.list t s i true)):=by
 apply ZgF
 unfold ZdE
 intro b m1 aW _
 refine Zan (Zss t a s c i true m1 (hr.mono aW) (fun h=>(hb h).mono aW)) ZfP ?_
 intro a1 n1 c1 e1 m2 aY h
 exact⟨m2,Mem.le_trans aW aY,Mem.le_refl _,h⟩
def T.matches(t:T)(s:List Nat):Bool:=t.wrong s.length 0 == 0&&(t.lead s false 1).testBit s.length
theorem Zia(t:T)(a:Option Addr)(s:List Nat)(c:Nat)(m:Mem)(hr:Rep m t)(hb:t.wrong s.length 0=0→Byt m a s):CX Try.prog 19 #[t.v,.slice a s.length c] m [] (Ret (.tuple #[.bool (T.matches t s),.int .i64 (t.wrong s.length 0)])):=by
 apply ZfO
 unfold Zc1
 intro b m1 aW _
 refine Zat (Zhy t a s.length c 0 m1 (hr.mono aW)) fun m2 aY=>Zab (fun h=>?_) (fun h=>?_)
 ·have h':¬t.wrong s.length 0=0:=by simpa using h
  refine Zac (Mem.le_trans aW aY) ?_
  unfold T.matches
  rw[show(t.wrong s.length 0 == 0)=false by simpa using h'];rfl
 ·have h':t.wrong s.length 0=0:=by simpa using h
  obtain⟨hw,hs,kT,eQ⟩:=Zlf h'
  have cW:m.le m2:=Mem.le_trans aW aY
  have iW:(2:Nat) ^ 0 < ZbR:=Zsa (by omega)
  refine⟨fun j _ _=>if j=3 then Ret (plV (2 ^ 0))else Ret (plV (t.lead s false (2 ^ 0))),Ret (plV (2 ^ 0)),rfl,ZtT 0 (by omega) m2,Za1,ZlX fun m3 bR=>⟨Ret (plV (t.lead s false (2 ^ 0))),rfl,Zn8 a s c false hs t hw (2 ^ 0) m3 iW (hr.mono (Mem.le_trans cW bR)) ((hb h').mono (Mem.le_trans cW bR)),Za1,ZlX fun m4 cF b2 M dD ic dO m5 cO dT=>Zak (Zlx (t.lead s false (2 ^ 0)) s.length (by omega) b2 m5 dT) fun m6 dK=>Zac (Mem.le_trans cW (Mem.le_trans dD (Mem.le_trans cO dK))) ?_⟩⟩
  unfold T.matches
  rw[h'];rfl
theorem Ztr(r:Rg)(a:Option Addr)(len c:Nat)(n:Int)(m:Mem)(hr:Rep m r.t):CX Try.prog 48 #[r.v,.slice a len c,.int .i64 n] m [] (Ret (.int .i64 (Rg.wrong r len n))):=by
 apply Zht
 unfold Zeu
 intro b m1 aW _
 refine Zat (ZmB r.bg r.en r.t m1 (hr.mono aW)) fun m2 aY=>Zab (fun h=>Zac (Mem.le_trans aW aY) ?_) (fun h=>Zat (Zhy r.t a len c n m2 (hr.mono (Mem.le_trans aW aY))) fun m3 bR=>Zac (Mem.le_trans aW (Mem.le_trans aY bR)) ?_)
 ·unfold Rg.wrong;rw[if_neg (by simpa using h)]
 ·unfold Rg.wrong;rw[if_pos (by simpa using h)]
theorem Zst(r:Rg)(a:Option Addr)(s:List Nat)(c:Nat)(n:Nat)(m:Mem)(hw:r.t.walks)(hs:s.length≤512)(hn:n≤s.length)(hr:Rep m r.t)(hb:Byt m a s):CX Try.prog 49 #[r.v,.slice a s.length c,.int .i64 n] m [] (Ret (.tuple (Zlh (r.from s n)).toArray)):=by
 apply Ziw
 unfold Zfe
 intro b m1 aW _ b1 m2 aY _ b2 b3
 have cW:m.le m2:=Mem.le_trans aW aY
 refine⟨r.en&&decide ((n:Int) < s.length),Zab (fun h=>⟨by trivial,ZaL (by rw[h];rfl)⟩) (fun h=>⟨by trivial,ZaL (by rw[h];rfl)⟩),Zab (fun h=>Zac cW ?_) (fun h=>?_)⟩
 ·unfold Rg.from;rw[if_pos h];rfl
 ·have iW:(2:Nat) ^ n < ZbR:=Zsa (by omega)
  refine⟨fun j _ _=>if j=5 then Ret (plV (2 ^ n))else Ret (plV (r.t.lead s true (2 ^ n))),Ret (plV (2 ^ n)),rfl,ZtT n (by omega) m2,Za1,ZlX fun m3 bR=>⟨Ret (plV (r.t.lead s true (2 ^ n))),rfl,Zn8 a s c true hs r.t hw (2 ^ n) m3 iW (hr.mono (Mem.le_trans cW bR)) (hb.mono (Mem.le_trans cW bR)),Za1,ZlX fun m4 cF b2 M dD ic dO=>Zab (fun pk m5 cO dT=>Zak (Zlx (r.t.lead s true (2 ^ n)) 0 (by omega) b2 m5 dT) fun m6 dK=>Zac (Mem.le_trans cW (Mem.le_trans dD (Mem.le_trans cO dK))) ?_) (fun pk m5 cO dT=>Zan (ZuS (r.t.lead s true (2 ^ n)) b2 m5 dT) (fun v _ _ ⟨c,e,_⟩=>by rw[e];rfl) ?_)⟩⟩
  ·unfold Rg.from;rw[if_neg (by rw[h];decide),if_pos pk]
   cases(r.t.lead s true (2 ^ n)).testBit 0 <;> rfl
  rintro g fi ca m6 dK ⟨cb,hv,mj⟩
  simp only[Value.func.injEq,Fn.func.injEq,Array.mk.injEq]at hv
  obtain⟨rfl,rfl,rfl⟩:=hv
  have iX:m.le m6:=Mem.le_trans cW (Mem.le_trans dD (Mem.le_trans cO dK))
  have hF:r.from s n=Zlg n (Zcs (r.t.lead s true (2 ^ n))):=by
   unfold Rg.from;rw[if_neg (by rw[h];decide),if_neg (by rw[pk];decide)]
  refine⟨(Zcs (r.t.lead s true (2 ^ n))).map fun i=>[.int .i64 (i:Nat)],Zsp _ b2 cb m6 (dT.mono dK) mj,?_,?_⟩
  ·intro x hx
   obtain⟨y,_,rfl⟩:=List.mem_map.1 hx
   rfl
  rw[hF]
  generalize Zcs (r.t.lead s true (2 ^ n))=X
  refine⟨fun xs css tvs m' q=>q=0,rfl,?_,?_⟩
  ·intro z cs cs1 m7 q eA hq nh
   have hq':(X.map fun i=>[Value.int .i64 (i:Nat)])[(q:Nat)]?=some [.int .i64 z]:=hq
   rw[nh,List.getElem?_map]at hq'
   obtain⟨y,hy,hz⟩:=Option.map_eq_some_iff.1 hq'
   obtain rfl:z=y:=(Zr5 hz).symm
   cases X with
   | nil=>simp at hy
   | cons x X=>
    obtain rfl:x=y:=by simpa using hy
    refine Zab (fun jm=>⟨by trivial,Zac (Mem.le_trans iX eA) ?_⟩) (fun cI=>⟨by trivial,Zac (Mem.le_trans iX eA) ?_⟩)
    ·have:x > n:=by have:=of_decide_eq_true jm;omega
     show _=Value.tuple (Zlh (if x > n then none else some x)).toArray
     rw[if_pos this];rfl
    ·have:¬x > n:=by have:=of_decide_eq_false cI;omega
     show _=Value.tuple (Zlh (if x > n then none else some x)).toArray
     rw[if_neg this];rfl
  ·intro cs cs1 m7 eA nh
   cases X with
   | nil=>exact Zac (Mem.le_trans iX eA) rfl
   | cons x X=>simp at nh
def ZfQ(r:Rg)(s:List Nat)(n:Int):Option Nat:=if Rg.wrong r s.length n=0 then r.from s n.toNat else none
theorem Zts{r:Rg}{len:Nat}{n:Int}(h:Rg.wrong r len n=0):r.t.walks∧len≤512∧0≤n∧n≤len:=by
 unfold Rg.wrong at h
 split at h
 ·exact Zlf h
 ·exact absurd h (by decide)
theorem Zqc(o:Option Nat):∃i b,Zlh o=[.int .i64 i,.bool b]:=by cases o <;> exact⟨_,_,rfl⟩
theorem Zqd(r:Rg)(a:Option Addr)(s:List Nat)(c:Nat)(n:Int)(m:Mem)(hr:Rep m r.t)(hb:Rg.wrong r s.length n=0→Byt m a s):CX Try.prog 17 #[r.v,.slice a s.length c,.int .i64 n] m [] (Ret (.tuple (Zlh (ZfQ r s n)++[Value.int .i64 (Rg.wrong r s.length n)]).toArray)):=by
 apply Zix
 unfold Zff
 intro b m1 aW _
 refine Zat (Ztr r a s.length c n m1 (hr.mono aW)) fun m2 aY=>Zab (fun h=>Zac (Mem.le_trans aW aY) ?_) (fun h=>?_)
 ·unfold ZfQ;rw[if_neg (by simpa using h)];rfl
 ·have h':Rg.wrong r s.length n=0:=by simpa using h
  obtain⟨hw,hs,kT,eQ⟩:=Zts h'
  obtain⟨k,rfl⟩:∃k:Nat,n=k:=⟨n.toNat,by omega⟩
  have cW:m.le m2:=Mem.le_trans aW aY
  have hE:ZfQ r s (k:Int)=r.from s k:=by unfold ZfQ;rw[if_pos h'];rfl
  rw[hE,h']
  refine Zan (Zst r a s c k m2 hw hs (by omega) (hr.mono cW) ((hb h').mono cW)) (fun v _ _ e=>by rw[e];obtain⟨i,b,e⟩:=Zqc (r.from s k);rw[e];rfl) ?_
  intro i bb m3 bR e
  refine Zac (Mem.le_trans cW bR) ?_
  have e':Zlh (r.from s k)=[.int .i64 i,.bool bb]:=by
   have:=(Value.tuple.injEq _ _).mp e
   simpa using(congrArg Array.toList this).symm
  rw[e'];rfl
theorem ZmC(r:Rg)(a:Option Addr)(s:List Nat)(c:Nat)(n:Int)(m:Mem)(hr:Rep m r.t)(hb:Rg.wrong r s.length n=0→Byt m a s):CX Try.prog 16 #[r.v,.slice a s.length c,.int .i64 n] m [] (Ret (.tuple #[.bool (ZfQ r s n).isSome,.int .i64 (Rg.wrong r s.length n)])):=by
 apply Zhu
 unfold Zev
 intro b m1 aW _
 refine Zan (Zqd r a s c n m1 (hr.mono aW) (fun h=>(hb h).mono aW)) (fun v _ _ e=>by rw[e];cases ZfQ r s n <;> rfl) ?_
 intro i bb e m2 aY he
 refine Zac (Mem.le_trans aW aY) ?_
 cases hF:ZfQ r s n with
 | none=>
  rw[hF]at he
  have:=(Value.tuple.injEq _ _).mp he
  have:=congrArg Array.toList this
  simp[Zlh]at this
  obtain⟨rfl,rfl,rfl⟩:=this
  rfl
 | some j=>
  rw[hF]at he
  have:=(Value.tuple.injEq _ _).mp he
  have:=congrArg Array.toList this
  simp[Zlh]at this
  obtain⟨rfl,rfl,rfl⟩:=this
  rfl
end Go.Proofs.Ythiefodednaikaa
set_option linter.unusedVariables false
set_option linter.unusedSimpArgs false
set_option linter.unusedSectionVars false
namespace Go.Proofs.Ythiefodednaikaa
open Go Go.Eng Go.Rx Go.Proofs Go.RowKit
set_option maxRecDepth 100000
theorem Rgs.get{m:Mem}{a l}(h:Rgs m a l){i:Nat}{r:Rg}(hi:l[i]?=some r):(∃b o,a=some ⟨b,o,none⟩∧m.reads b (o+i*10) r.cs)∧Rep m r.t:=by
 refine⟨?_,h.2.2 r (List.mem_of_getElem? hi)⟩
 rcases h.2.1 with h|⟨b,o,h1,h2⟩
 ·subst h;simp at hi
 ·exact⟨b,o,h1,h2 i r hi⟩
theorem Zqe(l:List Rg)(al:Option Addr)(cl:Nat)(a:Option Addr)(len c:Nat)(n:Int)(m:Mem)(hl:l.length≤64→Rgs m al l):CX Try.prog 50 #[.slice al l.length cl,.slice a len c,.int .i64 n] m [] (Ret (.int .i64 (ZaY l len n))):=by
 apply Zhv
 unfold Zew
 refine Zab (fun h=>Zac (Mem.le_refl _) ?_) (fun h=>?_)
 ·unfold ZaY;rw[if_pos (of_decide_eq_true h)]
 have gF:¬((l.length:Int) > 64):=of_decide_eq_false h
 refine⟨fun xs css _ m' q=>∃k:Nat,k≤l.length∧xs=[.int .i64 k]∧(l.take k).all (fun r=>r.t.check == 0)=true∧m.le m'∧q=l.length - k,⟨_,0,by omega,rfl,rfl,Mem.le_refl _,rfl⟩,?_⟩
 rintro z m1 q aW ⟨k,hk,hz,bM,_,hq⟩
 obtain rfl:z=k:=by simpa using hz
 refine Zab (fun bA=>?_) (fun cN=>?_)
 ·have aX:k < l.length:=by have:=of_decide_eq_true bA;omega
  obtain⟨r,hr⟩:=Zfb aX
  obtain⟨⟨b,o,ha,hv⟩,gO⟩:=Rgs.get ((hl (by omega)).mono aW) hr
  have hw:IntKind.i64.wrap ((k:Int)+1)=((k+1:Nat):Int):=by rw[Zap (by omega) (by omega)];rfl
  simp only[hw,Int.toNat_natCast]
  refine⟨b,o,ha,⟨by omega,by omega⟩,_,_,_,_,_,_,_,_,_,_,hv,fun b2=>Zaa rfl (Zat (ZmB r.bg r.en r.t m1 gO) fun m2 aY=>Zab (fun hc=>Zac (Mem.le_trans aW aY) ?_) (fun hc=>⟨l.length - (k+1),by omega,k+1,by omega,rfl,?_,Mem.le_trans aW aY,rfl⟩))⟩
  ·unfold ZaY
   rw[if_neg gF,if_neg]
   intro gP
   rw[List.all_eq_true]at gP
   have:=gP r (List.mem_of_getElem? hr)
   rw[this]at hc;cases hc
  ·rw[Zjn hr,List.all_append,bM]
   simp at hc
   simp[hc]
 ·have:k=l.length:=by have:=of_decide_eq_false cN;omega
  subst this
  rw[List.take_length]at bM
  refine Zat (Zhy T1 a len c n m1 (ZvJ m1)) fun m2 aY=>Zac (Mem.le_trans aW aY) ?_
  unfold ZaY
  rw[if_neg gF,if_pos bM]
theorem Zn9(n:Nat)(o:Option (Nat×Nat)):∃x y z b,Zq4 n o=[.agg #[.int .i64 x,.int .i64 y,.int .i64 z],.bool b]:=by cases o <;> exact⟨_,_,_,_,rfl⟩
theorem Zsu(l:List Rg)(al:Option Addr)(cl:Nat)(a:Option Addr)(s:List Nat)(c n:Nat)(m:Mem)(hw:∀r∈l,r.t.walks)(hs:s.length≤512)(hn:n≤s.length)(hl:Rgs m al l)(hb:Byt m a s):CX Try.prog 51 #[.slice al l.length cl,.slice a s.length c,.int .i64 n] m [] (Ret (.tuple (Zq4 n (ZdD s n l 0)).toArray)):=by
 have bQ:=hl.1
 apply ZiA
 unfold Zfg
 intro b
 generalize hG:ZdD s n l 0=G
 refine⟨fun xs css _ m' q=>∃k:Nat,k≤l.length∧xs=[.int .i64 k]∧ZdD s n (l.drop k) k=G∧m.le m'∧q=l.length - k,⟨_,0,by omega,rfl,hG,Mem.le_refl _,rfl⟩,?_⟩
 rintro z cs m1 q aW ⟨k,hk,hz,cY,_,hq⟩
 obtain rfl:z=k:=by simpa using hz
 refine Zab (fun bA=>?_) (fun cN=>?_)
 ·have aX:k < l.length:=by have:=of_decide_eq_true bA;omega
  obtain⟨r,hr⟩:=Zfb aX
  obtain⟨⟨b1,o,ha,hv⟩,gO⟩:=Rgs.get (hl.mono aW) hr
  have gK:IntKind.i64.wrap ((k:Int)+1)=((k+1:Nat):Int):=by rw[Zap (by omega) (by omega)];rfl
  simp only[gK,Int.toNat_natCast]
  rw[Zjm hr]at cY
  unfold ZdD at cY
  refine⟨b1,o,ha,⟨by omega,by omega⟩,_,_,_,_,_,_,_,_,_,_,hv,fun b2=>Zaa rfl (Zan (Zst r a s c n m1 (hw r (List.mem_of_getElem? hr)) hs hn gO (hb.mono aW)) (fun v _ _ e=>by rw[e];obtain⟨i,b,e⟩:=Zqc (r.from s n);rw[e];rfl) ?_)⟩
  intro i bb m2 aY e
  cases hF:r.from s n with
  | none=>
   rw[hF]at e cY
   have:=congrArg Array.toList ((Value.tuple.injEq _ _).mp e)
   simp[Zlh]at this
   obtain⟨rfl,rfl⟩:=this
   exact Zj3 (x:=false) rfl ⟨by trivial,l.length - (k+1),by omega,k+1,by omega,rfl,cY,Mem.le_trans aW aY,rfl⟩
  | some j=>
   rw[hF]at e cY
   have:=congrArg Array.toList ((Value.tuple.injEq _ _).mp e)
   simp[Zlh]at this
   obtain⟨rfl,rfl⟩:=this
   refine Zj3 (x:=true) rfl (Zac (Mem.le_trans aW aY) ?_)
   rw[←cY];rfl
 ·have:k=l.length:=by have:=of_decide_eq_false cN;omega
  subst this
  rw[List.drop_length]at cY
  refine Zac aW ?_
  rw[←cY];rfl
theorem Zoa{l:List Rg}{len:Nat}{n:Int}(h:ZaY l len n=0):l.length≤64:=by
 unfold ZaY at h
 split at h
 ·exact absurd h (by decide)
 ·omega
theorem Zkr{l:List Rg}{len:Nat}{n:Int}(h:ZaY l len n=0):(∀r∈l,r.t.walks)∧len≤512∧0≤n∧n≤len:=by
 unfold ZaY at h
 split at h
 ·exact absurd h (by decide)
 ·split at h
  ·rename_i bM
   refine⟨fun r hr=>Ze7 ?_,(Zlf h).2⟩
   simpa using List.all_eq_true.1 bM r hr
  ·exact absurd h (by decide)
def Zob(l:List Rg)(s:List Nat)(n:Int):Option (Nat×Nat):=if ZaY l s.length n=0 then ZdD s n.toNat l 0 else none
theorem ZuX(l:List Rg)(al:Option Addr)(cl:Nat)(a:Option Addr)(s:List Nat)(c:Nat)(n:Int)(m:Mem)(hl:l.length≤64→Rgs m al l)(hb:ZaY l s.length n=0→Byt m a s):CX Try.prog 18 #[.slice al l.length cl,.slice a s.length c,.int .i64 n] m [] (Ret (.tuple (Zq4 n.toNat (Zob l s n)++[Value.int .i64 (ZaY l s.length n)]).toArray)):=by
 apply ZiB
 unfold Zfh
 intro b
 refine Zat (Zqe l al cl a s.length c n m hl) fun m1 aW=>Zab (fun h=>Zac aW ?_) (fun h=>?_)
 ·unfold Zob;rw[if_neg (by simpa using h)];rfl
 ·have h':ZaY l s.length n=0:=by simpa using h
  obtain⟨hw,hs,kT,eQ⟩:=Zkr h'
  obtain⟨k,rfl⟩:∃k:Nat,n=k:=⟨n.toNat,by omega⟩
  have hE:Zob l s (k:Int)=ZdD s k l 0:=by unfold Zob;rw[if_pos h'];rfl
  rw[hE,h',Int.toNat_natCast]
  refine Zan (Zsu l al cl a s c k m1 hw hs (by omega) ((hl (Zoa h')).mono aW) ((hb h').mono aW)) (fun v _ _ e=>by rw[e];obtain⟨x,y,z,b,e⟩:=Zn9 k (ZdD s k l 0);rw[e];rfl) ?_
  intro x y z bb m2 aY e b2
  refine Zac (Mem.le_trans aW aY) ?_
  have e':Zq4 k (ZdD s k l 0)=[.agg #[.int .i64 x,.int .i64 y,.int .i64 z],.bool bb]:=by
   have:=(Value.tuple.injEq _ _).mp e
   simpa using(congrArg Array.toList this).symm
  rw[e'];rfl
def ZeU(l:List Rg)(s:List Nat):Option (Nat×Nat×Nat):=if ZaY l s.length 0=0 then Zct l s (s.length+1) 0 else none
theorem Zib(l:List Rg)(al:Option Addr)(cl:Nat)(a:Option Addr)(s:List Nat)(c:Nat)(m:Mem)(hl:l.length≤64→Rgs m al l)(hb:ZaY l s.length 0=0→Byt m a s):CX Try.prog 20 #[.slice al l.length cl,.slice a s.length c] m [] (Ret (.tuple (ZlY (ZeU l s)++[Value.int .i64 (ZaY l s.length 0)]).toArray)):=by
 apply Zhw
 unfold Zex
 intro b
 refine Zat (Zqe l al cl a s.length c 0 m hl) fun m1 aW=>Zab (fun h=>Zac aW ?_) (fun h=>?_)
 ·unfold ZeU;rw[if_neg (by simpa using h)];rfl
 ·have h':ZaY l s.length 0=0:=by simpa using h
  obtain⟨hw,hs,kT,eQ⟩:=Zkr h'
  have hE:ZeU l s=Zct l s (s.length+1) 0:=by unfold ZeU;rw[if_pos h']
  rw[hE,h']
  have r5:IntKind.i64.wrap ((s.length:Int)+1)=((s.length+1:Nat):Int):=by rw[Zap (by omega) (by omega)];rfl
  generalize hG:Zct l s (s.length+1) 0=G
  refine⟨fun xs css _ m' q=>∃k:Nat,k≤s.length+1∧xs=[.int .i64 k]∧Zct l s (s.length+1 - k) k=G∧m1.le m'∧q=s.length+1 - k,⟨_,0,by omega,rfl,hG,Mem.le_refl _,rfl⟩,?_⟩
  rintro z cs m2 q aY ⟨k,hk,hz,cY,_,hq⟩
  obtain rfl:z=k:=by simpa using hz
  simp only[r5]
  refine Zab (fun bA=>?_) (fun cN=>?_)
  ·have aX:k < s.length+1:=by have:=of_decide_eq_true bA;omega
   have gK:IntKind.i64.wrap ((k:Int)+1)=((k+1:Nat):Int):=by rw[Zap (by omega) (by omega)];rfl
   simp only[gK]
   rw[show s.length+1 - k=(s.length+1 - (k+1))+1 by omega]at cY
   unfold Zct at cY
   refine Zan (Zsu l al cl a s c k m2 hw hs (by omega) ((hl (Zoa h')).mono (Mem.le_trans aW aY)) ((hb h').mono (Mem.le_trans aW aY))) (fun v _ _ e=>by rw[e];obtain⟨x,y,z,b,e⟩:=Zn9 k (ZdD s k l 0);rw[e];rfl) ?_
   intro x y z bb m3 bR e b2
   cases hF:ZdD s k l 0 with
   | none=>
    rw[hF]at e cY
    have:=congrArg Array.toList ((Value.tuple.injEq _ _).mp e)
    simp[Zq4]at this
    obtain⟨_,rfl⟩:=this
    exact Zj3 (x:=false) rfl ⟨by trivial,s.length+1 - (k+1),by omega,k+1,by omega,rfl,by rw[←cY],Mem.le_trans aY bR,rfl⟩
   | some p=>
    obtain⟨j,i⟩:=p
    rw[hF]at e cY
    have:=congrArg Array.toList ((Value.tuple.injEq _ _).mp e)
    simp[Zq4]at this
    obtain⟨⟨rfl,rfl,rfl⟩,rfl⟩:=this
    refine Zj3 (x:=true) rfl (Zac (Mem.le_trans aW (Mem.le_trans aY bR)) ?_)
    rw[←cY];rfl
  ·have:k=s.length+1:=by have:=of_decide_eq_false cN;omega
   subst this
   rw[Nat.sub_self]at cY
   unfold Zct at cY
   refine Zac (Mem.le_trans aW aY) ?_
   rw[←cY];rfl
theorem Zhz(x y:List Nat)(ax ay:Option Addr)(cx cy:Nat)(m:Mem)(hx:rowRd m ax (Zkq x))(hy:rowRd m ay (Zkq y))(bQ:x.length≤1000000000000000):CX Try.prog 28 #[.slice ax x.length cx,.slice ay y.length cy] m [] (Ret (.bool (x == y))):=by
 apply ZcI
 unfold ZbB
 refine Zab (fun h=>Zac (Mem.le_refl _) ?_) (fun h=>?_)
 ·have:¬x=y:=fun e=>by subst e;simp at h
  rw[show(x == y)=false by simpa using this]
 have hl:x.length=y.length:=by
  simp only[Bool.not_eq_false',beq_iff_eq]at h
  omega
 refine⟨fun xs css _ m' q=>∃k:Nat,k≤x.length∧xs=[.int .i64 k]∧x.take k=y.take k∧m.le m'∧q=x.length - k,⟨_,0,by omega,rfl,rfl,Mem.le_refl _,rfl⟩,?_⟩
 rintro z m1 q aW ⟨k,hk,hz,cY,_,hq⟩
 obtain rfl:z=k:=by simpa using hz
 refine Zab (fun bA=>?_) (fun cN=>?_)
 ·have aX:k < x.length:=by have:=of_decide_eq_true bA;omega
  obtain⟨u,hu⟩:=Zfb aX
  obtain⟨v,hv⟩:=Zfb (l:=y) (k:=k) (by omega)
  have gK:IntKind.i64.wrap ((k:Int)+1)=((k+1:Nat):Int):=by rw[Zap (by omega) (by omega)];rfl
  rcases hx.mono aW with hx|⟨b,o,h1,h2⟩
  ·rw[show x=[] by simpa[Zkq]using hx]at aX;simp at aX
  rcases hy.mono aW with hy|⟨b',o',h1',h2'⟩
  ·rw[hl,show y=[] by simpa[Zkq]using hy]at aX;simp at aX
  simp only[gK,Int.toNat_natCast,Nat.mul_one]
  refine⟨b,o,h1,⟨by omega,by omega⟩,_,h2 k (.int .i64 u) (by rw[Zkq,List.getElem?_map,hu];rfl),b',o',h1',⟨by omega,by omega⟩,_,h2' k (.int .i64 v) (by rw[Zkq,List.getElem?_map,hv];rfl),Zaa rfl (Zab (fun hc=>Zac aW ?_) (fun hc=>⟨x.length - (k+1),by omega,k+1,by omega,rfl,?_,aW,rfl⟩))⟩
  ·have:¬x=y:=fun e=>by
    subst e
    rw[hu]at hv;cases hv
    simp at hc
   rw[show(x == y)=false by simpa using this]
  ·have:u=v:=by
    have:=hc
    simp[RowKit.intOf]at this
    omega
   rw[Zjn hu,Zjn hv,cY,this]
 ·have:k=x.length:=by have:=of_decide_eq_false cN;omega
  subst this
  rw[List.take_length,hl,List.take_length]at cY
  refine Zac aW ?_
  rw[cY];simp
end Go.Proofs.Ythiefodednaikaa
set_option linter.unusedVariables false
set_option linter.unusedSimpArgs false
set_option linter.unusedSectionVars false
namespace Go.Proofs.Ythiefodednaikaa
open Go Go.Eng Go.Rx Go.Proofs Go.RowKit
set_option maxRecDepth 100000
theorem ZwY{n:Int}(h1:0≤n)(h2:n < 256):IntKind.u8.wrap n=n:=by
 unfold IntKind.wrap
 simp only[IntKind.bits,IntKind.signed,Bool.false_and,Bool.false_eq_true,if_false]
 have e:(2:Int) ^ 8=256:=by decide
 rw[e];omega
theorem Zdx(c:Nat)(hc:c < 256)(m:Mem):CX Try.prog 35 #[.int .u8 c] m [] (Zih (fun t=>t=Zaz c)):=by
 apply Zhh
 unfold Zel
 intro b b1
 have hq:IntKind.u8.wrap (Int.tdiv (c:Int) 64)=((c / 64:Nat):Int):=by rw[Zvv];exact ZwY (by omega) (by omega)
 have hr:IntKind.u64.wrap (1*2 ^ min (Int.toNat (Int.tmod (c:Int) 64)) 64)=((2 ^ (c % 64):Nat):Int):=by
  rw[Zso,Int.toNat_natCast,Nat.min_eq_left (by omega),Int.one_mul]
  have:=ZtP (2 ^ (c % 64)) (by
   have:2 ^ (c % 64) < 2 ^ 64:=Nat.pow_lt_pow_right (by omega) (by omega)
   exact this)
  rw[←this];push_cast;rfl
 simp only[hq,hr,Int.toNat_natCast,Nat.zero_add,Nat.mul_one]
 have hL:(Value.agg #[.int .u8 2,.int .u64 (Zli c 0),.int .u64 (Zli c 1),.int .u64 (Zli c 2),.int .u64 (Zli c 3),.int .i64 0,.int .i64 0,.slice none 0 0])=(Zaz c).v:=rfl
 refine⟨by omega,by omega,by rw[Zso];omega,⟨by omega,by omega⟩,Zaa (by rw[Nat.ble_eq];omega) ?_⟩
 have:c / 64=0∨c / 64=1∨c / 64=2∨c / 64=3:=by omega
 rcases this with e|e|e|e <;>
 ·rw[e]
  refine Zaa rfl (Zaa rfl (Zac (Mem.le_refl _) ⟨Zaz c,?_,Zd6 c m,rfl⟩))
  rw[←hL]
  unfold Zli
  rw[e]
  rfl
theorem ZuY(a:Option Addr)(c:Nat)(l:List T)(m:Mem)(hl:RepL m a l):CX Try.prog 13 #[.slice a l.length c] m [] (Zih (fun t=>t=ZbF 3 0 0 a c l)):=by
 apply Zl1
 unfold Zhi
 intro b
 exact Zac (Mem.le_refl _) ⟨ZbF 3 0 0 a c l,rfl,Zek hl (by omega) (by omega) (by omega),rfl⟩
theorem Zsv(a:Option Addr)(c:Nat)(l:List T)(m:Mem)(hl:RepL m a l):CX Try.prog 36 #[.slice a l.length c] m [] (Zih (fun t=>t=ZbF 4 0 0 a c l)):=by
 apply Zl2
 unfold Zhj
 intro b
 exact Zac (Mem.le_refl _) ⟨ZbF 4 0 0 a c l,rfl,Zek hl (by omega) (by omega) (by omega),rfl⟩
theorem ZuZ(t:T)(m:Mem)(hr:Rep m t):CX Try.prog 38 #[t.v] m [] (Zih (fun u=>∃a c,u=ZbF 5 0 (-1) a c [t])):=by
 apply Zkh
 unfold Zgp
 intro b m1 aW _ b1 b2 hf
 have cI:=Mem.le_add hf t.cs
 refine Zr4 (Mem.le_trans aW cI) ⟨ZbF 5 0 (-1) (some ⟨b2,0,none⟩) 1 [t],rfl,Zek (Zs3 ?_ (hr.mono (Mem.le_trans aW cI))) (by omega) (by omega) (by omega),_,_,rfl⟩
 intro j v hj
 rw[Nat.zero_add,Mem.add_same];exact hj
def ZcU(s:ByteArray):List Nat:=s.data.toList.map fun b=>b.toNat
theorem Zgt(s:ByteArray):ZaH s=(ZcU s).map fun c:Nat=>Value.int .u8 c:=by
 unfold ZaH ZcU
 rw[List.map_map];rfl
theorem Zly(s:ByteArray):(ZcU s).length=s.size:=by unfold ZcU;rw[List.length_map,Array.length_toList];rfl
theorem ZrB(s:ByteArray):∀c∈ZcU s,c < 256:=by
 intro c hc
 unfold ZcU at hc
 obtain⟨b,_,rfl⟩:=List.mem_map.1 hc
 exact b.toBitVec.isLt
theorem Zoc(s:ByteArray)(hs:(ZcU s).length≤100000)(m:Mem):CX Try.prog 37 #[.string s] m [] (Zih (fun t=>∃a c,t=ZbF 3 0 0 a c ((ZcU s).map Zaz))):=by
 apply Zki
 unfold Zgq
 intro b b1 b2 c0 qi s6
 have bQ:=Zly s
 refine⟨fun xs css tvs m' q=>∃(k:Nat)(a:Option Addr)(c:Nat),k≤s.size∧xs=[.int .i64 k]∧css=[[.int .u8 3,.int .u64 0,.int .u64 0,.int .u64 0,.int .u64 0,.int .i64 0,.int .i64 0,.slice a k c]]∧tvs=[.slice a k c]∧rowRd m' a (Zcy (((ZcU s).take k).map Zaz))∧q=s.size - k,⟨_,0,none,0,by omega,rfl,rfl,rfl,.inl rfl,rfl⟩,?_⟩
 rintro n cs a n1 c m1 q aW ⟨k,a',c',hk,hn,cR,j3,cJ,hq⟩
 obtain rfl:n=k:=by simpa using hn
 obtain⟨rfl,rfl,rfl⟩:a=a'∧n1=k∧c=c':=by simpa using j3
 obtain rfl:cs=[.int .u8 3,.int .u64 0,.int .u64 0,.int .u64 0,.int .u64 0,.int .i64 0,.int .i64 0,.slice a n1 c]:=by simpa using cR
 have dD:m.le m1:=Mem.le_trans (Mem.le_add qi _) aW
 refine Zab (fun bA=>?_) (fun cN=>?_)
 ·have aX:n1 < s.size:=by have:=of_decide_eq_true bA;omega
  obtain⟨ch,lq⟩:=Zfb (l:=ZcU s) (k:=n1) (by omega)
  have im:=ZrB s ch (List.mem_of_getElem? lq)
  have hw:IntKind.i64.wrap ((n1:Int)+1)=((n1+1:Nat):Int):=by rw[Zap (by omega) (by omega)];rfl
  have hv:m1 b2 (0+n1)=some (.int .u8 ch):=aW _ _ _ (by rw[Nat.zero_add,Mem.add_same,Zgt,List.getElem?_map,lq];rfl)
  simp only[hw,Int.toNat_natCast,Nat.mul_one]
  refine⟨b2,0,rfl,⟨by omega,by omega⟩,_,hv,fun _ _ _=>Zih (fun t=>t=Zaz ch),Zag rfl ⟨Zih (fun t=>t=Zaz ch),rfl,Zdx ch im m1,Za7,ZdI fun t m2 aY hr ht b4 kU=>?_⟩⟩
  have cI:=Mem.le_add kU t.cs
  refine Zaa rfl ⟨.inl rfl,Zcy (((ZcU s).take n1).map Zaz),t.cs,?_,rfl,cJ.mono (Mem.le_trans aY cI),.inr ⟨b4,0,rfl,?_⟩,?_,?_,?_,fun a2 c2 m3 bR iY=>Zaa rfl fun M dD cW ic dO=>⟨by trivial,s.size - (n1+1),by omega,n1+1,a2,c2,by omega,rfl,rfl,rfl,?_,rfl⟩⟩
  ·rw[ZfK,List.length_map,List.length_take,Nat.min_eq_left (by omega)];rfl
  ·intro j v hj
   rw[Nat.zero_add,Mem.add_same];exact hj
  ·intro u hu
   simp only[T.cs,List.mem_cons,List.not_mem_nil,or_false]at hu
   rcases hu with rfl|rfl|rfl|rfl|rfl|rfl|rfl|rfl <;> rfl
  ·simp only[slN];omega
  ·simp only[slN];omega
  ·rw[Zjn lq,List.map_append,Zgi]
   have e:Zcy (List.map Zaz [ch])=t.cs:=by rw[ht];rfl
   rw[e]
   exact iY.mono dO
 ·have:n1=s.size:=by have:=of_decide_eq_false cN;omega
  subst this
  rw[←bQ,List.take_length]at cJ
  refine Zaa rfl (Zr4 dD ⟨ZbF 3 0 0 a c ((ZcU s).map Zaz),?_,Zek (Zsd cJ ?_ ?_) (by omega) (by omega) (by omega),a,c,rfl⟩)
  ·show _=Value.agg #[.int .u8 3,.int .u64 0,.int .u64 0,.int .u64 0,.int .u64 0,.int .i64 0,.int .i64 0,.slice a ((ZcU s).map Zaz).length c]
   rw[List.length_map,bQ]
  ·intro x hx
   obtain⟨y,_,rfl⟩:=List.mem_map.1 hx
   exact Zd6 y m1
  ·rw[List.length_map];omega
end Go.Proofs.Ythiefodednaikaa
