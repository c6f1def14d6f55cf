/- Part of the proof: conditions and contracts of functions of this program. No condition of its own. -/
import Derived.Test.YthiefodednaikaaPVB
import Derived.Test.YthiefodednaikaaPVC
import Derived.Test.YthiefodednaikaaMr
import Derived.Test.YthiefodednaikaaPC13Q
import Derived.Test.YthiefodednaikaaPVD
set_option linter.unusedVariables false
set_option linter.unusedSimpArgs false
namespace Go.Proofs.Ythiefodednaikaa
open Go Go.Eng Go.Rx Go.Proofs Go.RowKit
set_option maxRecDepth 100000
theorem Zvg(i:Nat):Int.tdiv (i:Int) 64=((i / 64:Nat):Int):=rfl
theorem Zr4(i:Nat):Int.tmod (i:Int) 64=((i % 64:Nat):Int):=rfl
theorem Zr5(i:Nat)(h:i < 576)(m:Mem):CX Try.prog 54 #[.int .i64 i] m [] (Ret (plV (2 ^ i))):=by
 apply ZlN
 unfold Zhj
 intro b b2
 have hq:IntKind.i64.wrap (Int.tdiv (i:Int) 64)=((i / 64:Nat):Int):=by rw[Zvg];exact Zan (by omega) (by omega)
 have hr:IntKind.u64.wrap (1*2 ^ min (Int.toNat (Int.tmod (i:Int) 64)) 64)=((2 ^ (i % 64):Nat):Int):=by
  rw[Zr4,Int.toNat_natCast,Nat.min_eq_left (by omega),Int.one_mul]
  have:=ZtC (2 ^ (i % 64)) (by
   have:2 ^ (i % 64) < 2 ^ 64:=Nat.pow_lt_pow_right (by omega) (by omega)
   exact this)
  rw[←this];push_cast;rfl
 have hs:=Zwr (q:=i / 64) (r:=i % 64) (by omega) (by omega)
 rw[show 64*(i / 64)+i % 64=i by omega]at hs
 simp only[hq,hr,Int.toNat_natCast,Nat.zero_add,Nat.mul_one,hs]
 refine⟨by omega,by omega,by rw[Zr4];omega,⟨by omega,by omega⟩,Zaa (by rw[Nat.ble_eq];omega) (Zaa rfl (Zac (Mem.le_refl _) rfl))⟩
theorem Zk9(f i:Nat)(h:i < 576)(b:Nat)(m:Mem)(hb:m.reads b 0 (plL f)):CX Try.prog 55 #[.pointer (some ⟨b,0,none⟩),.int .i64 i] m [] (Ret (.bool (f.testBit i))):=by
 apply ZdS
 unfold Zb5
 have hq:IntKind.i64.wrap (Int.tdiv (i:Int) 64)=((i / 64:Nat):Int):=by rw[Zvg];exact Zan (by omega) (by omega)
 simp only[hq,Int.toNat_natCast,Nat.zero_add,Nat.mul_one]
 have kO:(wdN f (i / 64)).testBit (i % 64)=f.testBit i:=by
  rw[Znb,show 64*(i / 64)+i % 64=i by omega];simp;omega
 refine⟨by omega,⟨by omega,by omega⟩,_,(by have:=hb (i / 64) _ (ZrO (by omega));simpa using this),by omega,Zaa rfl ⟨by rw[Zr4];omega,Zac (Mem.le_refl _) ?_⟩⟩
 rw[Zr4,Int.toNat_natCast,Nat.min_eq_left (by omega)]
 show Value.bool (IntKind.u64.wrap _ == 1)=_
 simp only[intOf]
 rw[Zpu _ _ (ZsC _ _),kO]
theorem ZuC(f g:Nat)(m:Mem):CX Try.prog 104 #[plV f,plV g] m [] (Ret (plV (f|||g))):=by
 apply Zet
 unfold Zcj
 intro b b1 m1 aW _ b2
 refine⟨fun xs css _ m' q=>∃k:Nat,k≤9∧xs=[.int .i64 k]∧css=[orL f g k]∧m1.le m'∧q=9 - k,⟨9,0,by omega,rfl,rfl,Mem.le_refl _,rfl⟩,?_⟩
 rintro n cs m2 q aY ⟨k,hk,hn,cS,_,hq⟩
 obtain rfl:n=k:=by simpa using hn
 obtain rfl:cs=orL f g k:=by simpa using cS
 refine Zab (fun bA=>?_) (fun cM=>?_)
 ·have aX:k < 9:=by have:=of_decide_eq_true bA;omega
  have h1:=Zub (f:=f) (g:=g) (k:=k) aX
  rw[if_neg (by omega)]at h1
  have h2:=ZrO (f:=g) aX
  simp only[Int.toNat_natCast,Nat.zero_add,Nat.mul_one]
  refine⟨⟨by omega,by omega⟩,Zal h1 ⟨⟨by omega,by omega⟩,Zal h2 (Zaa rfl ⟨⟨by omega,by omega⟩,Zaa (by rw[Nat.ble_eq];simp[orL];omega) ⟨by trivial,9 - (k+1),by omega,k+1,by omega,?_,?_,Mem.le_trans (by assumption) (Mem.le_refl _),rfl⟩⟩)⟩⟩
  ·rw[Zan (by omega) (by omega)];rfl
  ·show[Zar _ _ [Value.int .u64 (IntKind.u64.wrap _)]]=_
   simp only[intOf]
   rw[ZsD _ _ (ZsC _ _) (ZsC _ _),ZsE aX]
 ·have:k=9:=by have:=of_decide_eq_false cM;omega
  subst this
  exact Zaa (by rfl) (Zac (Mem.le_trans aW aY) rfl)
theorem Zq8(f k:Nat)(h:k≤513):(ZbM f).take (((List.range k).filter fun i=>f.testBit i).length)=(List.range k).filter fun i=>f.testBit i:=by
 have e:List.range 513=List.range k++(List.range 513).drop k:=by
  have:=(List.take_append_drop k (List.range 513)).symm
  rwa [List.take_range,Nat.min_eq_left h]at this
 unfold ZbM
 conv=>lhs;rw[e,List.filter_append]
 rw[List.take_left']
 rfl
theorem ZuD(f k:Nat)(h:k < 513)(hb:f.testBit k=true):(ZbM f)[((List.range k).filter fun i=>f.testBit i).length]?=some k:=by
 have h1:=Zq8 f (k+1) (by omega)
 have e:(List.range (k+1)).filter (fun i=>f.testBit i)=(List.range k).filter (fun i=>f.testBit i)++[k]:=by
  rw[List.range_succ,List.filter_append];simp[hb]
 rw[e]at h1
 have h2:=congrArg (fun l=>l[((List.range k).filter fun i=>f.testBit i).length]?) h1
 simpa[List.getElem?_take]using h2
theorem ZpR(f:Nat)(b c:Nat)(m:Mem)(hb:m.reads b 0 (plL f))(hc:m.reads c 0 [.pointer (some ⟨b,0,none⟩)]):IX Try.prog 98 [] [.pointer (some ⟨c,0,none⟩)] m ((ZbM f).map fun i=>[.int .i64 (i:Nat)]):=by
 apply ZcM 0 [] [] c 0
 unfold ZbC
 intro l
 refine⟨fun xs _ _ m' q=>∃k:Nat,k≤513∧xs=[.int .i64 (((List.range k).filter fun i=>f.testBit i).length:Nat),.int .i64 k]∧m.le m'∧q=513 - k,⟨513,0,by omega,rfl,Mem.le_refl _,rfl⟩,?_⟩
 rintro y n m1 q aW ⟨k,hk,fN,_,hq⟩
 simp only[List.cons.injEq,Value.int.injEq,true_and,and_true]at fN
 obtain⟨rfl,rfl⟩:=fN
 have dU:((List.range (k+1)).filter fun i=>f.testBit i).length=((List.range k).filter fun i=>f.testBit i).length+(if f.testBit k then 1 else 0):=by
  rw[List.range_succ,List.filter_append,List.length_append];simp[List.filter_cons];split <;> simp
 refine Zab (fun bA=>?_) (fun cM=>?_)
 ·have aX:k < 513:=by have:=of_decide_eq_true bA;omega
  refine⟨_,aW _ _ _ (hc 0 _ rfl),Zah (Zk9 f k (by omega) b m1 (hb.mono aW)) fun m2 aY=>Zab (fun h=>?_) (fun h=>?_)⟩
  ·refine⟨⟨rfl,by omega,?_⟩,⟨513 - (k+1),by omega,k+1,by omega,?_,Mem.le_trans aW aY,rfl⟩,.inr rfl⟩
   ·rw[Int.toNat_natCast]
    show((ZbM f).map fun i=>[Value.int .i64 (i:Nat)])[((List.range k).filter fun i=>f.testBit i).length]?=_
    rw[List.getElem?_map,ZuD f k aX h];rfl
   ·rw[dU,if_pos h,Zan (by omega) (by omega)];rfl
  ·refine⟨513 - (k+1),by omega,k+1,by omega,?_,Mem.le_trans aW aY,rfl⟩
   rw[dU,if_neg (by simp[h]),Zan (by omega) (by omega)];rfl
 ·have:k=513:=by have:=of_decide_eq_false cM;omega
  subst this
  left
  simp[ZbM]
theorem Zs1(f b:Nat)(m:Mem)(hb:m.reads b 0 (plL f)):CX Try.prog 82 #[.pointer (some ⟨b,0,none⟩)] m [] (fun v m' _=>∃c,v=.func (.func 98) #[] #[.pointer (some ⟨c,0,none⟩)]∧m'.reads c 0 [.pointer (some ⟨b,0,none⟩)]):=by
 apply ZdT
 unfold Zb6
 intro c m1 aW hc
 exact⟨m1,aW,Mem.le_refl _,c,rfl,hc⟩
theorem sh6:∀c:Nat,c < 256→IntKind.u8.wrap ((BitVec.ofInt 8 (c:Int)&&&BitVec.ofInt 8 63).toNat:Int)=((c % 64:Nat):Int)∧Int.fdiv (c:Int) (2 ^ 6)=((c / 64:Nat):Int):=by decide
theorem Zr6(t:T)(c:Nat)(hc:c < 256)(m:Mem)(hr:Rep m t):CX Try.prog 119 #[.agg #[.int .u64 t.s0,.int .u64 t.s1,.int .u64 t.s2,.int .u64 t.s3],.int .u8 c] m [] (Ret (.bool (t.hasB c))):=by
 apply ZnK
 unfold Zjh
 intro b m1 aW _
 obtain⟨h1,h2⟩:=sh6 c hc
 simp only[h1,h2,Int.toNat_natCast,Nat.zero_add,Nat.mul_one]
 have cA:=ZsA hr
 have hw:∃w:Int,[Value.int .u64 t.s0,.int .u64 t.s1,.int .u64 t.s2,.int .u64 t.s3][c / 64]?=some (.int .u64 w)∧0≤w∧w < 18446744073709551616∧t.hasB c=w.toNat.testBit (c % 64):=by
  have:c / 64=0∨c / 64=1∨c / 64=2∨c / 64=3:=by omega
  unfold T.hasB
  rcases this with e|e|e|e
  ·exact⟨t.s0,by rw[e];rfl,cA.s0.1,cA.s0.2,by simp[e]⟩
  ·exact⟨t.s1,by rw[e];rfl,cA.s1.1,cA.s1.2,by simp[e]⟩
  ·exact⟨t.s2,by rw[e];rfl,cA.s2.1,cA.s2.2,by simp[e]⟩
  ·exact⟨t.s3,by rw[e];rfl,cA.s3.1,cA.s3.2,by simp[e]⟩
 obtain⟨w,ko,ia,sR,rU⟩:=hw
 refine⟨by omega,⟨by omega,by omega⟩,Zal ko (Zaa rfl ⟨by omega,Zac aW ?_⟩)⟩
 rw[rU,Nat.min_eq_left (by omega)]
 obtain⟨n,rfl⟩:∃n:Nat,w=n:=⟨w.toNat,by omega⟩
 show Value.bool (IntKind.u64.wrap _ == 1)=_
 simp only[intOf]
 rw[Zpu _ _ (by omega)]
 simp
end Go.Proofs.Ythiefodednaikaa
set_option linter.unusedVariables false
set_option linter.unusedSimpArgs false
namespace Go.Proofs.Ythiefodednaikaa
open Go Go.Eng Go.Proofs Go.RowKit Go.Rx
theorem ZuE(a b c d e f g h i a' b' c' d' e' f' g' h' i':Int):EqIs Try.prog 95 (.agg #[.int .u64 a,.int .u64 b,.int .u64 c,.int .u64 d,.int .u64 e,.int .u64 f,.int .u64 g,.int .u64 h,.int .u64 i]) (.agg #[.int .u64 a',.int .u64 b',.int .u64 c',.int .u64 d',.int .u64 e',.int .u64 f',.int .u64 g',.int .u64 h',.int .u64 i']) (a == a'&&(b == b'&&(c == c'&&(d == d'&&(e == e'&&(f == f'&&(g == g'&&(h == h'&&i == i')))))))):=by
 refine⟨fun w=>?_,fun op ox oy w=>Zdk (by kernel_rfl) op ox oy _ _ w⟩
 have u3:=Try.underlying24
 have a3:=Try.isAgg24
 have z3:=Try.sizeOf24
 rw[Op.equal,Op.maxDepth,show(10000:Nat)=9999+1 from rfl,Op.equalIn]
 simp only[Sem.run_bind,run_underlying Try.underlying95,Result.andThen_ok]
 simp only[Std.Legacy.Range.forIn_eq_forIn_range',Std.Legacy.Range.size,Nat.sub_zero,Nat.add_sub_cancel,Nat.div_one,List.range'_succ,List.range'_zero,List.forIn_cons,List.forIn_nil]
 go_simp
 by_cases h1:a=a'
 ·by_cases h2:b=b'
  ·by_cases h3:c=c'
   ·by_cases h4:d=d'
    ·by_cases h5:e=e'
     ·by_cases h6:f=f'
      ·by_cases h7:g=g'
       ·by_cases h8:h=h'
        ·by_cases h9:i=i' <;> simp[h1,h2,h3,h4,h5,h6,h7,h8,h9]
        ·simp[h1,h2,h3,h4,h5,h6,h7,h8]
       ·simp[h1,h2,h3,h4,h5,h6,h7]
      ·simp[h1,h2,h3,h4,h5,h6]
     ·simp[h1,h2,h3,h4,h5]
    ·simp[h1,h2,h3,h4]
   ·simp[h1,h2,h3]
  ·simp[h1,h2]
 ·simp[h1]
theorem ZwD{f g:Nat}(hf:f < ZbL)(hg:g < ZbL):EqIs Try.prog 95 (plV f) (plV g) (f == g):=by
 have h:=ZuE (wdN f 0:Nat) (wdN f 1:Nat) (wdN f 2:Nat) (wdN f 3:Nat) (wdN f 4:Nat) (wdN f 5:Nat) (wdN f 6:Nat) (wdN f 7:Nat) (wdN f 8:Nat) (wdN g 0:Nat) (wdN g 1:Nat) (wdN g 2:Nat) (wdN g 3:Nat) (wdN g 4:Nat) (wdN g 5:Nat) (wdN g 6:Nat) (wdN g 7:Nat) (wdN g 8:Nat)
 have e:(((wdN f 0:Nat):Int) == (wdN g 0:Nat)&&(((wdN f 1:Nat):Int) == (wdN g 1:Nat)&&(((wdN f 2:Nat):Int) == (wdN g 2:Nat)&&(((wdN f 3:Nat):Int) == (wdN g 3:Nat)&&(((wdN f 4:Nat):Int) == (wdN g 4:Nat)&&(((wdN f 5:Nat):Int) == (wdN g 5:Nat)&&(((wdN f 6:Nat):Int) == (wdN g 6:Nat)&&(((wdN f 7:Nat):Int) == (wdN g 7:Nat)&&((wdN f 8:Nat):Int) == (wdN g 8:Nat)))))))))=(f == g):=by
  rw[Bool.eq_iff_iff]
  simp only[Bool.and_eq_true,beq_iff_eq,Int.natCast_inj]
  constructor
  ·rintro⟨h0,h1,h2,h3,h4,h5,h6,h7,h8⟩
   refine Zvr hf hg fun j hj=>?_
   have:j=0∨j=1∨j=2∨j=3∨j=4∨j=5∨j=6∨j=7∨j=8:=by omega
   rcases this with rfl|rfl|rfl|rfl|rfl|rfl|rfl|rfl|rfl
   ·exact h0
   ·exact h1
   ·exact h2
   ·exact h3
   ·exact h4
   ·exact h5
   ·exact h6
   ·exact h7
   ·exact h8
  ·rintro rfl;simp
 rw[e]at h
 exact h
end Go.Proofs.Ythiefodednaikaa
set_option linter.unusedVariables false
set_option linter.unusedSimpArgs false
set_option linter.unusedSectionVars false
namespace Go.Proofs.Ythiefodednaikaa
open Go Go.Eng Go.Rx Go.Proofs Go.RowKit
set_option maxRecDepth 100000
abbrev txV(a:Option Addr)(s:List Nat)(c:Nat)(back:Bool):Value:=.agg #[.slice a s.length c,.bool back]
theorem Zs2(t:T)(a:Option Addr)(s:List Nat)(c:Nat)(back:Bool)(f:Nat)(m:Mem)(hr:Rep m t)(hb:Byt m a s)(hs:s.length≤512):CX Try.prog 101 #[txV a s c back,t.v,plV f] m [] (Ret (plV (Zp5 t back f s 0 0))):=by
 apply ZdV
 unfold Zb8
 intro b m1 aW _ b1 m2 aY _ b2 m3 bQ dO b3 b4
 refine⟨fun xs css _ m' q=>∃k o:Nat,k≤s.length∧xs=[.int .i64 k]∧css=[plL o]∧Zp5 t back f (s.drop k) k o=Zp5 t back f s 0 0∧m3.le m'∧q=s.length - k,⟨_,0,0,by omega,rfl,rfl,rfl,Mem.le_refl _,rfl⟩,?_⟩
 rintro n cs m4 q cG ⟨k,o,hk,hn,cS,cZ,_,hq⟩
 obtain rfl:n=k:=by simpa using hn
 obtain rfl:cs=plL o:=by simpa using cS
 have dK:m.le m4:=Mem.le_trans aW (Mem.le_trans aY (Mem.le_trans bQ cG))
 refine Zab (fun bA=>?_) (fun cM=>?_)
 ·have aX:k < s.length:=by have:=of_decide_eq_true bA;omega
  obtain⟨ch,ll⟩:=Ze9 aX
  have hw:IntKind.i64.wrap ((k:Int)+1)=((k+1:Nat):Int):=by rw[Zan (by omega) (by omega)];rfl
  have dU:Zp5 t back f (s.drop (k+1)) (k+1) (Znc t back f k ch o)=Zp5 t back f s 0 0:=by rw[ZkX ll]at cZ;exact cZ
  obtain⟨⟨b5,o5,ha,hv⟩,ii⟩:=(hb.mono dK).get ll
  simp only[hw,Int.toNat_natCast,Nat.mul_one]
  refine⟨b5,o5,ha,⟨by omega,by omega⟩,_,hv,?_⟩
  cases back with
  | true=>
   refine ZjM (x:=true) rfl ?_
   refine⟨f.testBit (k+1)&&t.hasB ch,Zah (Zk9 f (k+1) (by omega) b2 m4 (dO.mono cG)) fun m5 cP=>Zab (fun h=>Zah (Zr6 t ch ii m5 (hr.mono (Mem.le_trans dK cP))) fun m6 dJ=>⟨by trivial,by rw[h,Bool.true_and]⟩) (fun h=>⟨by trivial,by rw[h,Bool.false_and]⟩),Zab (fun h=>?_) (fun h=>?_)⟩
   ·refine⟨fun i _ _=>if i=2 then Ret (plV (2 ^ k))else Ret (plV (o|||2 ^ k)),Ret (plV (2 ^ k)),rfl,Zr5 k (by omega) m4,ZaT,Zku fun m5 cP=>⟨Ret (plV (o|||2 ^ k)),rfl,ZuC o (2 ^ k) m5,ZaT,Zku fun m6 dJ M cY cT gO=>⟨by trivial,s.length - (k+1),by omega,k+1,o|||2 ^ k,by omega,rfl,rfl,?_,Mem.le_trans cG cY,rfl⟩⟩⟩
    rw[←dU];unfold Znc;rw[if_pos (by simpa using h)];rfl
   ·refine⟨by trivial,s.length - (k+1),by omega,k+1,o,by omega,rfl,rfl,?_,cG,rfl⟩
    rw[←dU];unfold Znc;rw[if_neg (by simpa using h)]
  | false=>
   refine ZjM (x:=false) rfl ?_
   refine⟨f.testBit k&&t.hasB ch,Zah (Zk9 f k (by omega) b2 m4 (dO.mono cG)) fun m5 cP=>Zab (fun h=>Zah (Zr6 t ch ii m5 (hr.mono (Mem.le_trans dK cP))) fun m6 dJ=>⟨by trivial,by rw[h,Bool.true_and]⟩) (fun h=>⟨by trivial,by rw[h,Bool.false_and]⟩),Zab (fun h=>?_) (fun h=>?_)⟩
   ·refine⟨fun i _ _=>if i=2 then Ret (plV (2 ^ (k+1)))else Ret (plV (o|||2 ^ (k+1))),Ret (plV (2 ^ (k+1))),rfl,Zr5 (k+1) (by omega) m4,ZaT,Zku fun m5 cP=>⟨Ret (plV (o|||2 ^ (k+1))),rfl,ZuC o (2 ^ (k+1)) m5,ZaT,Zku fun m6 dJ M cY cT gO=>⟨by trivial,s.length - (k+1),by omega,k+1,o|||2 ^ (k+1),by omega,rfl,rfl,?_,Mem.le_trans cG cY,rfl⟩⟩⟩
    rw[←dU];unfold Znc;rw[if_pos (by simpa using h)];rfl
   ·refine⟨by trivial,s.length - (k+1),by omega,k+1,o,by omega,rfl,rfl,?_,cG,rfl⟩
    rw[←dU];unfold Znc;rw[if_neg (by simpa using h)]
 ·have:k=s.length:=by have:=of_decide_eq_false cM;omega
  subst this
  refine Zaa rfl (Zac dK ?_)
  rw[List.drop_length]at cZ
  rw[←cZ];rfl
theorem ZuF(t:T)(f:Nat)(m:Mem):CX Try.prog 99 #[t.v,plV f] m [] (Ret (plV 0)):=by
 apply ZcN
 unfold ZbD
 intro b m1 aW _ b1 m2 aY _ b2
 exact Zac (Mem.le_trans aW aY) rfl
theorem Zs3(t:T)(f:Nat)(m:Mem):CX Try.prog 100 #[t.v,plV f] m [] (Ret (plV f)):=by
 apply ZcO
 unfold ZbE
 intro b m1 aW _ b1 m2 aY _ b2
 exact Zac (Mem.le_trans aW aY) rfl
def IH(a:Option Addr)(s:List Nat)(c:Nat)(back:Bool)(t:T):Prop:=∀x∈t.subs,∀(f:Nat)(m:Mem),f < ZbL→Rep m x→Byt m a s→CX Try.prog 53 #[txV a s c back,x.v,plV f] m [] (Ret (plV (x.lead s back f)))
section
variable (t:T) (a:Option Addr) (s:List Nat) (c:Nat) (back:Bool) (f:Nat) (m:Mem) (hr:Rep m t) (hb:Byt m a s) (hs:s.length≤512) (ih:IH a s c back t) (hf:f < ZbL)
include hr hb hs ih hf
theorem ZvD(pb po:Nat)(hp:m.reads pb po [.slice a s.length c,.bool back]):CX Try.prog 102 #[t.v,plV f,.pointer (some ⟨pb,po,none⟩)] m [] (Ret (plV (if back then Ze3 s back t.subs f else ZfB s back t.subs f))):=by
 apply ZcP
 unfold ZbF
 intro b m1 aW _ b1 b2
 obtain⟨bP,cB⟩:=ZdF hr
 refine⟨fun xs css _ m' q=>∃k o:Nat,k≤t.subs.length∧xs=[.int .i64 k]∧css=[plL o]∧o < ZbL∧(if back then Ze3 s back (t.subs.take (t.subs.length - k)) o else ZfB s back (t.subs.drop k) o)=(if back then Ze3 s back t.subs f else ZfB s back t.subs f)∧m1.le m'∧q=t.subs.length - k,⟨_,0,f,by omega,rfl,rfl,hf,by rw[Nat.sub_zero,List.take_length,List.drop_zero],Mem.le_refl _,rfl⟩,?_⟩
 rintro n cs m4 q cG ⟨k,o,hk,hn,cS,ho,cZ,_,hq⟩
 obtain rfl:n=k:=by simpa using hn
 obtain rfl:cs=plL o:=by simpa using cS
 have dK:m.le m4:=Mem.le_trans aW cG
 refine Zab (fun bA=>?_) (fun cM=>?_)
 ·have aX:k < t.subs.length:=by have:=of_decide_eq_true bA;omega
  have hw:IntKind.i64.wrap ((k:Int)+1)=((k+1:Nat):Int):=by rw[Zan (by omega) (by omega)];rfl
  have ko:IntKind.i64.wrap ((t.subs.length:Int) - 1)=((t.subs.length - 1:Nat):Int):=by rw[Zan (by omega) (by omega)];omega
  have ia:IntKind.i64.wrap (((t.subs.length - 1:Nat):Int) - k)=((t.subs.length - 1 - k:Nat):Int):=by rw[Zan (by omega) (by omega)];omega
  rcases cB with cB|⟨sb,so,jz,jV⟩
  ·rw[cB]at aX;simp at aX
  simp only[hw,ko,ia,Int.toNat_natCast]
  refine⟨.bool back,dK _ _ _ (hp 1 _ rfl),Zaa rfl ?_⟩
  cases back with
  | true=>
   refine ZjM (x:=true) rfl ?_
   obtain⟨x,hx⟩:=Ze9 (l:=t.subs) (k:=t.subs.length - 1 - k) (by omega)
   obtain⟨eO,gt⟩:=jV.get hx
   refine⟨fun _ _ _=>Ret (plV (x.lead s true o)),_,_,hp.mono dK,sb,so,jz,⟨by omega,by omega⟩,_,_,_,_,_,_,_,_,eO.mono dK,Ret (plV (x.lead s true o)),rfl,ih x (List.mem_of_getElem? hx) o m4 ho (gt.mono dK) (hb.mono dK),ZaT,Zku fun m6 dJ M cY cT=>⟨by trivial,t.subs.length - (k+1),by omega,k+1,x.lead s true o,by omega,rfl,rfl,Zem s true hs x o ho,?_,Mem.le_trans cG cY,rfl⟩⟩
   rw[if_pos rfl,if_pos rfl]at cZ ⊢
   rw[show t.subs.length - k=t.subs.length - 1 - k+1 by omega,Zg4 hx,Zou]at cZ
   rw[show t.subs.length - (k+1)=t.subs.length - 1 - k by omega]
   exact cZ
  | false=>
   refine ZjM (x:=false) rfl ?_
   obtain⟨x,hx⟩:=Ze9 aX
   obtain⟨eO,gt⟩:=jV.get hx
   refine⟨fun _ _ _=>Ret (plV (x.lead s false o)),_,_,hp.mono dK,sb,so,jz,⟨by omega,by omega⟩,_,_,_,_,_,_,_,_,eO.mono dK,Ret (plV (x.lead s false o)),rfl,ih x (List.mem_of_getElem? hx) o m4 ho (gt.mono dK) (hb.mono dK),ZaT,Zku fun m6 dJ M cY cT=>⟨by trivial,t.subs.length - (k+1),by omega,k+1,x.lead s false o,by omega,rfl,rfl,Zem s false hs x o ho,?_,Mem.le_trans cG cY,rfl⟩⟩
   rw[if_neg (by simp),if_neg (by simp)]at cZ ⊢
   rw[ZkX hx,Zot]at cZ
   exact cZ
 ·have:k=t.subs.length:=by have:=of_decide_eq_false cM;omega
  subst this
  refine Zaa rfl (Zac dK ?_)
  rw[Nat.sub_self,List.drop_length]at cZ
  rw[←cZ];cases back <;> rfl
theorem ZvE(pb po:Nat)(hp:m.reads pb po [.slice a s.length c,.bool back]):CX Try.prog 103 #[t.v,plV f,.pointer (some ⟨pb,po,none⟩)] m [] (Ret (plV (Zos s back t.subs f 0))):=by
 apply ZcQ
 unfold ZbG
 intro b m1 aW _ b1 m2 aY _ b2 b3
 obtain⟨bP,cB⟩:=ZdF hr
 refine⟨fun xs css _ m' q=>∃k o:Nat,k≤t.subs.length∧xs=[.int .i64 k]∧css=[plL o]∧Zos s back (t.subs.drop k) f o=Zos s back t.subs f 0∧m2.le m'∧q=t.subs.length - k,⟨_,0,0,by omega,rfl,rfl,rfl,Mem.le_refl _,rfl⟩,?_⟩
 rintro n cs m4 q cG ⟨k,o,hk,hn,cS,cZ,_,hq⟩
 obtain rfl:n=k:=by simpa using hn
 obtain rfl:cs=plL o:=by simpa using cS
 have dK:m.le m4:=Mem.le_trans aW (Mem.le_trans aY cG)
 refine Zab (fun bA=>?_) (fun cM=>?_)
 ·have aX:k < t.subs.length:=by have:=of_decide_eq_true bA;omega
  have hw:IntKind.i64.wrap ((k:Int)+1)=((k+1:Nat):Int):=by rw[Zan (by omega) (by omega)];rfl
  rcases cB with cB|⟨sb,so,jz,jV⟩
  ·rw[cB]at aX;simp at aX
  simp only[hw,Int.toNat_natCast]
  obtain⟨x,hx⟩:=Ze9 aX
  obtain⟨eO,gt⟩:=jV.get hx
  refine⟨sb,so,jz,⟨by omega,by omega⟩,_,_,_,_,_,_,_,_,eO.mono dK,fun b5=>Zaa rfl ⟨fun i _ _=>if i=4 then Ret (plV (x.lead s back f))else Ret (plV (o|||x.lead s back f)),_,_,hp.mono dK,Ret (plV (x.lead s back f)),rfl,ih x (List.mem_of_getElem? hx) f m4 hf (gt.mono dK) (hb.mono dK),ZaT,Zku fun m5 cP=>⟨Ret (plV (o|||x.lead s back f)),rfl,ZuC o _ m5,ZaT,Zku fun m6 dJ M cY cT gO=>⟨by trivial,t.subs.length - (k+1),by omega,k+1,o|||x.lead s back f,by omega,rfl,rfl,?_,Mem.le_trans cG cY,rfl⟩⟩⟩⟩
  rw[ZkX hx,Zne]at cZ
  exact cZ
 ·have:k=t.subs.length:=by have:=of_decide_eq_false cM;omega
  subst this
  refine Zaa rfl (Zac dK ?_)
  rw[List.drop_length,Zpw]at cZ
  rw[cZ];rfl
theorem ZvF(x:T)(hx:t.subs=[x])(pb po:Nat)(hp:m.reads pb po [.slice a s.length c,.bool back]):CX Try.prog 106 #[t.v,plV f,.pointer (some ⟨pb,po,none⟩)] m [] (Ret (plV (ZeL s back t.subs f))):=by
 apply ZcR
 unfold ZbH
 intro b m1 aW _ b1 m2 aY _ b2
 obtain⟨bP,cB⟩:=ZdF hr
 have dK:m.le m2:=Mem.le_trans aW aY
 rcases cB with cB|⟨sb,so,jz,jV⟩
 ·rw[cB]at hx;cases hx
 have iu:t.subs[0]?=some x:=by rw[hx];rfl
 obtain⟨eO,gt⟩:=jV.get iu
 refine⟨fun _ _ _=>Ret (plV (x.lead s back f)),_,_,hp.mono dK,sb,so,jz,⟨by omega,by rw[hx];simp⟩,_,_,_,_,_,_,_,_,eO.mono dK,Ret (plV (x.lead s back f)),rfl,ih x (List.mem_of_getElem? iu) f m2 hf (gt.mono dK) (hb.mono dK),ZaT,Zku fun m6 dJ M cY cT=>Zac (Mem.le_trans dK cY) ?_⟩
 rw[hx];unfold ZeL;rfl
theorem Zq9(x:T)(hx:t.subs=[x])(jx:0≤t.mn):CX Try.prog 105 #[txV a s c back,t.v,plV f] m [] (Ret (plV (Zuc (ZeL s back t.subs) t.mn t.mx f))):=by
 apply Zdx
 unfold ZbV
 intro b m1 aW _ b1 m2 aY _ b2 b3
 obtain⟨bP,cB⟩:=ZdF hr
 rcases cB with cB|⟨sb,so,jz,jV⟩
 ·rw[cB]at hx;cases hx
 have iu:t.subs[0]?=some x:=by rw[hx];rfl
 obtain⟨eO,gt⟩:=jV.get iu
 have hg:ZeL s back t.subs=x.lead s back:=by rw[hx];rfl
 have jQ:t.subs.length=1:=by rw[hx];rfl
 have cA:=ZsA hr
 obtain⟨N,hN⟩:∃N:Nat,t.mn=N:=⟨t.mn.toNat,by omega⟩
 have qd:=cA.mn
 rw[hg,hN]
 unfold Zuc
 rw[Int.toNat_natCast]
 refine⟨fun xs css _ m' q=>∃k o:Nat,k≤N∧xs=[.int .i64 k]∧css=[plL o]∧o < ZbL∧ZtD (x.lead s back) (N - k) o=ZtD (x.lead s back) N f∧m2.le m'∧q=N - k,⟨_,0,f,by omega,rfl,rfl,hf,rfl,Mem.le_refl _,rfl⟩,?_⟩
 rintro n cs m4 q cG ⟨k,o,hk,hn,cS,ho,cZ,_,hq⟩
 obtain rfl:n=k:=by simpa using hn
 obtain rfl:cs=plL o:=by simpa using cS
 have dK:m.le m4:=Mem.le_trans aW (Mem.le_trans aY cG)
 refine Zab (fun bA=>?_) (fun cM=>?_)
 ·have aX:k < N:=by have:=of_decide_eq_true bA;omega
  have hw:IntKind.i64.wrap ((k:Int)+1)=((k+1:Nat):Int):=by rw[Zan (by omega) (by omega)];rfl
  simp only[hw]
  refine⟨fun _ _ _=>Ret (plV (x.lead s back o)),sb,so,jz,⟨by omega,by rw[hx];simp⟩,_,_,_,_,_,_,_,_,eO.mono dK,Ret (plV (x.lead s back o)),rfl,ih x (List.mem_of_getElem? iu) o m4 ho (gt.mono dK) (hb.mono dK),ZaT,Zku fun m6 dJ M cY cT=>⟨by trivial,N - (k+1),by omega,k+1,x.lead s back o,by omega,rfl,rfl,Zem s back hs x o ho,?_,Mem.le_trans cG cY,rfl⟩⟩
  rw[show N - k=N - (k+1)+1 by omega]at cZ
  exact cZ
 ·have:k=N:=by have:=of_decide_eq_false cM;omega
  subst this
  replace cZ:o=ZtD (x.lead s back) k f:=by rw[Nat.sub_self]at cZ;exact cZ
  rw[←cZ]
  intro b4 b5
  refine Zaa rfl (Zaa rfl ?_)
  refine⟨fun xs css _ m' q=>∃(i:Int)(c1:List Value)(out last:Nat),xs=[.int .i64 i]∧css=[c1,plL out,plL last]∧out < ZbL∧last < ZbL∧ZbL - out < q∧ZnY (x.lead s back) t.mx q i out last=ZnY (x.lead s back) t.mx (ZbL+1) k o o∧m4.le m',⟨ZbL+1,k,_,o,o,rfl,rfl,ho,ho,by omega,rfl,Mem.le_refl _⟩,?_⟩
  rintro i cs1 cs2 cs3 m5 q cP ⟨i',c1,out,last,hi,cS,cV,dB,hq,eB,_⟩
  obtain rfl:i=i':=by simpa using hi
  obtain⟨rfl,rfl,rfl⟩:cs1=c1∧cs2=plL out∧cs3=plL last:=by simpa using cS
  have lm:m.le m5:=Mem.le_trans dK cP
  obtain⟨q,rfl⟩:∃q',q=q'+1:=⟨q - 1,by omega⟩
  rw[ZkW (n:=q)]at eB
  refine Zab (fun cU=>?_) (fun he=>?_)
  ·have pl:¬i=t.mx:=by simpa using cU
   rw[if_neg pl]at eB
   refine⟨fun _ _ _=>Ret (plV (x.lead s back last)),sb,so,jz,⟨by omega,by rw[hx];simp⟩,_,_,_,_,_,_,_,_,eO.mono lm,Ret (plV (x.lead s back last)),rfl,ih x (List.mem_of_getElem? iu) last m5 dB (gt.mono lm) (hb.mono lm),ZaT,Zku fun m6 dJ M cY cT=>Zaj (ZuC out (x.lead s back last) M) ZaT (Zku fun m7 dZ b7=>?_)⟩
   have gZ:=Zem s back hs x last dB
   have mP:=Nat.or_lt_two_pow cV gZ
   refine⟨(out|||x.lead s back last) == out,ZwD mP cV,Zab (fun h=>?_) (fun h=>?_)⟩
   ·rw[if_pos (by simpa using h)]at eB
    refine Zaa rfl (Zac (Mem.le_trans lm (Mem.le_trans cY dZ)) ?_)
    rw[←eB];rfl
   ·have gB:¬(out|||x.lead s back last)=out:=by simpa using h
    rw[if_neg gB]at eB
    have cI:out≤out|||x.lead s back last:=Nat.left_le_or
    refine⟨by trivial,q,by omega,_,_,out|||x.lead s back last,x.lead s back last,rfl,rfl,mP,gZ,by omega,eB,Mem.le_trans cP (Mem.le_trans cY dZ)⟩
  ·have he':i=t.mx:=by simpa using he
   rw[if_pos he']at eB
   refine Zaa rfl ⟨m,Mem.le_refl _,lm,?_⟩
   rw[←eB];rfl
end
def KR(a:Option Addr)(s:List Nat)(c:Nat)(back:Bool):Value→Mem→List (List Value)→Prop:=fun v m' _=>∃b,v=.agg #[.func (.func 99) #[] #[],.func (.func 100) #[] #[],.func (.func 101) #[txV a s c back] #[],.func (.func 102) #[] #[.pointer (some ⟨b,0,none⟩)],.func (.func 103) #[] #[.pointer (some ⟨b,0,none⟩)],.func (.func 105) #[txV a s c back] #[],.func (.func 106) #[] #[.pointer (some ⟨b,0,none⟩)]]∧m'.reads b 0 [.slice a s.length c,.bool back]
theorem ZeV(a:Option Addr)(s:List Nat)(c:Nat)(back:Bool)(m:Mem):CX Try.prog 84 #[txV a s c back] m [] (KR a s c back):=by
 apply ZdU
 unfold Zb7
 intro b m1 aW hb b1
 exact⟨m1,aW,Mem.le_refl _,b,rfl,hb⟩
theorem Zhq{a s c back}:∀(v:Value)(m':Mem) (css:List (List Value)),KR a s c back v m' css→Shape.fits (.agg [.fn,.fn,.fn,.fn,.fn,.fn,.fn]) v=true:=fun v _ _ ⟨b,e,_⟩=>by rw[e];rfl
theorem Zr7{t:T}(h:(t.subs.length == 1)=true):∃x,t.subs=[x]:=List.length_eq_one_iff.1 (by simpa using h)
theorem Zs4(t:T)(a:Option Addr)(s:List Nat)(c:Nat)(back:Bool)(f:Nat)(m:Mem)(hr:Rep m t)(hb:Byt m a s)(hs:s.length≤512)(hf:f < ZbL)(hk:t.k=0):CX Try.prog 53 #[txV a s c back,t.v,plV f] m [] (Ret (plV (0))):=by
 have key:Zbe a s.length c back t.s0 t.s1 t.s2 t.s3 t.mn t.mx t.a t.subs.length t.c (wdN f 0:Nat) (wdN f 1:Nat) (wdN f 2:Nat) (wdN f 3:Nat) (wdN f 4:Nat) (wdN f 5:Nat) (wdN f 6:Nat) (wdN f 7:Nat) (wdN f 8:Nat) m (Ret (plV (0))):=by
  unfold Zbe
  intro b1 m1 aW _ b2 m2 aY _ b3 m3 bQ _ b4
  refine⟨fun i _ _=>if i=1 then KR a s c back else Ret (plV (0)),KR a s c back,rfl,ZeV a s c back m3,Zhq,?_⟩
  rintro g0 i0 c0 g1 i1 c1 g2 i2 c2 g3 i3 c3 g4 i4 c4 g5 i5 c5 g6 i6 c6 m5 cP ⟨b,hv,cN⟩
  simp only[Value.agg.injEq,Array.mk.injEq,List.cons.injEq,Value.func.injEq,Fn.func.injEq,and_true]at hv
  obtain⟨⟨rfl,rfl,rfl⟩,⟨rfl,rfl,rfl⟩,⟨rfl,rfl,rfl⟩,⟨rfl,rfl,rfl⟩,⟨rfl,rfl,rfl⟩,⟨rfl,rfl,rfl⟩,⟨rfl,rfl,rfl⟩⟩:=hv
  have hM:m.le m5:=Mem.le_trans aW (Mem.le_trans aY (Mem.le_trans bQ cP))
  have bX:=ZuF t f m5
  rw[T.v,hk]at bX
  exact⟨⟨by omega,by omega⟩,Ret (plV (0)),rfl,bX,ZaT,Zku fun m6 dJ M cY cT gO=>Zac (Mem.le_trans hM cT) rfl⟩
 have h:=Zdl a s.length c back t.s0 t.s1 t.s2 t.s3 t.mn t.mx t.a t.subs.length t.c (wdN f 0:Nat) (wdN f 1:Nat) (wdN f 2:Nat) (wdN f 3:Nat) (wdN f 4:Nat) (wdN f 5:Nat) (wdN f 6:Nat) (wdN f 7:Nat) (wdN f 8:Nat) m _ key
 rw[T.v,hk]
 exact h
theorem Zs5(t:T)(a:Option Addr)(s:List Nat)(c:Nat)(back:Bool)(f:Nat)(m:Mem)(hr:Rep m t)(hb:Byt m a s)(hs:s.length≤512)(hf:f < ZbL)(hk:t.k=1):CX Try.prog 53 #[txV a s c back,t.v,plV f] m [] (Ret (plV (f))):=by
 have key:Zbf a s.length c back t.s0 t.s1 t.s2 t.s3 t.mn t.mx t.a t.subs.length t.c (wdN f 0:Nat) (wdN f 1:Nat) (wdN f 2:Nat) (wdN f 3:Nat) (wdN f 4:Nat) (wdN f 5:Nat) (wdN f 6:Nat) (wdN f 7:Nat) (wdN f 8:Nat) m (Ret (plV (f))):=by
  unfold Zbf
  intro b1 m1 aW _ b2 m2 aY _ b3 m3 bQ _ b4
  refine⟨fun i _ _=>if i=1 then KR a s c back else Ret (plV (f)),KR a s c back,rfl,ZeV a s c back m3,Zhq,?_⟩
  rintro g0 i0 c0 g1 i1 c1 g2 i2 c2 g3 i3 c3 g4 i4 c4 g5 i5 c5 g6 i6 c6 m5 cP ⟨b,hv,cN⟩
  simp only[Value.agg.injEq,Array.mk.injEq,List.cons.injEq,Value.func.injEq,Fn.func.injEq,and_true]at hv
  obtain⟨⟨rfl,rfl,rfl⟩,⟨rfl,rfl,rfl⟩,⟨rfl,rfl,rfl⟩,⟨rfl,rfl,rfl⟩,⟨rfl,rfl,rfl⟩,⟨rfl,rfl,rfl⟩,⟨rfl,rfl,rfl⟩⟩:=hv
  have hM:m.le m5:=Mem.le_trans aW (Mem.le_trans aY (Mem.le_trans bQ cP))
  have bX:=Zs3 t f m5
  rw[T.v,hk]at bX
  exact⟨⟨by omega,by omega⟩,Ret (plV (f)),rfl,bX,ZaT,Zku fun m6 dJ M cY cT gO=>Zac (Mem.le_trans hM cT) rfl⟩
 have h:=Zdm a s.length c back t.s0 t.s1 t.s2 t.s3 t.mn t.mx t.a t.subs.length t.c (wdN f 0:Nat) (wdN f 1:Nat) (wdN f 2:Nat) (wdN f 3:Nat) (wdN f 4:Nat) (wdN f 5:Nat) (wdN f 6:Nat) (wdN f 7:Nat) (wdN f 8:Nat) m _ key
 rw[T.v,hk]
 exact h
theorem Zs6(t:T)(a:Option Addr)(s:List Nat)(c:Nat)(back:Bool)(f:Nat)(m:Mem)(hr:Rep m t)(hb:Byt m a s)(hs:s.length≤512)(hf:f < ZbL)(hk:t.k=2):CX Try.prog 53 #[txV a s c back,t.v,plV f] m [] (Ret (plV (Zp5 t back f s 0 0))):=by
 have key:Zbg a s.length c back t.s0 t.s1 t.s2 t.s3 t.mn t.mx t.a t.subs.length t.c (wdN f 0:Nat) (wdN f 1:Nat) (wdN f 2:Nat) (wdN f 3:Nat) (wdN f 4:Nat) (wdN f 5:Nat) (wdN f 6:Nat) (wdN f 7:Nat) (wdN f 8:Nat) m (Ret (plV (Zp5 t back f s 0 0))):=by
  unfold Zbg
  intro b1 m1 aW _ b2 m2 aY _ b3 m3 bQ _ b4
  refine⟨fun i _ _=>if i=1 then KR a s c back else Ret (plV (Zp5 t back f s 0 0)),KR a s c back,rfl,ZeV a s c back m3,Zhq,?_⟩
  rintro g0 i0 c0 g1 i1 c1 g2 i2 c2 g3 i3 c3 g4 i4 c4 g5 i5 c5 g6 i6 c6 m5 cP ⟨b,hv,cN⟩
  simp only[Value.agg.injEq,Array.mk.injEq,List.cons.injEq,Value.func.injEq,Fn.func.injEq,and_true]at hv
  obtain⟨⟨rfl,rfl,rfl⟩,⟨rfl,rfl,rfl⟩,⟨rfl,rfl,rfl⟩,⟨rfl,rfl,rfl⟩,⟨rfl,rfl,rfl⟩,⟨rfl,rfl,rfl⟩,⟨rfl,rfl,rfl⟩⟩:=hv
  have hM:m.le m5:=Mem.le_trans aW (Mem.le_trans aY (Mem.le_trans bQ cP))
  have bX:=Zs2 t a s c back f m5 (hr.mono hM) (hb.mono hM) hs
  rw[T.v,hk]at bX
  exact⟨⟨by omega,by omega⟩,Ret (plV (Zp5 t back f s 0 0)),rfl,bX,ZaT,Zku fun m6 dJ M cY cT gO=>Zac (Mem.le_trans hM cT) rfl⟩
 have h:=Zdn a s.length c back t.s0 t.s1 t.s2 t.s3 t.mn t.mx t.a t.subs.length t.c (wdN f 0:Nat) (wdN f 1:Nat) (wdN f 2:Nat) (wdN f 3:Nat) (wdN f 4:Nat) (wdN f 5:Nat) (wdN f 6:Nat) (wdN f 7:Nat) (wdN f 8:Nat) m _ key
 rw[T.v,hk]
 exact h
theorem Zs7(t:T)(a:Option Addr)(s:List Nat)(c:Nat)(back:Bool)(f:Nat)(m:Mem)(hr:Rep m t)(hb:Byt m a s)(hs:s.length≤512)(hf:f < ZbL)(ih:IH a s c back t)(hk:t.k=3):CX Try.prog 53 #[txV a s c back,t.v,plV f] m [] (Ret (plV (if back then Ze3 s back t.subs f else ZfB s back t.subs f))):=by
 have key:Zbh a s.length c back t.s0 t.s1 t.s2 t.s3 t.mn t.mx t.a t.subs.length t.c (wdN f 0:Nat) (wdN f 1:Nat) (wdN f 2:Nat) (wdN f 3:Nat) (wdN f 4:Nat) (wdN f 5:Nat) (wdN f 6:Nat) (wdN f 7:Nat) (wdN f 8:Nat) m (Ret (plV (if back then Ze3 s back t.subs f else ZfB s back t.subs f))):=by
  unfold Zbh
  intro b1 m1 aW _ b2 m2 aY _ b3 m3 bQ _ b4
  refine⟨fun i _ _=>if i=1 then KR a s c back else Ret (plV (if back then Ze3 s back t.subs f else ZfB s back t.subs f)),KR a s c back,rfl,ZeV a s c back m3,Zhq,?_⟩
  rintro g0 i0 c0 g1 i1 c1 g2 i2 c2 g3 i3 c3 g4 i4 c4 g5 i5 c5 g6 i6 c6 m5 cP ⟨b,hv,cN⟩
  simp only[Value.agg.injEq,Array.mk.injEq,List.cons.injEq,Value.func.injEq,Fn.func.injEq,and_true]at hv
  obtain⟨⟨rfl,rfl,rfl⟩,⟨rfl,rfl,rfl⟩,⟨rfl,rfl,rfl⟩,⟨rfl,rfl,rfl⟩,⟨rfl,rfl,rfl⟩,⟨rfl,rfl,rfl⟩,⟨rfl,rfl,rfl⟩⟩:=hv
  have hM:m.le m5:=Mem.le_trans aW (Mem.le_trans aY (Mem.le_trans bQ cP))
  have bX:=ZvD t a s c back f m5 (hr.mono hM) (hb.mono hM) hs ih hf b 0 cN
  rw[T.v,hk]at bX
  exact⟨⟨by omega,by omega⟩,Ret (plV (if back then Ze3 s back t.subs f else ZfB s back t.subs f)),rfl,bX,ZaT,Zku fun m6 dJ M cY cT gO=>Zac (Mem.le_trans hM cT) rfl⟩
 have h:=Zdo a s.length c back t.s0 t.s1 t.s2 t.s3 t.mn t.mx t.a t.subs.length t.c (wdN f 0:Nat) (wdN f 1:Nat) (wdN f 2:Nat) (wdN f 3:Nat) (wdN f 4:Nat) (wdN f 5:Nat) (wdN f 6:Nat) (wdN f 7:Nat) (wdN f 8:Nat) m _ key
 rw[T.v,hk]
 exact h
theorem Zs8(t:T)(a:Option Addr)(s:List Nat)(c:Nat)(back:Bool)(f:Nat)(m:Mem)(hr:Rep m t)(hb:Byt m a s)(hs:s.length≤512)(hf:f < ZbL)(ih:IH a s c back t)(hk:t.k=4):CX Try.prog 53 #[txV a s c back,t.v,plV f] m [] (Ret (plV (Zos s back t.subs f 0))):=by
 have key:Zbi a s.length c back t.s0 t.s1 t.s2 t.s3 t.mn t.mx t.a t.subs.length t.c (wdN f 0:Nat) (wdN f 1:Nat) (wdN f 2:Nat) (wdN f 3:Nat) (wdN f 4:Nat) (wdN f 5:Nat) (wdN f 6:Nat) (wdN f 7:Nat) (wdN f 8:Nat) m (Ret (plV (Zos s back t.subs f 0))):=by
  unfold Zbi
  intro b1 m1 aW _ b2 m2 aY _ b3 m3 bQ _ b4
  refine⟨fun i _ _=>if i=1 then KR a s c back else Ret (plV (Zos s back t.subs f 0)),KR a s c back,rfl,ZeV a s c back m3,Zhq,?_⟩
  rintro g0 i0 c0 g1 i1 c1 g2 i2 c2 g3 i3 c3 g4 i4 c4 g5 i5 c5 g6 i6 c6 m5 cP ⟨b,hv,cN⟩
  simp only[Value.agg.injEq,Array.mk.injEq,List.cons.injEq,Value.func.injEq,Fn.func.injEq,and_true]at hv
  obtain⟨⟨rfl,rfl,rfl⟩,⟨rfl,rfl,rfl⟩,⟨rfl,rfl,rfl⟩,⟨rfl,rfl,rfl⟩,⟨rfl,rfl,rfl⟩,⟨rfl,rfl,rfl⟩,⟨rfl,rfl,rfl⟩⟩:=hv
  have hM:m.le m5:=Mem.le_trans aW (Mem.le_trans aY (Mem.le_trans bQ cP))
  have bX:=ZvE t a s c back f m5 (hr.mono hM) (hb.mono hM) hs ih hf b 0 cN
  rw[T.v,hk]at bX
  exact⟨⟨by omega,by omega⟩,Ret (plV (Zos s back t.subs f 0)),rfl,bX,ZaT,Zku fun m6 dJ M cY cT gO=>Zac (Mem.le_trans hM cT) rfl⟩
 have h:=Zdp a s.length c back t.s0 t.s1 t.s2 t.s3 t.mn t.mx t.a t.subs.length t.c (wdN f 0:Nat) (wdN f 1:Nat) (wdN f 2:Nat) (wdN f 3:Nat) (wdN f 4:Nat) (wdN f 5:Nat) (wdN f 6:Nat) (wdN f 7:Nat) (wdN f 8:Nat) m _ key
 rw[T.v,hk]
 exact h
theorem Zs9(t:T)(a:Option Addr)(s:List Nat)(c:Nat)(back:Bool)(f:Nat)(m:Mem)(hr:Rep m t)(hb:Byt m a s)(hs:s.length≤512)(hf:f < ZbL)(ih:IH a s c back t)(x:T)(hx:t.subs=[x])(jx:0≤t.mn)(hk:t.k=5):CX Try.prog 53 #[txV a s c back,t.v,plV f] m [] (Ret (plV (Zuc (ZeL s back t.subs) t.mn t.mx f))):=by
 have key:Zbj a s.length c back t.s0 t.s1 t.s2 t.s3 t.mn t.mx t.a t.subs.length t.c (wdN f 0:Nat) (wdN f 1:Nat) (wdN f 2:Nat) (wdN f 3:Nat) (wdN f 4:Nat) (wdN f 5:Nat) (wdN f 6:Nat) (wdN f 7:Nat) (wdN f 8:Nat) m (Ret (plV (Zuc (ZeL s back t.subs) t.mn t.mx f))):=by
  unfold Zbj
  intro b1 m1 aW _ b2 m2 aY _ b3 m3 bQ _ b4
  refine⟨fun i _ _=>if i=1 then KR a s c back else Ret (plV (Zuc (ZeL s back t.subs) t.mn t.mx f)),KR a s c back,rfl,ZeV a s c back m3,Zhq,?_⟩
  rintro g0 i0 c0 g1 i1 c1 g2 i2 c2 g3 i3 c3 g4 i4 c4 g5 i5 c5 g6 i6 c6 m5 cP ⟨b,hv,cN⟩
  simp only[Value.agg.injEq,Array.mk.injEq,List.cons.injEq,Value.func.injEq,Fn.func.injEq,and_true]at hv
  obtain⟨⟨rfl,rfl,rfl⟩,⟨rfl,rfl,rfl⟩,⟨rfl,rfl,rfl⟩,⟨rfl,rfl,rfl⟩,⟨rfl,rfl,rfl⟩,⟨rfl,rfl,rfl⟩,⟨rfl,rfl,rfl⟩⟩:=hv
  have hM:m.le m5:=Mem.le_trans aW (Mem.le_trans aY (Mem.le_trans bQ cP))
  have bX:=Zq9 t a s c back f m5 (hr.mono hM) (hb.mono hM) hs ih hf x hx jx
  rw[T.v,hk]at bX
  exact⟨⟨by omega,by omega⟩,Ret (plV (Zuc (ZeL s back t.subs) t.mn t.mx f)),rfl,bX,ZaT,Zku fun m6 dJ M cY cT gO=>Zac (Mem.le_trans hM cT) rfl⟩
 have h:=Zdq a s.length c back t.s0 t.s1 t.s2 t.s3 t.mn t.mx t.a t.subs.length t.c (wdN f 0:Nat) (wdN f 1:Nat) (wdN f 2:Nat) (wdN f 3:Nat) (wdN f 4:Nat) (wdN f 5:Nat) (wdN f 6:Nat) (wdN f 7:Nat) (wdN f 8:Nat) m _ key
 rw[T.v,hk]
 exact h
theorem Zta(t:T)(a:Option Addr)(s:List Nat)(c:Nat)(back:Bool)(f:Nat)(m:Mem)(hr:Rep m t)(hb:Byt m a s)(hs:s.length≤512)(hf:f < ZbL)(ih:IH a s c back t)(x:T)(hx:t.subs=[x])(hk:t.k=6):CX Try.prog 53 #[txV a s c back,t.v,plV f] m [] (Ret (plV (ZeL s back t.subs f))):=by
 have key:Zbk a s.length c back t.s0 t.s1 t.s2 t.s3 t.mn t.mx t.a t.subs.length t.c (wdN f 0:Nat) (wdN f 1:Nat) (wdN f 2:Nat) (wdN f 3:Nat) (wdN f 4:Nat) (wdN f 5:Nat) (wdN f 6:Nat) (wdN f 7:Nat) (wdN f 8:Nat) m (Ret (plV (ZeL s back t.subs f))):=by
  unfold Zbk
  intro b1 m1 aW _ b2 m2 aY _ b3 m3 bQ _ b4
  refine⟨fun i _ _=>if i=1 then KR a s c back else Ret (plV (ZeL s back t.subs f)),KR a s c back,rfl,ZeV a s c back m3,Zhq,?_⟩
  rintro g0 i0 c0 g1 i1 c1 g2 i2 c2 g3 i3 c3 g4 i4 c4 g5 i5 c5 g6 i6 c6 m5 cP ⟨b,hv,cN⟩
  simp only[Value.agg.injEq,Array.mk.injEq,List.cons.injEq,Value.func.injEq,Fn.func.injEq,and_true]at hv
  obtain⟨⟨rfl,rfl,rfl⟩,⟨rfl,rfl,rfl⟩,⟨rfl,rfl,rfl⟩,⟨rfl,rfl,rfl⟩,⟨rfl,rfl,rfl⟩,⟨rfl,rfl,rfl⟩,⟨rfl,rfl,rfl⟩⟩:=hv
  have hM:m.le m5:=Mem.le_trans aW (Mem.le_trans aY (Mem.le_trans bQ cP))
  have bX:=ZvF t a s c back f m5 (hr.mono hM) (hb.mono hM) hs ih hf x hx b 0 cN
  rw[T.v,hk]at bX
  exact⟨⟨by omega,by omega⟩,Ret (plV (ZeL s back t.subs f)),rfl,bX,ZaT,Zku fun m6 dJ M cY cT gO=>Zac (Mem.le_trans hM cT) rfl⟩
 have h:=Zdr a s.length c back t.s0 t.s1 t.s2 t.s3 t.mn t.mx t.a t.subs.length t.c (wdN f 0:Nat) (wdN f 1:Nat) (wdN f 2:Nat) (wdN f 3:Nat) (wdN f 4:Nat) (wdN f 5:Nat) (wdN f 6:Nat) (wdN f 7:Nat) (wdN f 8:Nat) m _ key
 rw[T.v,hk]
 exact h
theorem Zla(a:Option Addr)(s:List Nat)(c:Nat)(back:Bool)(hs:s.length≤512)(t:T)(hw:t.walks)(f:Nat)(m:Mem)(hf:f < ZbL)(hr:Rep m t)(hb:Byt m a s):CX Try.prog 53 #[txV a s c back,t.v,plV f] m [] (Ret (plV (t.lead s back f))):=by
 have ih:t.k≠0→IH a s c back t:=fun h0 x hx f m hf hr hb=>by
  have bW:=Zek hx
  exact Zla a s c back hs x (ZqI hw h0 hx) f m hf hr hb
 by_cases k0:t.k=0
 ·rw[ZsF k0];exact Zs4 t a s c back f m hr hb hs hf k0
 have hR:t.right=true:=by
  rcases hw with h|h
  ·exact absurd h k0
  ·exact h t (by rw[Za9];simp)
 have ih:=ih k0
 by_cases k1:t.k=1
 ·rw[Zud k1];exact Zs5 t a s c back f m hr hb hs hf k1
 by_cases k2:t.k=2
 ·rw[Zue k2];exact Zs6 t a s c back f m hr hb hs hf k2
 by_cases k3:t.k=3
 ·rw[ZsG k3];exact Zs7 t a s c back f m hr hb hs hf ih k3
 by_cases k4:t.k=4
 ·rw[Zuf k4];exact Zs8 t a s c back f m hr hb hs hf ih k4
 unfold T.right at hR
 rw[Bool.and_eq_true]at hR
 replace hR:=hR.2
 rw[if_neg k1,if_neg k2,if_neg k3,if_neg k4]at hR
 by_cases k5:t.k=5
 ·rw[if_pos k5,Bool.and_eq_true,Bool.and_eq_true]at hR
  obtain⟨x,hx⟩:=Zr7 hR.1
  have jx:0≤t.mn:=by
   have:=hR.2.1
   simp[Zdj]at this
   omega
  rw[Zug k5];exact Zs9 t a s c back f m hr hb hs hf ih x hx jx k5
 rw[if_neg k5,Bool.and_eq_true]at hR
 have k6:t.k=6:=by simpa using hR.1
 obtain⟨x,hx⟩:=Zr7 hR.2
 rw[Zuh k6];exact Zta t a s c back f m hr hb hs hf ih x hx k6
termination_by SizeOf.sizeOf t
decreasing_by exact bW
end Go.Proofs.Ythiefodednaikaa
set_option linter.unusedVariables false
set_option linter.unusedSimpArgs false
set_option linter.unusedSectionVars false
namespace Go.Proofs.Ythiefodednaikaa
open Go Go.Eng Go.Rx Go.Proofs Go.RowKit
set_option maxRecDepth 100000
theorem ZfH(t:T)(a:Option Addr)(len c:Nat)(i:Int)(m:Mem)(hr:Rep m t):CX Try.prog 52 #[t.v,.slice a len c,.int .i64 i] m [] (Ret (.int .i64 (t.wrong len i))):=by
 apply Zhk
 unfold Zex
 intro b m1 aW _
 refine⟨t.isNone,Zab (fun h=>Zah (ZuA t T0 m1 (hr.mono aW) (Zvs m1)) fun m2 aY=>⟨by trivial,ZaH ?_⟩) (fun h=>⟨by trivial,ZaH ?_⟩),!t.isNone&&!(t.check == 0),Zab (fun h=>ZaB (Zmg false false t m1 (hr.mono aW)) fun m2 aY=>⟨by trivial,ZaH ?_⟩) (fun h=>⟨by trivial,ZaH ?_⟩),Zab (fun h=>Zac aW ?_) (fun h=>Zab (fun h1=>Zac aW ?_) (fun h1=>⟨decide (i < 0)||decide (i > len),Zab (fun h2=>⟨by trivial,ZaH ?_⟩) (fun h2=>⟨by trivial,ZaH ?_⟩),Zab (fun h3=>Zac aW ?_) (fun h3=>Zac aW ?_)⟩))⟩
 ·unfold T.isNone;rw[h];rfl
 ·unfold T.isNone;rw[h];rfl
 ·rw[h];rfl
 ·rw[h];rfl
 ·unfold T.wrong;rw[if_pos h]
 ·unfold T.wrong;rw[if_neg (by rw[h];decide),if_pos (of_decide_eq_true h1)]
 ·rw[h2];rfl
 ·rw[h2];rfl
 ·unfold T.wrong;rw[if_neg (by rw[h];decide),if_neg (of_decide_eq_false h1),if_pos (by simpa using h3)]
 ·unfold T.wrong;rw[if_neg (by rw[h];decide),if_neg (of_decide_eq_false h1),if_neg (by simpa using h3)]
def ZbP(l:List Nat):List Value:=l.map fun i:Nat=>.int .i64 (i:Nat)
def ZuG(e:Int)(l:List Nat):Value→Mem→List (List Value)→Prop:=fun v m' _=>∃a c,v=.tuple #[.slice a l.length c,.int .i64 e]∧rowRd m' a (ZbP l)
theorem ZfI{e l}:∀(v:Value)(m':Mem) (css:List (List Value)),ZuG e l v m' css→Shape.fits (.tup [.slice,.int .i64]) v=true:=fun v _ _ ⟨a,c,h,_⟩=>by rw[h];rfl
def T.list(t:T)(s:List Nat)(i:Int)(back:Bool):List Nat:=if t.wrong s.length i=0 then ZbM (t.lead s back (2 ^ i.toNat))else[]
theorem Zlb{l:List Nat}{q i:Nat}(h:l[q]?=some i):ZbP (l.take q)++[.int .i64 (i:Nat)]=ZbP (l.take (q+1)):=by
 unfold ZbP
 rw[Zg4 h,List.map_append];rfl
theorem Zr8(t:T)(a:Option Addr)(s:List Nat)(c:Nat)(i:Int)(back:Bool)(m:Mem)(hr:Rep m t)(hb:t.wrong s.length i=0→Byt m a s):CX Try.prog 47 #[t.v,.slice a s.length c,.int .i64 i,.bool back] m [] (ZuG (t.wrong s.length i) (T.list t s i back)):=by
 apply Zij
 unfold Zfa
 intro b m1 aW _
 refine ZaB (ZfH t a s.length c i m1 (hr.mono aW)) fun m2 aY=>Zab (fun h=>?_) (fun h b1=>?_)
 ·have h':¬t.wrong s.length i=0:=by simpa using h
  refine Zac (Mem.le_trans aW aY) ⟨none,0,?_,.inl ?_⟩ <;> unfold T.list <;> rw[if_neg h'] <;> rfl
 ·have h':t.wrong s.length i=0:=by simpa using h
  obtain⟨hw,hs,mj,eW⟩:=Zen h'
  obtain⟨n,rfl⟩:∃n:Nat,i=n:=⟨i.toNat,by omega⟩
  have cT:m.le m2:=Mem.le_trans aW aY
  have hU:(2:Nat) ^ n < ZbL:=Zpv (by omega)
  refine⟨fun j _ _=>if j=5 then Ret (plV (2 ^ n))else Ret (plV (t.lead s back (2 ^ n))),Ret (plV (2 ^ n)),rfl,Zr5 n (by omega) m2,ZaT,Zku fun m3 bQ=>⟨Ret (plV (t.lead s back (2 ^ n))),rfl,Zla a s c back hs t hw (2 ^ n) m3 hU (hr.mono (Mem.le_trans cT bQ)) ((hb h').mono (Mem.le_trans cT bQ)),ZaT,Zku fun m4 cG b2 M cY gO dK m5 cP dO=>Zaj (Zs1 (t.lead s back (2 ^ n)) b2 m5 dO) (fun v _ _ ⟨c,e,_⟩=>by rw[e];rfl) ?_⟩⟩
  rintro g fi ca m6 dJ ⟨cb,hv,kK⟩
  simp only[Value.func.injEq,Fn.func.injEq,Array.mk.injEq]at hv
  obtain⟨rfl,rfl,rfl⟩:=hv
  have ji:m.le m6:=Mem.le_trans cT (Mem.le_trans cY (Mem.le_trans cP dJ))
  have hL:T.list t s (n:Int) back=ZbM (t.lead s back (2 ^ n)):=by unfold T.list;rw[if_pos h'];rfl
  rw[hL,h']
  generalize hX:ZbM (t.lead s back (2 ^ n))=X
  have rV:X.length≤513:=by rw[←hX];exact Zl9 _
  refine⟨X.map fun i=>[.int .i64 (i:Nat)],?_,?_,?_⟩
  ·rw[←hX];exact ZpR _ b2 cb m6 (dO.mono dJ) kK
  ·intro x hx
   obtain⟨y,_,rfl⟩:=List.mem_map.1 hx
   rfl
  refine⟨fun xs css tvs m' q=>∃a' c',css=[[.slice a' q c']]∧tvs=[.slice a' q c']∧rowRd m' a' (ZbP (X.take q)),⟨none,0,rfl,rfl,.inl rfl⟩,?_,?_⟩
  ·rintro z cs a1 n1 c1 m7 q dZ hq ⟨a',c',cS,iA,cC⟩
   obtain rfl:cs=[.slice a' q c']:=by simpa using cS
   obtain⟨rfl,rfl,rfl⟩:a1=a'∧n1=q∧c1=c':=by simpa using iA
   have hq':(X.map fun i=>[Value.int .i64 (i:Nat)])[(n1:Nat)]?=some [.int .i64 z]:=hq
   rw[List.getElem?_map]at hq'
   obtain⟨y,hy,hz⟩:=Option.map_eq_some_iff.1 hq'
   obtain rfl:z=y:=(Zpo hz).symm
   have bA:=(List.getElem?_eq_some_iff.1 hy).1
   refine Zal rfl fun b3 bR=>Zaa rfl ⟨.inl rfl,ZbP (X.take n1),[.int .i64 y],?_,rfl,cC.mono (Mem.le_add bR _),.inr ⟨b3,0,rfl,?_⟩,?_,?_,?_,?_⟩
   ·simp[ZbP,slN];omega
   ·intro j v hj;rw[Nat.zero_add,Mem.add_same];exact hj
   ·intro u hu;obtain rfl:u=.int .i64 y:=by simpa using hu
    rfl
   ·simp only[slN];omega
   ·simp only[slN];omega
   ·intro a2 c2 m8 nj iU
    refine⟨by trivial,a2,c2,rfl,rfl,?_⟩
    rw[←Zlb hy];exact iU
  ·rintro cs a1 n1 c1 m7 dZ ⟨a',c',cS,iA,cC⟩
   rw[List.length_map]at cS iA cC
   obtain rfl:cs=[.slice a' X.length c']:=by simpa using cS
   rw[List.take_length]at cC
   exact Zal rfl ⟨m7,Mem.le_trans ji dZ,Mem.le_refl _,a',c',rfl,cC⟩
theorem ZuH(t:T)(a:Option Addr)(s:List Nat)(c:Nat)(i:Int)(m:Mem)(hr:Rep m t)(hb:t.wrong s.length i=0→Byt m a s):CX Try.prog 14 #[t.v,.slice a s.length c,.int .i64 i] m [] (ZuG (t.wrong s.length i) (T.list t s i false)):=by
 apply Zfb
 unfold Zdb
 intro b m1 aW _
 refine Zaj (Zr8 t a s c i false m1 (hr.mono aW) (fun h=>(hb h).mono aW)) ZfI ?_
 intro a1 n1 c1 e1 m2 aY h
 exact⟨m2,Mem.le_trans aW aY,Mem.le_refl _,h⟩
theorem Zra(t:T)(a:Option Addr)(s:List Nat)(c:Nat)(i:Int)(m:Mem)(hr:Rep m t)(hb:t.wrong s.length i=0→Byt m a s):CX Try.prog 15 #[t.v,.slice a s.length c,.int .i64 i] m [] (ZuG (t.wrong s.length i) (T.list t s i true)):=by
 apply ZdG
 unfold Zcd
 intro b m1 aW _
 refine Zaj (Zr8 t a s c i true m1 (hr.mono aW) (fun h=>(hb h).mono aW)) ZfI ?_
 intro a1 n1 c1 e1 m2 aY h
 exact⟨m2,Mem.le_trans aW aY,Mem.le_refl _,h⟩
def T.matches(t:T)(s:List Nat):Bool:=t.wrong s.length 0 == 0&&(t.lead s false 1).testBit s.length
theorem ZfJ(t:T)(a:Option Addr)(s:List Nat)(c:Nat)(m:Mem)(hr:Rep m t)(hb:t.wrong s.length 0=0→Byt m a s):CX Try.prog 19 #[t.v,.slice a s.length c] m [] (Ret (.tuple #[.bool (T.matches t s),.int .i64 (t.wrong s.length 0)])):=by
 apply ZfG
 unfold Zc2
 intro b m1 aW _
 refine ZaB (ZfH t a s.length c 0 m1 (hr.mono aW)) fun m2 aY=>Zab (fun h=>?_) (fun h=>?_)
 ·have h':¬t.wrong s.length 0=0:=by simpa using h
  refine Zac (Mem.le_trans aW aY) ?_
  unfold T.matches
  rw[show(t.wrong s.length 0 == 0)=false by simpa using h'];rfl
 ·have h':t.wrong s.length 0=0:=by simpa using h
  obtain⟨hw,hs,mj,eW⟩:=Zen h'
  have cT:m.le m2:=Mem.le_trans aW aY
  have hU:(2:Nat) ^ 0 < ZbL:=Zpv (by omega)
  refine⟨fun j _ _=>if j=3 then Ret (plV (2 ^ 0))else Ret (plV (t.lead s false (2 ^ 0))),Ret (plV (2 ^ 0)),rfl,Zr5 0 (by omega) m2,ZaT,Zku fun m3 bQ=>⟨Ret (plV (t.lead s false (2 ^ 0))),rfl,Zla a s c false hs t hw (2 ^ 0) m3 hU (hr.mono (Mem.le_trans cT bQ)) ((hb h').mono (Mem.le_trans cT bQ)),ZaT,Zku fun m4 cG b2 M cY gO dK m5 cP dO=>Zah (Zk9 (t.lead s false (2 ^ 0)) s.length (by omega) b2 m5 dO) fun m6 dJ=>Zac (Mem.le_trans cT (Mem.le_trans cY (Mem.le_trans cP dJ))) ?_⟩⟩
  unfold T.matches
  rw[h'];rfl
theorem Ztb(r:Rg)(a:Option Addr)(len c:Nat)(n:Int)(m:Mem)(hr:Rep m r.t):CX Try.prog 48 #[r.v,.slice a len c,.int .i64 n] m [] (Ret (.int .i64 (Rg.wrong r len n))):=by
 apply Zhm
 unfold Zey
 intro b m1 aW _
 refine ZaB (Zmg r.bg r.en r.t m1 (hr.mono aW)) fun m2 aY=>Zab (fun h=>Zac (Mem.le_trans aW aY) ?_) (fun h=>ZaB (ZfH r.t a len c n m2 (hr.mono (Mem.le_trans aW aY))) fun m3 bQ=>Zac (Mem.le_trans aW (Mem.le_trans aY bQ)) ?_)
 ·unfold Rg.wrong;rw[if_neg (by simpa using h)]
 ·unfold Rg.wrong;rw[if_pos (by simpa using h)]
theorem Zr9(r:Rg)(a:Option Addr)(s:List Nat)(c:Nat)(n:Nat)(m:Mem)(hw:r.t.walks)(hs:s.length≤512)(hn:n≤s.length)(hr:Rep m r.t)(hb:Byt m a s):CX Try.prog 49 #[r.v,.slice a s.length c,.int .i64 n] m [] (Ret (.tuple (Zl1 (r.from s n)).toArray)):=by
 apply Zil
 unfold Zfc
 intro b m1 aW _ b1 m2 aY _ b2 b3
 have cT:m.le m2:=Mem.le_trans aW aY
 refine⟨r.en&&decide ((n:Int) < s.length),Zab (fun h=>⟨by trivial,ZaH (by rw[h];rfl)⟩) (fun h=>⟨by trivial,ZaH (by rw[h];rfl)⟩),Zab (fun h=>Zac cT ?_) (fun h=>?_)⟩
 ·unfold Rg.from;rw[if_pos h];rfl
 ·have hU:(2:Nat) ^ n < ZbL:=Zpv (by omega)
  refine⟨fun j _ _=>if j=5 then Ret (plV (2 ^ n))else Ret (plV (r.t.lead s true (2 ^ n))),Ret (plV (2 ^ n)),rfl,Zr5 n (by omega) m2,ZaT,Zku fun m3 bQ=>⟨Ret (plV (r.t.lead s true (2 ^ n))),rfl,Zla a s c true hs r.t hw (2 ^ n) m3 hU (hr.mono (Mem.le_trans cT bQ)) (hb.mono (Mem.le_trans cT bQ)),ZaT,Zku fun m4 cG b2 M cY gO dK=>Zab (fun pm m5 cP dO=>Zah (Zk9 (r.t.lead s true (2 ^ n)) 0 (by omega) b2 m5 dO) fun m6 dJ=>Zac (Mem.le_trans cT (Mem.le_trans cY (Mem.le_trans cP dJ))) ?_) (fun pm m5 cP dO=>Zaj (Zs1 (r.t.lead s true (2 ^ n)) b2 m5 dO) (fun v _ _ ⟨c,e,_⟩=>by rw[e];rfl) ?_)⟩⟩
  ·unfold Rg.from;rw[if_neg (by rw[h];decide),if_pos pm]
   cases(r.t.lead s true (2 ^ n)).testBit 0 <;> rfl
  rintro g fi ca m6 dJ ⟨cb,hv,kK⟩
  simp only[Value.func.injEq,Fn.func.injEq,Array.mk.injEq]at hv
  obtain⟨rfl,rfl,rfl⟩:=hv
  have ji:m.le m6:=Mem.le_trans cT (Mem.le_trans cY (Mem.le_trans cP dJ))
  have hF:r.from s n=ZrR n (ZbM (r.t.lead s true (2 ^ n))):=by
   unfold Rg.from;rw[if_neg (by rw[h];decide),if_neg (by rw[pm];decide)]
  refine⟨(ZbM (r.t.lead s true (2 ^ n))).map fun i=>[.int .i64 (i:Nat)],ZpR _ b2 cb m6 (dO.mono dJ) kK,?_,?_⟩
  ·intro x hx
   obtain⟨y,_,rfl⟩:=List.mem_map.1 hx
   rfl
  rw[hF]
  generalize ZbM (r.t.lead s true (2 ^ n))=X
  refine⟨fun xs css tvs m' q=>q=0,rfl,?_,?_⟩
  ·intro z cs cs1 m7 q dZ hq nf
   have hq':(X.map fun i=>[Value.int .i64 (i:Nat)])[(q:Nat)]?=some [.int .i64 z]:=hq
   rw[nf,List.getElem?_map]at hq'
   obtain⟨y,hy,hz⟩:=Option.map_eq_some_iff.1 hq'
   obtain rfl:z=y:=(Zpo hz).symm
   cases X with
   | nil=>simp at hy
   | cons x X=>
    obtain rfl:x=y:=by simpa using hy
    refine Zab (fun kP=>⟨by trivial,Zac (Mem.le_trans ji dZ) ?_⟩) (fun cI=>⟨by trivial,Zac (Mem.le_trans ji dZ) ?_⟩)
    ·have:x > n:=by have:=of_decide_eq_true kP;omega
     show _=Value.tuple (Zl1 (if x > n then none else some x)).toArray
     rw[if_pos this];rfl
    ·have:¬x > n:=by have:=of_decide_eq_false cI;omega
     show _=Value.tuple (Zl1 (if x > n then none else some x)).toArray
     rw[if_neg this];rfl
  ·intro cs cs1 m7 dZ nf
   cases X with
   | nil=>exact Zac (Mem.le_trans ji dZ) rfl
   | cons x X=>simp at nf
def ZnL(r:Rg)(s:List Nat)(n:Int):Option Nat:=if Rg.wrong r s.length n=0 then r.from s n.toNat else none
theorem Ztc{r:Rg}{len:Nat}{n:Int}(h:Rg.wrong r len n=0):r.t.walks∧len≤512∧0≤n∧n≤len:=by
 unfold Rg.wrong at h
 split at h
 ·exact Zen h
 ·exact absurd h (by decide)
theorem ZpS(o:Option Nat):∃i b,Zl1 o=[.int .i64 i,.bool b]:=by cases o <;> exact⟨_,_,rfl⟩
theorem Zsa(r:Rg)(a:Option Addr)(s:List Nat)(c:Nat)(n:Int)(m:Mem)(hr:Rep m r.t)(hb:Rg.wrong r s.length n=0→Byt m a s):CX Try.prog 17 #[r.v,.slice a s.length c,.int .i64 n] m [] (Ret (.tuple (Zl1 (ZnL r s n)++[Value.int .i64 (Rg.wrong r s.length n)]).toArray)):=by
 apply Zim
 unfold Zfd
 intro b m1 aW _
 refine ZaB (Ztb r a s.length c n m1 (hr.mono aW)) fun m2 aY=>Zab (fun h=>Zac (Mem.le_trans aW aY) ?_) (fun h=>?_)
 ·unfold ZnL;rw[if_neg (by simpa using h)];rfl
 ·have h':Rg.wrong r s.length n=0:=by simpa using h
  obtain⟨hw,hs,mj,eW⟩:=Ztc h'
  obtain⟨k,rfl⟩:∃k:Nat,n=k:=⟨n.toNat,by omega⟩
  have cT:m.le m2:=Mem.le_trans aW aY
  have hE:ZnL r s (k:Int)=r.from s k:=by unfold ZnL;rw[if_pos h'];rfl
  rw[hE,h']
  refine Zaj (Zr9 r a s c k m2 hw hs (by omega) (hr.mono cT) ((hb h').mono cT)) (fun v _ _ e=>by rw[e];obtain⟨i,b,e⟩:=ZpS (r.from s k);rw[e];rfl) ?_
  intro i bb m3 bQ e
  refine Zac (Mem.le_trans cT bQ) ?_
  have e':Zl1 (r.from s k)=[.int .i64 i,.bool bb]:=by
   have:=(Value.tuple.injEq _ _).mp e
   simpa using(congrArg Array.toList this).symm
  rw[e'];rfl
theorem ZpT(r:Rg)(a:Option Addr)(s:List Nat)(c:Nat)(n:Int)(m:Mem)(hr:Rep m r.t)(hb:Rg.wrong r s.length n=0→Byt m a s):CX Try.prog 16 #[r.v,.slice a s.length c,.int .i64 n] m [] (Ret (.tuple #[.bool (ZnL r s n).isSome,.int .i64 (Rg.wrong r s.length n)])):=by
 apply Zhn
 unfold Zez
 intro b m1 aW _
 refine Zaj (Zsa r a s c n m1 (hr.mono aW) (fun h=>(hb h).mono aW)) (fun v _ _ e=>by rw[e];cases ZnL r s n <;> rfl) ?_
 intro i bb e m2 aY he
 refine Zac (Mem.le_trans aW aY) ?_
 cases hF:ZnL r s n with
 | none=>
  rw[hF]at he
  have:=(Value.tuple.injEq _ _).mp he
  have:=congrArg Array.toList this
  simp[Zl1]at this
  obtain⟨rfl,rfl,rfl⟩:=this
  rfl
 | some j=>
  rw[hF]at he
  have:=(Value.tuple.injEq _ _).mp he
  have:=congrArg Array.toList this
  simp[Zl1]at this
  obtain⟨rfl,rfl,rfl⟩:=this
  rfl
end Go.Proofs.Ythiefodednaikaa
set_option linter.unusedVariables false
set_option linter.unusedSimpArgs false
set_option linter.unusedSectionVars false
namespace Go.Proofs.Ythiefodednaikaa
open Go Go.Eng Go.Rx Go.Proofs Go.RowKit
set_option maxRecDepth 100000
theorem Rgs.get{m:Mem}{a l}(h:Rgs m a l){i:Nat}{r:Rg}(hi:l[i]?=some r):(∃b o,a=some ⟨b,o,none⟩∧m.reads b (o+i*10) r.cs)∧Rep m r.t:=by
 refine⟨?_,h.2.2 r (List.mem_of_getElem? hi)⟩
 rcases h.2.1 with h|⟨b,o,h1,h2⟩
 ·subst h;simp at hi
 ·exact⟨b,o,h1,h2 i r hi⟩
theorem Ztd(l:List Rg)(al:Option Addr)(cl:Nat)(a:Option Addr)(len c:Nat)(n:Int)(m:Mem)(hl:l.length≤64→Rgs m al l):CX Try.prog 50 #[.slice al l.length cl,.slice a len c,.int .i64 n] m [] (Ret (.int .i64 (ZcL l len n))):=by
 apply Zho
 unfold ZeA
 refine Zab (fun h=>Zac (Mem.le_refl _) ?_) (fun h=>?_)
 ·unfold ZcL;rw[if_pos (of_decide_eq_true h)]
 have gZ:¬((l.length:Int) > 64):=of_decide_eq_false h
 refine⟨fun xs css _ m' q=>∃k:Nat,k≤l.length∧xs=[.int .i64 k]∧(l.take k).all (fun r=>r.t.check == 0)=true∧m.le m'∧q=l.length - k,⟨_,0,by omega,rfl,rfl,Mem.le_refl _,rfl⟩,?_⟩
 rintro z m1 q aW ⟨k,hk,hz,bS,_,hq⟩
 obtain rfl:z=k:=by simpa using hz
 refine Zab (fun bA=>?_) (fun cM=>?_)
 ·have aX:k < l.length:=by have:=of_decide_eq_true bA;omega
  obtain⟨r,hr⟩:=Ze9 aX
  obtain⟨⟨b,o,ha,hv⟩,iT⟩:=Rgs.get ((hl (by omega)).mono aW) hr
  have hw:IntKind.i64.wrap ((k:Int)+1)=((k+1:Nat):Int):=by rw[Zan (by omega) (by omega)];rfl
  simp only[hw,Int.toNat_natCast]
  refine⟨b,o,ha,⟨by omega,by omega⟩,_,_,_,_,_,_,_,_,_,_,hv,fun b2=>Zaa rfl (ZaB (Zmg r.bg r.en r.t m1 iT) fun m2 aY=>Zab (fun hc=>Zac (Mem.le_trans aW aY) ?_) (fun hc=>⟨l.length - (k+1),by omega,k+1,by omega,rfl,?_,Mem.le_trans aW aY,rfl⟩))⟩
  ·unfold ZcL
   rw[if_neg gZ,if_neg]
   intro jW
   rw[List.all_eq_true]at jW
   have:=jW r (List.mem_of_getElem? hr)
   rw[this]at hc;cases hc
  ·rw[Zg4 hr,List.all_append,bS]
   simp at hc
   simp[hc]
 ·have:k=l.length:=by have:=of_decide_eq_false cM;omega
  subst this
  rw[List.take_length]at bS
  refine ZaB (ZfH T1 a len c n m1 (Zvt m1)) fun m2 aY=>Zac (Mem.le_trans aW aY) ?_
  unfold ZcL
  rw[if_neg gZ,if_pos bS]
theorem Zrb(n:Nat)(o:Option (Nat×Nat)):∃x y z b,Zui n o=[.agg #[.int .i64 x,.int .i64 y,.int .i64 z],.bool b]:=by cases o <;> exact⟨_,_,_,_,rfl⟩
theorem ZuI(l:List Rg)(al:Option Addr)(cl:Nat)(a:Option Addr)(s:List Nat)(c n:Nat)(m:Mem)(hw:∀r∈l,r.t.walks)(hs:s.length≤512)(hn:n≤s.length)(hl:Rgs m al l)(hb:Byt m a s):CX Try.prog 51 #[.slice al l.length cl,.slice a s.length c,.int .i64 n] m [] (Ret (.tuple (Zui n (Zpz s n l 0)).toArray)):=by
 have bP:=hl.1
 apply Zip
 unfold Zfe
 intro b
 generalize hG:Zpz s n l 0=G
 refine⟨fun xs css _ m' q=>∃k:Nat,k≤l.length∧xs=[.int .i64 k]∧Zpz s n (l.drop k) k=G∧m.le m'∧q=l.length - k,⟨_,0,by omega,rfl,hG,Mem.le_refl _,rfl⟩,?_⟩
 rintro z cs m1 q aW ⟨k,hk,hz,cZ,_,hq⟩
 obtain rfl:z=k:=by simpa using hz
 refine Zab (fun bA=>?_) (fun cM=>?_)
 ·have aX:k < l.length:=by have:=of_decide_eq_true bA;omega
  obtain⟨r,hr⟩:=Ze9 aX
  obtain⟨⟨b1,o,ha,hv⟩,iT⟩:=Rgs.get (hl.mono aW) hr
  have gw:IntKind.i64.wrap ((k:Int)+1)=((k+1:Nat):Int):=by rw[Zan (by omega) (by omega)];rfl
  simp only[gw,Int.toNat_natCast]
  rw[ZkX hr]at cZ
  unfold Zpz at cZ
  refine⟨b1,o,ha,⟨by omega,by omega⟩,_,_,_,_,_,_,_,_,_,_,hv,fun b2=>Zaa rfl (Zaj (Zr9 r a s c n m1 (hw r (List.mem_of_getElem? hr)) hs hn iT (hb.mono aW)) (fun v _ _ e=>by rw[e];obtain⟨i,b,e⟩:=ZpS (r.from s n);rw[e];rfl) ?_)⟩
  intro i bb m2 aY e
  cases hF:r.from s n with
  | none=>
   rw[hF]at e cZ
   have:=congrArg Array.toList ((Value.tuple.injEq _ _).mp e)
   simp[Zl1]at this
   obtain⟨rfl,rfl⟩:=this
   exact ZjM (x:=false) rfl ⟨by trivial,l.length - (k+1),by omega,k+1,by omega,rfl,cZ,Mem.le_trans aW aY,rfl⟩
  | some j=>
   rw[hF]at e cZ
   have:=congrArg Array.toList ((Value.tuple.injEq _ _).mp e)
   simp[Zl1]at this
   obtain⟨rfl,rfl⟩:=this
   refine ZjM (x:=true) rfl (Zac (Mem.le_trans aW aY) ?_)
   rw[←cZ];rfl
 ·have:k=l.length:=by have:=of_decide_eq_false cM;omega
  subst this
  rw[List.drop_length]at cZ
  refine Zac aW ?_
  rw[←cZ];rfl
theorem Zrc{l:List Rg}{len:Nat}{n:Int}(h:ZcL l len n=0):l.length≤64:=by
 unfold ZcL at h
 split at h
 ·exact absurd h (by decide)
 ·omega
theorem Zte{l:List Rg}{len:Nat}{n:Int}(h:ZcL l len n=0):(∀r∈l,r.t.walks)∧len≤512∧0≤n∧n≤len:=by
 unfold ZcL at h
 split at h
 ·exact absurd h (by decide)
 ·split at h
  ·rename_i bS
   refine⟨fun r hr=>Ze4 ?_,(Zen h).2⟩
   simpa using List.all_eq_true.1 bS r hr
  ·exact absurd h (by decide)
def Zj8(l:List Rg)(s:List Nat):Option (Nat×Nat×Nat):=if ZcL l s.length 0=0 then ZlA l s (s.length+1) 0 else none
theorem Zj9(l:List Rg)(al:Option Addr)(cl:Nat)(a:Option Addr)(s:List Nat)(c:Nat)(m:Mem)(hl:l.length≤64→Rgs m al l)(hb:ZcL l s.length 0=0→Byt m a s):CX Try.prog 20 #[.slice al l.length cl,.slice a s.length c] m [] (Ret (.tuple (Zov (Zj8 l s)++[Value.int .i64 (ZcL l s.length 0)]).toArray)):=by
 apply Zhp
 unfold ZeB
 intro b
 refine ZaB (Ztd l al cl a s.length c 0 m hl) fun m1 aW=>Zab (fun h=>Zac aW ?_) (fun h=>?_)
 ·unfold Zj8;rw[if_neg (by simpa using h)];rfl
 ·have h':ZcL l s.length 0=0:=by simpa using h
  obtain⟨hw,hs,mj,eW⟩:=Zte h'
  have hE:Zj8 l s=ZlA l s (s.length+1) 0:=by unfold Zj8;rw[if_pos h']
  rw[hE,h']
  have rW:IntKind.i64.wrap ((s.length:Int)+1)=((s.length+1:Nat):Int):=by rw[Zan (by omega) (by omega)];rfl
  generalize hG:ZlA l s (s.length+1) 0=G
  refine⟨fun xs css _ m' q=>∃k:Nat,k≤s.length+1∧xs=[.int .i64 k]∧ZlA l s (s.length+1 - k) k=G∧m1.le m'∧q=s.length+1 - k,⟨_,0,by omega,rfl,hG,Mem.le_refl _,rfl⟩,?_⟩
  rintro z cs m2 q aY ⟨k,hk,hz,cZ,_,hq⟩
  obtain rfl:z=k:=by simpa using hz
  simp only[rW]
  refine Zab (fun bA=>?_) (fun cM=>?_)
  ·have aX:k < s.length+1:=by have:=of_decide_eq_true bA;omega
   have gw:IntKind.i64.wrap ((k:Int)+1)=((k+1:Nat):Int):=by rw[Zan (by omega) (by omega)];rfl
   simp only[gw]
   rw[show s.length+1 - k=(s.length+1 - (k+1))+1 by omega]at cZ
   unfold ZlA at cZ
   refine Zaj (ZuI l al cl a s c k m2 hw hs (by omega) ((hl (Zrc h')).mono (Mem.le_trans aW aY)) ((hb h').mono (Mem.le_trans aW aY))) (fun v _ _ e=>by rw[e];obtain⟨x,y,z,b,e⟩:=Zrb k (Zpz s k l 0);rw[e];rfl) ?_
   intro x y z bb m3 bQ e b2
   cases hF:Zpz s k l 0 with
   | none=>
    rw[hF]at e cZ
    have:=congrArg Array.toList ((Value.tuple.injEq _ _).mp e)
    simp[Zui]at this
    obtain⟨_,rfl⟩:=this
    exact ZjM (x:=false) rfl ⟨by trivial,s.length+1 - (k+1),by omega,k+1,by omega,rfl,by rw[←cZ],Mem.le_trans aY bQ,rfl⟩
   | some p=>
    obtain⟨j,i⟩:=p
    rw[hF]at e cZ
    have:=congrArg Array.toList ((Value.tuple.injEq _ _).mp e)
    simp[Zui]at this
    obtain⟨⟨rfl,rfl,rfl⟩,rfl⟩:=this
    refine ZjM (x:=true) rfl (Zac (Mem.le_trans aW (Mem.le_trans aY bQ)) ?_)
    rw[←cZ];rfl
  ·have:k=s.length+1:=by have:=of_decide_eq_false cM;omega
   subst this
   rw[Nat.sub_self]at cZ
   unfold ZlA at cZ
   refine Zac (Mem.le_trans aW aY) ?_
   rw[←cZ];rfl
theorem Zdz(x y:List Nat)(ax ay:Option Addr)(cx cy:Nat)(m:Mem)(hx:rowRd m ax (ZbP x))(hy:rowRd m ay (ZbP y))(bP:x.length≤1000000000000000):CX Try.prog 28 #[.slice ax x.length cx,.slice ay y.length cy] m [] (Ret (.bool (x == y))):=by
 apply ZcG
 unfold Zbv
 refine Zab (fun h=>Zac (Mem.le_refl _) ?_) (fun h=>?_)
 ·have:¬x=y:=fun e=>by subst e;simp at h
  rw[show(x == y)=false by simpa using this]
 have hl:x.length=y.length:=by
  simp only[Bool.not_eq_false',beq_iff_eq]at h
  omega
 refine⟨fun xs css _ m' q=>∃k:Nat,k≤x.length∧xs=[.int .i64 k]∧x.take k=y.take k∧m.le m'∧q=x.length - k,⟨_,0,by omega,rfl,rfl,Mem.le_refl _,rfl⟩,?_⟩
 rintro z m1 q aW ⟨k,hk,hz,cZ,_,hq⟩
 obtain rfl:z=k:=by simpa using hz
 refine Zab (fun bA=>?_) (fun cM=>?_)
 ·have aX:k < x.length:=by have:=of_decide_eq_true bA;omega
  obtain⟨u,hu⟩:=Ze9 aX
  obtain⟨v,hv⟩:=Ze9 (l:=y) (k:=k) (by omega)
  have gw:IntKind.i64.wrap ((k:Int)+1)=((k+1:Nat):Int):=by rw[Zan (by omega) (by omega)];rfl
  rcases hx.mono aW with hx|⟨b,o,h1,h2⟩
  ·rw[show x=[] by simpa[ZbP]using hx]at aX;simp at aX
  rcases hy.mono aW with hy|⟨b',o',h1',h2'⟩
  ·rw[hl,show y=[] by simpa[ZbP]using hy]at aX;simp at aX
  simp only[gw,Int.toNat_natCast,Nat.mul_one]
  refine⟨b,o,h1,⟨by omega,by omega⟩,_,h2 k (.int .i64 u) (by rw[ZbP,List.getElem?_map,hu];rfl),b',o',h1',⟨by omega,by omega⟩,_,h2' k (.int .i64 v) (by rw[ZbP,List.getElem?_map,hv];rfl),Zaa rfl (Zab (fun hc=>Zac aW ?_) (fun hc=>⟨x.length - (k+1),by omega,k+1,by omega,rfl,?_,aW,rfl⟩))⟩
  ·have:¬x=y:=fun e=>by
    subst e
    rw[hu]at hv;cases hv
    simp at hc
   rw[show(x == y)=false by simpa using this]
  ·have:u=v:=by
    have:=hc
    simp[RowKit.intOf]at this
    omega
   rw[Zg4 hu,Zg4 hv,cZ,this]
 ·have:k=x.length:=by have:=of_decide_eq_false cM;omega
  subst this
  rw[List.take_length,hl,List.take_length]at cZ
  refine Zac aW ?_
  rw[cZ];simp
end Go.Proofs.Ythiefodednaikaa
set_option linter.unusedVariables false
set_option linter.unusedSimpArgs false
set_option linter.unusedSectionVars false
namespace Go.Proofs.Ythiefodednaikaa
open Go Go.Eng Go.Rx Go.Proofs Go.RowKit
set_option maxRecDepth 100000
theorem ZwE{n:Int}(h1:0≤n)(h2:n < 256):IntKind.u8.wrap n=n:=by
 unfold IntKind.wrap
 simp only[IntKind.bits,IntKind.signed,Bool.false_and,Bool.false_eq_true,if_false]
 have e:(2:Int) ^ 8=256:=by decide
 rw[e];omega
theorem ZdA(c:Nat)(hc:c < 256)(m:Mem):CX Try.prog 35 #[.int .u8 c] m [] (Zh7 (fun t=>t=Zaw c)):=by
 apply Zg9
 unfold Zep
 intro b b1
 have hq:IntKind.u8.wrap (Int.tdiv (c:Int) 64)=((c / 64:Nat):Int):=by rw[Zvg];exact ZwE (by omega) (by omega)
 have hr:IntKind.u64.wrap (1*2 ^ min (Int.toNat (Int.tmod (c:Int) 64)) 64)=((2 ^ (c % 64):Nat):Int):=by
  rw[Zr4,Int.toNat_natCast,Nat.min_eq_left (by omega),Int.one_mul]
  have:=ZtC (2 ^ (c % 64)) (by
   have:2 ^ (c % 64) < 2 ^ 64:=Nat.pow_lt_pow_right (by omega) (by omega)
   exact this)
  rw[←this];push_cast;rfl
 simp only[hq,hr,Int.toNat_natCast,Nat.zero_add,Nat.mul_one]
 have hL:(Value.agg #[.int .u8 2,.int .u64 (ZkY c 0),.int .u64 (ZkY c 1),.int .u64 (ZkY c 2),.int .u64 (ZkY c 3),.int .i64 0,.int .i64 0,.slice none 0 0])=(Zaw c).v:=rfl
 refine⟨by omega,by omega,by rw[Zr4];omega,⟨by omega,by omega⟩,Zaa (by rw[Nat.ble_eq];omega) ?_⟩
 have:c / 64=0∨c / 64=1∨c / 64=2∨c / 64=3:=by omega
 rcases this with e|e|e|e <;>
 ·rw[e]
  refine Zaa rfl (Zaa rfl (Zac (Mem.le_refl _) ⟨Zaw c,?_,Zd8 c m,rfl⟩))
  rw[←hL]
  unfold ZkY
  rw[e]
  rfl
theorem ZuJ(a:Option Addr)(c:Nat)(l:List T)(m:Mem)(hl:RepL m a l):CX Try.prog 13 #[.slice a l.length c] m [] (Zh7 (fun t=>t=ZbA 3 0 0 a c l)):=by
 apply ZlD
 unfold Zha
 intro b
 exact Zac (Mem.le_refl _) ⟨ZbA 3 0 0 a c l,rfl,Zeo hl (by omega) (by omega) (by omega),rfl⟩
theorem Zsb(a:Option Addr)(c:Nat)(l:List T)(m:Mem)(hl:RepL m a l):CX Try.prog 36 #[.slice a l.length c] m [] (Zh7 (fun t=>t=ZbA 4 0 0 a c l)):=by
 apply ZlE
 unfold Zhb
 intro b
 exact Zac (Mem.le_refl _) ⟨ZbA 4 0 0 a c l,rfl,Zeo hl (by omega) (by omega) (by omega),rfl⟩
theorem ZuK(t:T)(m:Mem)(hr:Rep m t):CX Try.prog 38 #[t.v] m [] (Zh7 (fun u=>∃a c,u=ZbA 5 0 (-1) a c [t])):=by
 apply Zj0
 unfold Zgh
 intro b m1 aW _ b1 b2 hf
 have cI:=Mem.le_add hf t.cs
 refine ZrJ (Mem.le_trans aW cI) ⟨ZbA 5 0 (-1) (some ⟨b2,0,none⟩) 1 [t],rfl,Zeo (ZsI ?_ (hr.mono (Mem.le_trans aW cI))) (by omega) (by omega) (by omega),_,_,rfl⟩
 intro j v hj
 rw[Nat.zero_add,Mem.add_same];exact hj
def ZcT(s:ByteArray):List Nat:=s.data.toList.map fun b=>b.toNat
theorem Zgl(s:ByteArray):ZaD s=(ZcT s).map fun c:Nat=>Value.int .u8 c:=by
 unfold ZaD ZcT
 rw[List.map_map];rfl
theorem Zlc(s:ByteArray):(ZcT s).length=s.size:=by unfold ZcT;rw[List.length_map,Array.length_toList];rfl
theorem Zrd(s:ByteArray):∀c∈ZcT s,c < 256:=by
 intro c hc
 unfold ZcT at hc
 obtain⟨b,_,rfl⟩:=List.mem_map.1 hc
 exact b.toBitVec.isLt
theorem ZnM(s:ByteArray)(hs:(ZcT s).length≤100000)(m:Mem):CX Try.prog 37 #[.string s] m [] (Zh7 (fun t=>∃a c,t=ZbA 3 0 0 a c ((ZcT s).map Zaw))):=by
 apply Zj1
 unfold Zgi
 intro b b1 b2 c0 qh sS
 have bP:=Zlc s
 refine⟨fun xs css tvs m' q=>∃(k:Nat)(a:Option Addr)(c:Nat),k≤s.size∧xs=[.int .i64 k]∧css=[[.int .u8 3,.int .u64 0,.int .u64 0,.int .u64 0,.int .u64 0,.int .i64 0,.int .i64 0,.slice a k c]]∧tvs=[.slice a k c]∧rowRd m' a (Zcv (((ZcT s).take k).map Zaw))∧q=s.size - k,⟨_,0,none,0,by omega,rfl,rfl,rfl,.inl rfl,rfl⟩,?_⟩
 rintro n cs a n1 c m1 q aW ⟨k,a',c',hk,hn,cS,iA,cC,hq⟩
 obtain rfl:n=k:=by simpa using hn
 obtain⟨rfl,rfl,rfl⟩:a=a'∧n1=k∧c=c':=by simpa using iA
 obtain rfl:cs=[.int .u8 3,.int .u64 0,.int .u64 0,.int .u64 0,.int .u64 0,.int .i64 0,.int .i64 0,.slice a n1 c]:=by simpa using cS
 have cY:m.le m1:=Mem.le_trans (Mem.le_add qh _) aW
 refine Zab (fun bA=>?_) (fun cM=>?_)
 ·have aX:n1 < s.size:=by have:=of_decide_eq_true bA;omega
  obtain⟨ch,ll⟩:=Ze9 (l:=ZcT s) (k:=n1) (by omega)
  have ii:=Zrd s ch (List.mem_of_getElem? ll)
  have hw:IntKind.i64.wrap ((n1:Int)+1)=((n1+1:Nat):Int):=by rw[Zan (by omega) (by omega)];rfl
  have hv:m1 b2 (0+n1)=some (.int .u8 ch):=aW _ _ _ (by rw[Nat.zero_add,Mem.add_same,Zgl,List.getElem?_map,ll];rfl)
  simp only[hw,Int.toNat_natCast,Nat.mul_one]
  refine⟨b2,0,rfl,⟨by omega,by omega⟩,_,hv,fun _ _ _=>Zh7 (fun t=>t=Zaw ch),Zal rfl ⟨Zh7 (fun t=>t=Zaw ch),rfl,ZdA ch ii m1,Za1,ZdK fun t m2 aY hr ht b4 kQ=>?_⟩⟩
  have cI:=Mem.le_add kQ t.cs
  refine Zaa rfl ⟨.inl rfl,Zcv (((ZcT s).take n1).map Zaw),t.cs,?_,rfl,cC.mono (Mem.le_trans aY cI),.inr ⟨b4,0,rfl,?_⟩,?_,?_,?_,fun a2 c2 m3 bQ iV=>Zaa rfl fun M cY cT gO dK=>⟨by trivial,s.size - (n1+1),by omega,n1+1,a2,c2,by omega,rfl,rfl,rfl,?_,rfl⟩⟩
  ·rw[ZfC,List.length_map,List.length_take,Nat.min_eq_left (by omega)];rfl
  ·intro j v hj
   rw[Nat.zero_add,Mem.add_same];exact hj
  ·intro u hu
   simp only[T.cs,List.mem_cons,List.not_mem_nil,or_false]at hu
   rcases hu with rfl|rfl|rfl|rfl|rfl|rfl|rfl|rfl <;> rfl
  ·simp only[slN];omega
  ·simp only[slN];omega
  ·rw[Zg4 ll,List.map_append,Zgb]
   have e:Zcv (List.map Zaw [ch])=t.cs:=by rw[ht];rfl
   rw[e]
   exact iV.mono dK
 ·have:n1=s.size:=by have:=of_decide_eq_false cM;omega
  subst this
  rw[←bP,List.take_length]at cC
  refine Zaa rfl (ZrJ cY ⟨ZbA 3 0 0 a c ((ZcT s).map Zaw),?_,Zeo (ZrS cC ?_ ?_) (by omega) (by omega) (by omega),a,c,rfl⟩)
  ·show _=Value.agg #[.int .u8 3,.int .u64 0,.int .u64 0,.int .u64 0,.int .u64 0,.int .i64 0,.int .i64 0,.slice a ((ZcT s).map Zaw).length c]
   rw[List.length_map,bP]
  ·intro x hx
   obtain⟨y,_,rfl⟩:=List.mem_map.1 hx
   exact Zd8 y m1
  ·rw[List.length_map];omega
end Go.Proofs.Ythiefodednaikaa
