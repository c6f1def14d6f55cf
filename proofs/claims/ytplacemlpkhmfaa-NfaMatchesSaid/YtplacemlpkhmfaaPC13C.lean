/- Part of the proof: conditions and contracts of functions of this program. No condition of its own. -/
import Derived.Test.YtplacemlpkhmfaaPVB
import Derived.Test.YtplacemlpkhmfaaPC13B
import Derived.Test.YtplacemlpkhmfaaMr
set_option linter.unusedVariables false
set_option linter.unusedSimpArgs false
namespace Go.Proofs.Ytplacemlpkhmfaa
open Go Go.Eng Go.Rx Go.Proofs Go.RowKit
set_option maxRecDepth 100000
theorem Zsh(i:Nat):Int.tdiv (i:Int) 64=((i / 64:Nat):Int):=rfl
theorem ZjO(i:Nat):Int.tmod (i:Int) 64=((i % 64:Nat):Int):=rfl
theorem ZwT(i:Nat)(h:i < 576)(m:Mem):CX Try.prog 90 #[.int .i64 i] m [] (Ret (plV (2 ^ i))):=by
 apply ZnD
 unfold ZiX
 intro b b2
 have hq:IntKind.i64.wrap (Int.tdiv (i:Int) 64)=((i / 64:Nat):Int):=by rw[Zsh];exact Zat (by omega) (by omega)
 have hr:IntKind.u64.wrap (1*2 ^ min (Int.toNat (Int.tmod (i:Int) 64)) 64)=((2 ^ (i % 64):Nat):Int):=by
  rw[ZjO,Int.toNat_natCast,Nat.min_eq_left (by omega),Int.one_mul]
  have:=Zs4 (2 ^ (i % 64)) (by
   have:2 ^ (i % 64) < 2 ^ 64:=Nat.pow_lt_pow_right (by omega) (by omega)
   exact this)
  rw[←this];push_cast;rfl
 have hs:=ZyO (q:=i / 64) (r:=i % 64) (by omega) (by omega)
 rw[show 64*(i / 64)+i % 64=i by omega]at hs
 simp only[hq,hr,Int.toNat_natCast,Nat.zero_add,Nat.mul_one,hs]
 refine⟨by omega,by omega,by rw[ZjO];omega,⟨by omega,by omega⟩,Zaa (by rw[Nat.ble_eq];omega) (Zaa rfl (Zac (Mem.le_refl _) rfl))⟩
theorem ZpD(f i:Nat)(h:i < 576)(b:Nat)(m:Mem)(hb:m.reads b 0 (plL f)):CX Try.prog 91 #[.pointer (some ⟨b,0,none⟩),.int .i64 i] m [] (Ret (.bool (f.testBit i))):=by
 apply ZeU
 unfold ZcK
 have hq:IntKind.i64.wrap (Int.tdiv (i:Int) 64)=((i / 64:Nat):Int):=by rw[Zsh];exact Zat (by omega) (by omega)
 simp only[hq,Int.toNat_natCast,Nat.zero_add,Nat.mul_one]
 have eY:(wdN f (i / 64)).testBit (i % 64)=f.testBit i:=by
  rw[Ziy,show 64*(i / 64)+i % 64=i by omega];simp;omega
 refine⟨by omega,⟨by omega,by omega⟩,_,(by have:=hb (i / 64) _ (Zuf (by omega));simpa using this),by omega,Zaa rfl ⟨by rw[ZjO];omega,Zac (Mem.le_refl _) ?_⟩⟩
 rw[ZjO,Int.toNat_natCast,Nat.min_eq_left (by omega)]
 show Value.bool (IntKind.u64.wrap _ == 1)=_
 simp only[intOf]
 rw[ZlE _ _ (Zg5 _ _),eY]
theorem ZwU(f g:Nat)(m:Mem):CX Try.prog 152 #[plV f,plV g] m [] (Ret (plV (f|||g))):=by
 apply ZfO
 unfold Zc3
 intro b b1 m1 bJ _ b2
 refine⟨fun xs css _ m' q=>∃k:Nat,k≤9∧xs=[.int .i64 k]∧css=[orL f g k]∧m1.le m'∧q=9 - k,⟨9,0,by omega,rfl,rfl,Mem.le_refl _,rfl⟩,?_⟩
 rintro n cs m2 q bT ⟨k,hk,hn,cK,_,hq⟩
 obtain rfl:n=k:=by simpa using hn
 obtain rfl:cs=orL f g k:=by simpa using cK
 refine Zab (fun bS=>?_) (fun cX=>?_)
 ·have bR:k < 9:=by have:=of_decide_eq_true bS;omega
  have h1:=Zwx (f:=f) (g:=g) (k:=k) bR
  rw[if_neg (by omega)]at h1
  have h2:=Zuf (f:=g) bR
  simp only[Int.toNat_natCast,Nat.zero_add,Nat.mul_one]
  refine⟨⟨by omega,by omega⟩,Zam h1 ⟨⟨by omega,by omega⟩,Zam h2 (Zaa rfl ⟨⟨by omega,by omega⟩,Zaa (by rw[Nat.ble_eq];simp[orL];omega) ⟨by trivial,9 - (k+1),by omega,k+1,by omega,?_,?_,Mem.le_trans (by assumption) (Mem.le_refl _),rfl⟩⟩)⟩⟩
  ·rw[Zat (by omega) (by omega)];rfl
  ·show[Zan _ _ [Value.int .u64 (IntKind.u64.wrap _)]]=_
   simp only[intOf]
   rw[Zjw _ _ (Zg5 _ _) (Zg5 _ _),Zvd bR]
 ·have:k=9:=by have:=of_decide_eq_false cX;omega
  subst this
  exact Zaa (by rfl) (Zac (Mem.le_trans bJ bT) rfl)
theorem Ztu(f k:Nat)(h:k≤513):(ZeM f).take (((List.range k).filter fun i=>f.testBit i).length)=(List.range k).filter fun i=>f.testBit i:=by
 have e:List.range 513=List.range k++(List.range 513).drop k:=by
  have:=(List.take_append_drop k (List.range 513)).symm
  rwa [List.take_range,Nat.min_eq_left h]at this
 unfold ZeM
 conv=>lhs;rw[e,List.filter_append]
 rw[List.take_left']
 rfl
theorem ZwV(f k:Nat)(h:k < 513)(hb:f.testBit k=true):(ZeM f)[((List.range k).filter fun i=>f.testBit i).length]?=some k:=by
 have h1:=Ztu f (k+1) (by omega)
 have e:(List.range (k+1)).filter (fun i=>f.testBit i)=(List.range k).filter (fun i=>f.testBit i)++[k]:=by
  rw[List.range_succ,List.filter_append];simp[hb]
 rw[e]at h1
 have h2:=congrArg (fun l=>l[((List.range k).filter fun i=>f.testBit i).length]?) h1
 simpa[List.getElem?_take]using h2
theorem ZwW(f:Nat)(b c:Nat)(m:Mem)(hb:m.reads b 0 (plL f))(hc:m.reads c 0 [.pointer (some ⟨b,0,none⟩)]):IX Try.prog 155 [] [.pointer (some ⟨c,0,none⟩)] m ((ZeM f).map fun i=>[.int .i64 (i:Nat)]):=by
 apply ZdJ 0 [] [] c 0
 unfold Zcf
 intro l
 refine⟨fun xs _ _ m' q=>∃k:Nat,k≤513∧xs=[.int .i64 (((List.range k).filter fun i=>f.testBit i).length:Nat),.int .i64 k]∧m.le m'∧q=513 - k,⟨513,0,by omega,rfl,Mem.le_refl _,rfl⟩,?_⟩
 rintro y n m1 q bJ ⟨k,hk,gn,_,hq⟩
 simp only[List.cons.injEq,Value.int.injEq,true_and,and_true]at gn
 obtain⟨rfl,rfl⟩:=gn
 have dD:((List.range (k+1)).filter fun i=>f.testBit i).length=((List.range k).filter fun i=>f.testBit i).length+(if f.testBit k then 1 else 0):=by
  rw[List.range_succ,List.filter_append,List.length_append];simp[List.filter_cons];split <;> simp
 refine Zab (fun bS=>?_) (fun cX=>?_)
 ·have bR:k < 513:=by have:=of_decide_eq_true bS;omega
  refine⟨_,bJ _ _ _ (hc 0 _ rfl),Zak (ZpD f k (by omega) b m1 (hb.mono bJ)) fun m2 bT=>Zab (fun h=>?_) (fun h=>?_)⟩
  ·refine⟨⟨rfl,by omega,?_⟩,⟨513 - (k+1),by omega,k+1,by omega,?_,Mem.le_trans bJ bT,rfl⟩,.inr rfl⟩
   ·rw[Int.toNat_natCast]
    show((ZeM f).map fun i=>[Value.int .i64 (i:Nat)])[((List.range k).filter fun i=>f.testBit i).length]?=_
    rw[List.getElem?_map,ZwV f k bR h];rfl
   ·rw[dD,if_pos h,Zat (by omega) (by omega)];rfl
  ·refine⟨513 - (k+1),by omega,k+1,by omega,?_,Mem.le_trans bJ bT,rfl⟩
   rw[dD,if_neg (by simp[h]),Zat (by omega) (by omega)];rfl
 ·have:k=513:=by have:=of_decide_eq_false cX;omega
  subst this
  left
  simp[ZeM]
theorem ZxZ(f b:Nat)(m:Mem)(hb:m.reads b 0 (plL f)):CX Try.prog 120 #[.pointer (some ⟨b,0,none⟩)] m [] (fun v m' _=>∃c,v=.func (.func 155) #[] #[.pointer (some ⟨c,0,none⟩)]∧m'.reads c 0 [.pointer (some ⟨b,0,none⟩)]):=by
 apply ZeV
 unfold ZcL
 intro c m1 bJ hc
 exact⟨m1,bJ,Mem.le_refl _,c,rfl,hc⟩
theorem sh6:∀c:Nat,c < 256→IntKind.u8.wrap ((BitVec.ofInt 8 (c:Int)&&&BitVec.ofInt 8 63).toNat:Int)=((c % 64:Nat):Int)∧Int.fdiv (c:Int) (2 ^ 6)=((c / 64:Nat):Int):=by decide
theorem Zsi(t:T)(c:Nat)(hc:c < 256)(m:Mem)(hr:Rep m t):CX Try.prog 117 #[.agg #[.int .u64 t.s0,.int .u64 t.s1,.int .u64 t.s2,.int .u64 t.s3],.int .u8 c] m [] (Ret (.bool (t.hasB c))):=by
 apply ZpC
 unfold ZkX
 intro b m1 bJ _
 obtain⟨h1,h2⟩:=sh6 c hc
 simp only[h1,h2,Int.toNat_natCast,Nat.zero_add,Nat.mul_one]
 have cO:=Zu8 hr
 have hw:∃w:Int,[Value.int .u64 t.s0,.int .u64 t.s1,.int .u64 t.s2,.int .u64 t.s3][c / 64]?=some (.int .u64 w)∧0≤w∧w < 18446744073709551616∧t.hasB c=w.toNat.testBit (c % 64):=by
  have:c / 64=0∨c / 64=1∨c / 64=2∨c / 64=3:=by omega
  unfold T.hasB
  rcases this with e|e|e|e
  ·exact⟨t.s0,by rw[e];rfl,cO.s0.1,cO.s0.2,by simp[e]⟩
  ·exact⟨t.s1,by rw[e];rfl,cO.s1.1,cO.s1.2,by simp[e]⟩
  ·exact⟨t.s2,by rw[e];rfl,cO.s2.1,cO.s2.2,by simp[e]⟩
  ·exact⟨t.s3,by rw[e];rfl,cO.s3.1,cO.s3.2,by simp[e]⟩
 obtain⟨w,eR,eZ,lH,vo⟩:=hw
 refine⟨by omega,⟨by omega,by omega⟩,Zam eR (Zaa rfl ⟨by omega,Zac bJ ?_⟩)⟩
 rw[vo,Nat.min_eq_left (by omega)]
 obtain⟨n,rfl⟩:∃n:Nat,w=n:=⟨w.toNat,by omega⟩
 show Value.bool (IntKind.u64.wrap _ == 1)=_
 simp only[intOf]
 rw[ZlE _ _ (by omega)]
 simp
end Go.Proofs.Ytplacemlpkhmfaa

