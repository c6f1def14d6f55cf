/- Part of the proof: conditions and contracts of functions of this program. No condition of its own. -/
import Derived.Test.YtplacemlpkhmfaaPVD
import Derived.Test.YtplacemlpkhmfaaPC13F
import Derived.Test.YtplacemlpkhmfaaMr
set_option linter.unusedVariables false
set_option linter.unusedSimpArgs false
set_option linter.unusedSectionVars false
namespace Go.Proofs.Ytplacemlpkhmfaa
open Go Go.Eng Go.Rx Go.Proofs Go.RowKit
set_option maxRecDepth 100000
theorem Zwj{n:Int}(h1:0≤n)(h2:n < 256):IntKind.u8.wrap n=n:=by
 unfold IntKind.wrap
 simp only[IntKind.bits,IntKind.signed,Bool.false_and,Bool.false_eq_true,if_false]
 have e:(2:Int) ^ 8=256:=by decide
 rw[e];omega
theorem Ztl(t:T)(m:Mem)(hr:Rep m t):CX Try.prog 66 #[t.v] m [] (Zjj (fun u=>∃a c,u=Za0 6 0 0 a c [t])):=by
 apply ZiH
 unfold ZfT
 intro b m1 bH _ b1 b2 hf
 have cN:=Mem.le_add hf t.cs
 refine Zji (Mem.le_trans bH cN) ⟨Za0 6 0 0 (some ⟨b2,0,none⟩) 1 [t],rfl,Zbh (Zqb ?_ (hr.mono (Mem.le_trans bH cN))) (by omega) (by omega) (by omega),_,_,rfl⟩
 intro j v hj
 rw[Nat.zero_add,Mem.add_same];exact hj
theorem ZuB(t:T)(mn mx:Int)(h1 : -9223372036854775808≤mn∧mn≤9223372036854775807)(h2 : -9223372036854775808≤mx∧mx≤9223372036854775807)(m:Mem)(hr:Rep m t):CX Try.prog 67 #[t.v,.int .i64 mn,.int .i64 mx] m [] (Zjj (fun u=>∃a c,u=Za0 5 mn mx a c [t])):=by
 apply Zl1
 unfold ZhI
 intro b m1 bH _ b1 b2 hf
 have cN:=Mem.le_add hf t.cs
 refine Zji (Mem.le_trans bH cN) ⟨Za0 5 mn mx (some ⟨b2,0,none⟩) 1 [t],rfl,Zbh (Zqb ?_ (hr.mono (Mem.le_trans bH cN))) (by omega) h1 h2,_,_,rfl⟩
 intro j v hj
 rw[Nat.zero_add,Mem.add_same];exact hj
def Ze8(s:ByteArray):List Nat:=s.data.toList.map fun b=>b.toNat
theorem Zpk(s:ByteArray):(Ze8 s).length=s.size:=by unfold Ze8;rw[List.length_map,Array.length_toList];rfl
theorem ZrB(s:ByteArray):∀c∈Ze8 s,c < 256:=by
 intro c hc
 unfold Ze8 at hc
 obtain⟨b,_,rfl⟩:=List.mem_map.1 hc
 exact b.toBitVec.isLt
theorem Ztm{s:ByteArray}{k c:Nat}(h:(Ze8 s)[k]?=some c):Zmi s k=(c:Int):=by
 unfold Ze8 at h
 rw[List.getElem?_map]at h
 obtain⟨b,hb,rfl⟩:=Option.map_eq_some_iff.1 h
 unfold Zmi
 rw[List.getD_eq_getElem?_getD,hb];rfl
theorem ZnZ(s:ByteArray)(hs:(Ze8 s).length≤100000)(m:Mem):CX Try.prog 63 #[.string s] m [] (Zjj (fun t=>t=Zkd (Ze8 s))):=by
 apply ZiI
 unfold ZfU
 intro b b1
 have bO:=Zpk s
 refine⟨fun xs css tvs m' q=>∃k:Nat,k≤s.size∧xs=[.int .i64 k]∧css=[Zso ((Ze8 s).take k)]∧q=s.size - k,⟨_,0,by omega,rfl,rfl,rfl⟩,?_⟩
 rintro n cs m1 q bH ⟨k,hk,hn,cH,hq⟩
 obtain rfl:n=k:=by simpa using hn
 obtain rfl:cs=Zso ((Ze8 s).take k):=by simpa using cH
 refine Zab (fun bK=>?_) (fun cS=>?_)
 ·have bJ:k < s.size:=by have:=of_decide_eq_true bK;omega
  obtain⟨c,hc⟩:=Zjx (l:=Ze8 s) (k:=k) (by omega)
  have lf:=ZrB s c (List.mem_of_getElem? hc)
  have hw:IntKind.i64.wrap ((k:Int)+1)=((k+1:Nat):Int):=by rw[Zax (by omega) (by omega)];rfl
  have uZ:IntKind.u8.wrap (Int.tdiv (c:Int) 64)=((c / 64:Nat):Int):=by rw[ZtL];exact Zwj (by omega) (by omega)
  have hr:IntKind.u64.wrap (1*2 ^ min (Int.toNat (Int.tmod (c:Int) 64)) 64)=((2 ^ (c % 64):Nat):Int):=by
   rw[Zox,Int.toNat_natCast,Nat.min_eq_left (by omega),Int.one_mul]
   have:=ZtJ (2 ^ (c % 64)) (by
    have:2 ^ (c % 64) < 2 ^ 64:=Nat.pow_lt_pow_right (by omega) (by omega)
    exact this)
   rw[←this];push_cast;rfl
  have h2:(2:Nat) ^ (c % 64) < 18446744073709551616:=by
   have:(2:Nat) ^ (c % 64) < 2 ^ 64:=Nat.pow_lt_pow_right (by omega) (by omega)
   exact this
  have hj:c / 64 < 4:=by omega
  simp only[hw,Int.toNat_natCast,Ztm hc,uZ,hr,Nat.zero_add,Nat.mul_one]
  refine⟨⟨by omega,by omega⟩,by omega,⟨by omega,by omega⟩,Zap (Zrm _ hj) ⟨⟨by omega,by omega⟩,by omega,by rw[Zox];omega,Zaa rfl ⟨⟨by omega,by omega⟩,Zaa (by rw[Nat.ble_eq];show c / 64+1≤4;omega) ⟨by trivial,s.size - (k+1),by omega,k+1,by omega,rfl,?_,rfl⟩⟩⟩⟩
  simp only[intOf]
  rw[Zkc _ _ (Zsn _ _) h2,ZoY _ rfl hj,Zqa hc]
 ·have:k=s.size:=by have:=of_decide_eq_false cS;omega
  subst this
  rw[←bO,List.take_length]
  exact Zaa rfl (Zaa rfl (Zah bH ⟨Zkd (Ze8 s),rfl,Zns _ m,rfl⟩))
theorem Zpl(n:Nat)(hn:n < 256)(m:Mem):CX Try.prog 64 #[.int .u8 n] m [] (fun v _ _=>∃s,v=.string s∧Ze8 s=ZdN n):=by
 apply ZgZ
 unfold Zed
 intro b hf
 have ht:Int.tmod (n:Int) 12=((n % 12:Nat):Int):=rfl
 simp only[ht,Int.toNat_natCast,Nat.mul_one]
 refine⟨by omega,⟨by omega,by omega⟩,?_⟩
 have h:n % 12=0∨n % 12=1∨n % 12=2∨n % 12=3∨n % 12=4∨n % 12=5∨n % 12=6∨n % 12=7∨n % 12=8∨n % 12=9∨n % 12=10∨n % 12=11:=by omega
 unfold ZdN
 rcases h with e|e|e|e|e|e|e|e|e|e|e|e <;>
 ·rw[e]
  refine Zap rfl ?_
  exact⟨_,Mem.le_add hf _,Mem.le_refl _,_,rfl,rfl⟩
end Go.Proofs.Ytplacemlpkhmfaa

