/- Part of the proof: conditions and contracts of functions of this program. No condition of its own. -/
import Derived.Test.YtplacemlpkhmfaaPVD
import Derived.Test.YtplacemlpkhmfaaPC13F
import Derived.Test.YtplacemlpkhmfaaMr
set_option linter.unusedVariables false
set_option linter.unusedSimpArgs false
set_option linter.unusedSectionVars false
namespace Go.Proofs.Ytplacemlpkhmfaa
open Go Go.Eng Go.Rx Go.Proofs Go.RowKit
set_option maxRecDepth 100000
theorem Zyu{n:Int}(h1:0≤n)(h2:n < 256):IntKind.u8.wrap n=n:=by
 unfold IntKind.wrap
 simp only[IntKind.bits,IntKind.signed,Bool.false_and,Bool.false_eq_true,if_false]
 have e:(2:Int) ^ 8=256:=by decide
 rw[e];omega
theorem ZvE(t:T)(m:Mem)(hr:Rep m t):CX Try.prog 66 #[t.v] m [] (ZrT (fun u=>∃a c,u=ZbD 6 0 0 a c [t])):=by
 apply ZjW
 unfold ZgK
 intro b m1 bJ _ b1 b2 hf
 have cS:=Mem.le_add hf t.cs
 refine ZkB (Mem.le_trans bJ cS) ⟨ZbD 6 0 0 (some ⟨b2,0,none⟩) 1 [t],rfl,Zb5 (ZrU ?_ (hr.mono (Mem.le_trans bJ cS))) (by omega) (by omega) (by omega),_,_,rfl⟩
 intro j v hj
 rw[Nat.zero_add,Mem.add_same];exact hj
theorem Zw0(t:T)(mn mx:Int)(h1 : -9223372036854775808≤mn∧mn≤9223372036854775807)(h2 : -9223372036854775808≤mx∧mx≤9223372036854775807)(m:Mem)(hr:Rep m t):CX Try.prog 67 #[t.v,.int .i64 mn,.int .i64 mx] m [] (ZrT (fun u=>∃a c,u=ZbD 5 mn mx a c [t])):=by
 apply Znx
 unfold ZiN
 intro b m1 bJ _ b1 b2 hf
 have cS:=Mem.le_add hf t.cs
 refine ZkB (Mem.le_trans bJ cS) ⟨ZbD 5 mn mx (some ⟨b2,0,none⟩) 1 [t],rfl,Zb5 (ZrU ?_ (hr.mono (Mem.le_trans bJ cS))) (by omega) h1 h2,_,_,rfl⟩
 intro j v hj
 rw[Nat.zero_add,Mem.add_same];exact hj
def ZfT(s:ByteArray):List Nat:=s.data.toList.map fun b=>b.toNat
theorem Zq8(s:ByteArray):(ZfT s).length=s.size:=by unfold ZfT;rw[List.length_map,Array.length_toList];rfl
theorem Zty(s:ByteArray):∀c∈ZfT s,c < 256:=by
 intro c hc
 unfold ZfT at hc
 obtain⟨b,_,rfl⟩:=List.mem_map.1 hc
 exact b.toBitVec.isLt
theorem ZvF{s:ByteArray}{k c:Nat}(h:(ZfT s)[k]?=some c):ZnK s k=(c:Int):=by
 unfold ZfT at h
 rw[List.getElem?_map]at h
 obtain⟨b,hb,rfl⟩:=Option.map_eq_some_iff.1 h
 unfold ZnK
 rw[List.getD_eq_getElem?_getD,hb];rfl
theorem ZpF(s:ByteArray)(hs:(ZfT s).length≤100000)(m:Mem):CX Try.prog 63 #[.string s] m [] (ZrT (fun t=>t=ZlG (ZfT s))):=by
 apply ZjX
 unfold ZgL
 intro b b1
 have bX:=Zq8 s
 refine⟨fun xs css tvs m' q=>∃k:Nat,k≤s.size∧xs=[.int .i64 k]∧css=[Zum ((ZfT s).take k)]∧q=s.size - k,⟨_,0,by omega,rfl,rfl,rfl⟩,?_⟩
 rintro n cs m1 q bJ ⟨k,hk,hn,cK,hq⟩
 obtain rfl:n=k:=by simpa using hn
 obtain rfl:cs=Zum ((ZfT s).take k):=by simpa using cK
 refine Zab (fun bS=>?_) (fun cX=>?_)
 ·have bR:k < s.size:=by have:=of_decide_eq_true bS;omega
  obtain⟨c,hc⟩:=ZiW (l:=ZfT s) (k:=k) (by omega)
  have iW:=Zty s c (List.mem_of_getElem? hc)
  have hw:IntKind.i64.wrap ((k:Int)+1)=((k+1:Nat):Int):=by rw[Zat (by omega) (by omega)];rfl
  have vq:IntKind.u8.wrap (Int.tdiv (c:Int) 64)=((c / 64:Nat):Int):=by rw[Zsh];exact Zyu (by omega) (by omega)
  have hr:IntKind.u64.wrap (1*2 ^ min (Int.toNat (Int.tmod (c:Int) 64)) 64)=((2 ^ (c % 64):Nat):Int):=by
   rw[ZjO,Int.toNat_natCast,Nat.min_eq_left (by omega),Int.one_mul]
   have:=Zs4 (2 ^ (c % 64)) (by
    have:2 ^ (c % 64) < 2 ^ 64:=Nat.pow_lt_pow_right (by omega) (by omega)
    exact this)
   rw[←this];push_cast;rfl
  have h2:(2:Nat) ^ (c % 64) < 18446744073709551616:=by
   have:(2:Nat) ^ (c % 64) < 2 ^ 64:=Nat.pow_lt_pow_right (by omega) (by omega)
   exact this
  have hj:c / 64 < 4:=by omega
  simp only[hw,Int.toNat_natCast,ZvF hc,vq,hr,Nat.zero_add,Nat.mul_one]
  refine⟨⟨by omega,by omega⟩,by omega,⟨by omega,by omega⟩,Zam (Zs9 _ hj) ⟨⟨by omega,by omega⟩,by omega,by rw[ZjO];omega,Zaa rfl ⟨⟨by omega,by omega⟩,Zaa (by rw[Nat.ble_eq];show c / 64+1≤4;omega) ⟨by trivial,s.size - (k+1),by omega,k+1,by omega,rfl,?_,rfl⟩⟩⟩⟩
  simp only[intOf]
  rw[Zjw _ _ (Zul _ _) h2,ZqG _ rfl hj,ZrQ hc]
 ·have:k=s.size:=by have:=of_decide_eq_false cX;omega
  subst this
  rw[←bX,List.take_length]
  exact Zaa rfl (Zaa rfl (Zac bJ ⟨ZlG (ZfT s),rfl,ZoY _ m,rfl⟩))
theorem Zq9(n:Nat)(hn:n < 256)(m:Mem):CX Try.prog 64 #[.int .u8 n] m [] (fun v _ _=>∃s,v=.string s∧ZfT s=Zd7 n):=by
 apply ZhU
 unfold ZeF
 intro b hf
 have ht:Int.tmod (n:Int) 12=((n % 12:Nat):Int):=rfl
 simp only[ht,Int.toNat_natCast,Nat.mul_one]
 refine⟨by omega,⟨by omega,by omega⟩,?_⟩
 have h:n % 12=0∨n % 12=1∨n % 12=2∨n % 12=3∨n % 12=4∨n % 12=5∨n % 12=6∨n % 12=7∨n % 12=8∨n % 12=9∨n % 12=10∨n % 12=11:=by omega
 unfold Zd7
 rcases h with e|e|e|e|e|e|e|e|e|e|e|e <;>
 ·rw[e]
  refine Zam rfl ?_
  exact⟨_,Mem.le_add hf _,Mem.le_refl _,_,rfl,rfl⟩
end Go.Proofs.Ytplacemlpkhmfaa

