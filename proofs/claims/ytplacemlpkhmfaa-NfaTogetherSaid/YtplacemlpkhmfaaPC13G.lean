/- Part of the proof: conditions and contracts of functions of this program. No condition of its own. -/
import Derived.Test.YtplacemlpkhmfaaPVD
import Derived.Test.YtplacemlpkhmfaaPC13F
import Derived.Test.YtplacemlpkhmfaaMr
set_option linter.unusedVariables false
set_option linter.unusedSimpArgs false
set_option linter.unusedSectionVars false
namespace Go.Proofs.Ytplacemlpkhmfaa
open Go Go.Eng Go.Rx Go.Proofs Go.RowKit
set_option maxRecDepth 100000
theorem ZwZ{n:Int}(h1:0≤n)(h2:n < 256):IntKind.u8.wrap n=n:=by
 unfold IntKind.wrap
 simp only[IntKind.bits,IntKind.signed,Bool.false_and,Bool.false_eq_true,if_false]
 have e:(2:Int) ^ 8=256:=by decide
 rw[e];omega
theorem Zua(t:T)(m:Mem)(hr:Rep m t):CX Try.prog 66 #[t.v] m [] (Zgo (fun u=>∃a c,u=Zbb 6 0 0 a c [t])):=by
 apply Zi7
 unfold Zf6
 intro b m1 bJ _ b1 b2 hf
 have cN:=Mem.le_add hf t.cs
 refine ZjJ (Mem.le_trans bJ cN) ⟨Zbb 6 0 0 (some ⟨b2,0,none⟩) 1 [t],rfl,Za5 (ZkF ?_ (hr.mono (Mem.le_trans bJ cN))) (by omega) (by omega) (by omega),_,_,rfl⟩
 intro j v hj
 rw[Nat.zero_add,Mem.add_same];exact hj
theorem Zvo(t:T)(mn mx:Int)(h1 : -9223372036854775808≤mn∧mn≤9223372036854775807)(h2 : -9223372036854775808≤mx∧mx≤9223372036854775807)(m:Mem)(hr:Rep m t):CX Try.prog 67 #[t.v,.int .i64 mn,.int .i64 mx] m [] (Zgo (fun u=>∃a c,u=Zbb 5 mn mx a c [t])):=by
 apply Zmw
 unfold Zh5
 intro b m1 bJ _ b1 b2 hf
 have cN:=Mem.le_add hf t.cs
 refine ZjJ (Mem.le_trans bJ cN) ⟨Zbb 5 mn mx (some ⟨b2,0,none⟩) 1 [t],rfl,Za5 (ZkF ?_ (hr.mono (Mem.le_trans bJ cN))) (by omega) h1 h2,_,_,rfl⟩
 intro j v hj
 rw[Nat.zero_add,Mem.add_same];exact hj
def Zfq(s:ByteArray):List Nat:=s.data.toList.map fun b=>b.toNat
theorem Zp4(s:ByteArray):(Zfq s).length=s.size:=by unfold Zfq;rw[List.length_map,Array.length_toList];rfl
theorem Zsq(s:ByteArray):∀c∈Zfq s,c < 256:=by
 intro c hc
 unfold Zfq at hc
 obtain⟨b,_,rfl⟩:=List.mem_map.1 hc
 exact b.toBitVec.isLt
theorem Zub{s:ByteArray}{k c:Nat}(h:(Zfq s)[k]?=some c):ZmP s k=(c:Int):=by
 unfold Zfq at h
 rw[List.getElem?_map]at h
 obtain⟨b,hb,rfl⟩:=Option.map_eq_some_iff.1 h
 unfold ZmP
 rw[List.getD_eq_getElem?_getD,hb];rfl
theorem ZoG(s:ByteArray)(hs:(Zfq s).length≤100000)(m:Mem):CX Try.prog 63 #[.string s] m [] (Zgo (fun t=>t=ZkG (Zfq s))):=by
 apply Zi8
 unfold Zf7
 intro b b1
 have bO:=Zp4 s
 refine⟨fun xs css tvs m' q=>∃k:Nat,k≤s.size∧xs=[.int .i64 k]∧css=[Zs8 ((Zfq s).take k)]∧q=s.size - k,⟨_,0,by omega,rfl,rfl,rfl⟩,?_⟩
 rintro n cs m1 q bJ ⟨k,hk,hn,cG,hq⟩
 obtain rfl:n=k:=by simpa using hn
 obtain rfl:cs=Zs8 ((Zfq s).take k):=by simpa using cG
 refine Zaa (fun bM=>?_) (fun cR=>?_)
 ·have bL:k < s.size:=by have:=of_decide_eq_true bM;omega
  obtain⟨c,hc⟩:=Zie (l:=Zfq s) (k:=k) (by omega)
  have lx:=Zsq s c (List.mem_of_getElem? hc)
  have hw:IntKind.i64.wrap ((k:Int)+1)=((k+1:Nat):Int):=by rw[ZaA (by omega) (by omega)];rfl
  have vB:IntKind.u8.wrap (Int.tdiv (c:Int) 64)=((c / 64:Nat):Int):=by rw[Zuz];exact ZwZ (by omega) (by omega)
  have hr:IntKind.u64.wrap (1*2 ^ min (Int.toNat (Int.tmod (c:Int) 64)) 64)=((2 ^ (c % 64):Nat):Int):=by
   rw[Zpf,Int.toNat_natCast,Nat.min_eq_left (by omega),Int.one_mul]
   have:=Zuy (2 ^ (c % 64)) (by
    have:2 ^ (c % 64) < 2 ^ 64:=Nat.pow_lt_pow_right (by omega) (by omega)
    exact this)
   rw[←this];push_cast;rfl
  have h2:(2:Nat) ^ (c % 64) < 18446744073709551616:=by
   have:(2:Nat) ^ (c % 64) < 2 ^ 64:=Nat.pow_lt_pow_right (by omega) (by omega)
   exact this
  have hj:c / 64 < 4:=by omega
  simp only[hw,Int.toNat_natCast,Zub hc,vB,hr,Nat.zero_add,Nat.mul_one]
  refine⟨⟨by omega,by omega⟩,by omega,⟨by omega,by omega⟩,Zan (Zr3 _ hj) ⟨⟨by omega,by omega⟩,by omega,by rw[Zpf];omega,Zab rfl ⟨⟨by omega,by omega⟩,Zab (by rw[Nat.ble_eq];show c / 64+1≤4;omega) ⟨by trivial,s.size - (k+1),by omega,k+1,by omega,rfl,?_,rfl⟩⟩⟩⟩
  simp only[intOf]
  rw[ZkE _ _ (Zs7 _ _) h2,ZpI _ rfl hj,ZqO hc]
 ·have:k=s.size:=by have:=of_decide_eq_false cR;omega
  subst this
  rw[←bO,List.take_length]
  exact Zab rfl (Zab rfl (Zag bJ ⟨ZkG (Zfq s),rfl,Zn4 _ m,rfl⟩))
theorem Zp5(n:Nat)(hn:n < 256)(m:Mem):CX Try.prog 64 #[.int .u8 n] m [] (fun v _ _=>∃s,v=.string s∧Zfq s=Zd0 n):=by
 apply Zhk
 unfold Zes
 intro b hf
 have ht:Int.tmod (n:Int) 12=((n % 12:Nat):Int):=rfl
 simp only[ht,Int.toNat_natCast,Nat.mul_one]
 refine⟨by omega,⟨by omega,by omega⟩,?_⟩
 have h:n % 12=0∨n % 12=1∨n % 12=2∨n % 12=3∨n % 12=4∨n % 12=5∨n % 12=6∨n % 12=7∨n % 12=8∨n % 12=9∨n % 12=10∨n % 12=11:=by omega
 unfold Zd0
 rcases h with e|e|e|e|e|e|e|e|e|e|e|e <;>
 ·rw[e]
  refine Zan rfl ?_
  exact⟨_,Mem.le_add hf _,Mem.le_refl _,_,rfl,rfl⟩
end Go.Proofs.Ytplacemlpkhmfaa

