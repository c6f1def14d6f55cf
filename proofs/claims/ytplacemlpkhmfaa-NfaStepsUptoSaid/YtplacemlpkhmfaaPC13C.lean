/- Part of the proof: conditions and contracts of functions of this program. No condition of its own. -/
import Derived.Test.YtplacemlpkhmfaaPVB
import Derived.Test.YtplacemlpkhmfaaPC13B
import Derived.Test.YtplacemlpkhmfaaMr
set_option linter.unusedVariables false
set_option linter.unusedSimpArgs false
namespace Go.Proofs.Ytplacemlpkhmfaa
open Go Go.Eng Go.Rx Go.Proofs Go.RowKit
set_option maxRecDepth 100000
theorem Zt3(i:Nat):Int.tdiv (i:Int) 64=((i / 64:Nat):Int):=rfl
theorem Zrc(i:Nat):Int.tmod (i:Int) 64=((i % 64:Nat):Int):=rfl
theorem sh6:∀c:Nat,c < 256→IntKind.u8.wrap ((BitVec.ofInt 8 (c:Int)&&&BitVec.ofInt 8 63).toNat:Int)=((c % 64:Nat):Int)∧Int.fdiv (c:Int) (2 ^ 6)=((c / 64:Nat):Int):=by decide
theorem Zt4(t:T)(c:Nat)(hc:c < 256)(m:Mem)(hr:Rep m t):CX Try.prog 117 #[.agg #[.int .u64 t.s0,.int .u64 t.s1,.int .u64 t.s2,.int .u64 t.s3],.int .u8 c] m [] (Ret (.bool (t.hasB c))):=by
 apply ZnE
 unfold Zjn
 intro b m1 bD _
 obtain⟨h1,h2⟩:=sh6 c hc
 simp only[h1,h2,Int.toNat_natCast,Nat.zero_add,Nat.mul_one]
 have cI:=ZuZ hr
 have hw:∃w:Int,[Value.int .u64 t.s0,.int .u64 t.s1,.int .u64 t.s2,.int .u64 t.s3][c / 64]?=some (.int .u64 w)∧0≤w∧w < 18446744073709551616∧t.hasB c=w.toNat.testBit (c % 64):=by
  have:c / 64=0∨c / 64=1∨c / 64=2∨c / 64=3:=by omega
  unfold T.hasB
  rcases this with e|e|e|e
  ·exact⟨t.s0,by rw[e];rfl,cI.s0.1,cI.s0.2,by simp[e]⟩
  ·exact⟨t.s1,by rw[e];rfl,cI.s1.1,cI.s1.2,by simp[e]⟩
  ·exact⟨t.s2,by rw[e];rfl,cI.s2.1,cI.s2.2,by simp[e]⟩
  ·exact⟨t.s3,by rw[e];rfl,cI.s3.1,cI.s3.2,by simp[e]⟩
 obtain⟨w,dT,dE,iv,rE⟩:=hw
 refine⟨by omega,⟨by omega,by omega⟩,Zas dT (Zaa rfl ⟨by omega,Zad bD ?_⟩)⟩
 rw[rE,Nat.min_eq_left (by omega)]
 obtain⟨n,rfl⟩:∃n:Nat,w=n:=⟨w.toNat,by omega⟩
 show Value.bool (IntKind.u64.wrap _ == 1)=_
 simp only[intOf]
 rw[ZpH _ _ (by omega)]
 simp
end Go.Proofs.Ytplacemlpkhmfaa

