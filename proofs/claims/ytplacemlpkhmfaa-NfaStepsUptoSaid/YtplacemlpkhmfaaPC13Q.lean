/- Part of the proof: conditions and contracts of functions of this program. No condition of its own. -/
import Derived.Test.YtplacemlpkhmfaaPEnv
import Derived.Test.YtplacemlpkhmfaaMc
import Derived.Laws.StructEq
import Derived.Laws.Tables
import Derived.Laws.Cover2
set_option linter.unusedVariables false
set_option linter.unusedSimpArgs false
namespace Go.Proofs.Ytplacemlpkhmfaa
open Go Go.Eng Go.Proofs Go.RowKit
theorem Zhp{P:Program}{T:TypeId}(hg:P.eqGuardType P.depth T=false)(op:BinOp)(ox oy:Operand)(xs ys:Array Value)(w:World):(eqGuard op T ox oy (.agg xs) (.agg ys)).run P w=.ok () w:=by
 unfold eqGuard
 have h1:(P.eqGuardType P.depth T)=true→False:=fun h=>by rw[hg]at h;cases h
 split
 ·simp[go_sem];exact fun h=>(h1 h).elim
 ·simp[go_sem];exact fun h=>(h1 h).elim
 ·simp
theorem ZoY(a b c d a' b' c' d':Int):EqIs Try.prog 38 (.agg #[.int .u64 a,.int .u64 b,.int .u64 c,.int .u64 d]) (.agg #[.int .u64 a',.int .u64 b',.int .u64 c',.int .u64 d']) (a == a'&&b == b'&&c == c'&&d == d'):=by
 refine⟨fun w=>?_,fun op ox oy w=>Zhp (by kernel_rfl) op ox oy _ _ w⟩
 have u3:=Try.underlying36
 have a3:=Try.isAgg36
 have z3:=Try.sizeOf36
 rw[Op.equal,Op.maxDepth,show(10000:Nat)=9999+1 from rfl,Op.equalIn]
 simp only[Sem.run_bind,run_underlying Try.underlying38,Result.andThen_ok]
 simp only[Std.Legacy.Range.forIn_eq_forIn_range',Std.Legacy.Range.size,Nat.sub_zero,Nat.add_sub_cancel,Nat.div_one,List.range'_succ,List.range'_zero,List.forIn_cons,List.forIn_nil]
 go_simp
 by_cases h1:a=a' <;> by_cases h2:b=b' <;> by_cases h3:c=c' <;> by_cases h4:d=d' <;> simp[h1,h2,h3,h4]
end Go.Proofs.Ytplacemlpkhmfaa

