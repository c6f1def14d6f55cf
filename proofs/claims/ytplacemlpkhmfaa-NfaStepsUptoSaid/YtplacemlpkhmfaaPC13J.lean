/- Part of the proof: conditions and contracts of functions of this program. No condition of its own. -/
import Derived.Test.YtplacemlpkhmfaaPVF
import Derived.Test.YtplacemlpkhmfaaPC13I
set_option linter.unusedVariables false
set_option linter.unusedSimpArgs false
set_option linter.unusedSectionVars false
namespace Go.Proofs.Ytplacemlpkhmfaa
open Go Go.Eng Go.Rx Go.Proofs Go.RowKit
set_option maxRecDepth 100000
structure Sm (m:Mem)(a:Option Addr)(l:List (Nat×Nat×Nat)):Prop where
 len:l.length≤9223372036854775807
 byte:∀s∈l,s.1 < 256∧s.2.1 < 256∧s.2.2 < 256
 at':∀i s,l[i]?=some s→∃b o,a=some ⟨b,o,none⟩∧m.reads b (o+i*3) [.int .u8 s.1,.int .u8 s.2.1,.int .u8 s.2.2]
theorem Sm.mono{m m':Mem}{a l}(h:Sm m a l)(hm:m.le m'):Sm m' a l:=
 ⟨h.len,h.byte,fun i s hi=>by obtain⟨b,o,h1,h2⟩:=h.at' i s hi;exact⟨b,o,h1,h2.mono hm⟩⟩
end Go.Proofs.Ytplacemlpkhmfaa

