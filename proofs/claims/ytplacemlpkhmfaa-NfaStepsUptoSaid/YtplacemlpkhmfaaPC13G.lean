/- Part of the proof: conditions and contracts of functions of this program. No condition of its own. -/
import Derived.Test.YtplacemlpkhmfaaPVD
import Derived.Test.YtplacemlpkhmfaaPC13F
import Derived.Test.YtplacemlpkhmfaaMr
set_option linter.unusedVariables false
set_option linter.unusedSimpArgs false
set_option linter.unusedSectionVars false
namespace Go.Proofs.Ytplacemlpkhmfaa
open Go Go.Eng Go.Rx Go.Proofs Go.RowKit
set_option maxRecDepth 100000
theorem ZvT{n:Int}(h1:0≤n)(h2:n < 256):IntKind.u8.wrap n=n:=by
 unfold IntKind.wrap
 simp only[IntKind.bits,IntKind.signed,Bool.false_and,Bool.false_eq_true,if_false]
 have e:(2:Int) ^ 8=256:=by decide
 rw[e];omega
end Go.Proofs.Ytplacemlpkhmfaa

