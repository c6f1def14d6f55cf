/- Part of the proof: conditions and contracts of functions of this program. No condition of its own. -/
import Derived.Test.YtplacemlpkhmfaaPC17N
import Derived.Test.YtplacemlpkhmfaaMr
import Derived.Test.YtplacemlpkhmfaaMc
set_option linter.unusedVariables false
set_option linter.unusedSimpArgs false
namespace Go.Proofs.Ytplacemlpkhmfaa
open Go Go.Eng Go.Rx Go.Proofs Go.RowKit
set_option maxRecDepth 100000
open Classical in
theorem Zic{A:Nf}{e:Int}:∀(v:Value)(m':Mem) (css:List (List Value)),NfE A e v m' css→Shape.fits (.tup [.agg [.slice,.slice,.slice,.slice,.bool],.int .i64]) v=true:=by
 rintro v m' css ⟨w,rfl,s,f,x,y,rfl,⟨_,_,rfl,_⟩,⟨_,_,_,rfl,_⟩,⟨_,_,rfl,_⟩,⟨_,_,rfl,_⟩⟩;rfl
end Go.Proofs.Ytplacemlpkhmfaa

