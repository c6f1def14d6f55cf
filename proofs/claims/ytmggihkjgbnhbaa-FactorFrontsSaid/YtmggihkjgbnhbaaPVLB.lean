/- Part of the proof: conditions and contracts of functions of this program. No condition of its own. -/
import Derived.Test.YtmggihkjgbnhbaaPEnv
set_option linter.unusedVariables false
namespace Go.Proofs.Ytmggihkjgbnhbaa
open Go Go.Eng Go.Proofs Go.RowKit
open Go.Value (int slice agg)
open Go.IntKind (u8 u64 i64)
set_option maxRecDepth 100000
end Go.Proofs.Ytmggihkjgbnhbaa

