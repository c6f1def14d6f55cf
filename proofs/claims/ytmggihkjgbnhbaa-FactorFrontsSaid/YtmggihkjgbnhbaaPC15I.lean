/- Part of the proof: conditions and contracts of functions of this program. No condition of its own. -/
import Derived.Test.YtmggihkjgbnhbaaPC15H
import Derived.Test.YtmggihkjgbnhbaaPVLB
import Derived.Test.YtmggihkjgbnhbaaMr
set_option linter.unusedVariables false
set_option linter.unusedSimpArgs false
set_option linter.unusedSectionVars false
namespace Go.Proofs.Ytmggihkjgbnhbaa
open Go Go.Eng Go.Rx Go.Proofs Go.RowKit
set_option maxRecDepth 100000
structure OkT (t : T) : Prop where
 good : t.good = true
 caps : t.caps
 fits : fitsB t = true
theorem check_clean {t : T} (h : t.check = 0) : t.clean = true := by
 unfold T.check at h
 cases hc : t.clean with
 | true => rfl
 | false => rw [if_pos hc] at h; cases h
theorem fits_iff {t : T} (h : fitsB t = true) : t.check = 0 ∧ t.good = true ∧ t.nodes.length ≤ 60 := by
 unfold fitsB at h
 rw [Bool.and_eq_true, decide_eq_true_iff, decide_eq_true_iff] at h
 have h1 := clean_good (check_clean h.1)
 have h2 := h.2
 rw [size_nodes h1.2] at h2
 exact ⟨h.1, h1.1, by omega⟩
theorem OkT.clean {t : T} (h : OkT t) : t.clean = true := check_clean (fits_iff h.fits).1
theorem repL_add {m : Mem} {b : Nat} {l : List T} (hf : m.free b) (hr : ∀ t ∈ l, Rep m t) (hl : l.length ≤ 1000000000000000) : RepL (m.add b (Rx.cellsL l)) (some ⟨b, 0, none⟩) l :=
 repL_of (.inr ⟨b, 0, rfl, fun j v hj => by rw [Nat.zero_add, Mem.add_same]; exact hj⟩) (fun t ht => (hr t ht).mono (Mem.le_add hf _)) hl
end Go.Proofs.Ytmggihkjgbnhbaa

