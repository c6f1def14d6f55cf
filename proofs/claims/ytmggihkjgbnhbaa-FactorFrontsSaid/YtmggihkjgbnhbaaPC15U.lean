/- Part of the proof: conditions and contracts of functions of this program. No condition of its own. -/
import Derived.Test.YtmggihkjgbnhbaaPC15L
set_option linter.unusedVariables false
set_option linter.unusedSimpArgs false
set_option linter.unusedSectionVars false
namespace Go.Proofs.Ytmggihkjgbnhbaa
open Go Go.Eng Go.Rx Go.Proofs Go.RowKit
set_option maxRecDepth 100000
theorem treeE_fits {e : Int} {φ : T → Prop} : ∀ (v : Value) (m' : Mem) (css : List (List Value)), TreeE e φ v m' css → Shape.fits (.tup [.agg [.int .u8, .int .u64, .int .u64, .int .u64, .int .u64, .int .i64, .int .i64, .slice], .int .i64]) v = true := fun v _ _ ⟨t, e, _⟩ => by rw [e]; rfl
theorem same_refl : ∀ t : T, t.same t = true
 | .node k s0 s1 s2 s3 mn mx a c l => by
  have := same_reflL l
  simp only [T.same, this, beq_self_eq_true, Bool.and_self]
where same_reflL : ∀ l : List T, sameL l l = true
 | [] => rfl
 | t :: l => by simp only [sameL, same_refl t, same_reflL l, Bool.and_self]
theorem same_of_er {t u : T} (h : t.er = u.er) : t.same u = true := by
 rw [← same_er, h]; exact same_refl _
theorem sz_small {t : T} (h : t.nodes.length ≤ 10000) : t.light = true := by unfold T.light; exact decide_eq_true h
theorem cx_FactorR (t : T) (m : Mem) (hr : Rep m t) (hk : T.rgt t = true) (hc : t.caps) : CX Try.prog 13 #[t.v] m [] (TreeE 0 (fun t' => t'.er = (factorE t).1)) :=
 (cx_Factor t m hr hc).mono fun v m' css _ h => by rw [if_pos hk] at h; exact h
end Go.Proofs.Ytmggihkjgbnhbaa

