/- Part of the proof: conditions and contracts of functions of this program. No condition of its own. -/
import Derived.Test.YthiefodednaikaaPC13S
import Derived.Test.YthiefodednaikaaPC13U
/- The statement DenoteFirst is proved: for every input the function returns true, and each argument reads behind the call as it read before. No further condition. -/
set_option linter.unusedVariables false
set_option linter.unusedSimpArgs false
namespace Go.Proofs.Ythiefodednaikaa
open Go Go.Eng Go.Rx Go.Proofs Go.RowKit Go.ChangeShapes Go.WideShapes Go.ChangeAt
set_option maxRecDepth 100000

theorem listsC : Try.prog.cellsOf 22 = 1 := by kernel_rfl
theorem open_lists {H : Type} {enc : TypeId × Value → H} {W : World} {held : Bool} {v : Value} {d : DataW H} {ps : List MemPlace} {r : Reach} {b0 : Nat} (hval : Value.okWide Try.prog W r b0 60 v) (h : DataW.Trod enc Try.prog W 0 (fun _ => true) held 60 v d ps) :
    ∃ L a c, v = .slice a L.length c ∧ SmL (memOf W) a L ∧ L.length ≤ c ∧ L.length ≤ 9223372036854775807 := by
  obtain ⟨n, h⟩ := h
  obtain ⟨a0, len0, cap0, rfl⟩ := okWide_slice Try.underlying60 hval
  rw [slice_cells] at h
  rcases Go.Deep.open_slice1 Try.underlying60 listsC h with ⟨hcs, _⟩ | ⟨a, len, m, m', n', V, D, Pl, hcs, hb, hl, hm, hmm, _, hx⟩
  · exact ⟨[], none, 0, by simpa using hcs, ⟨fun i l hi => by simp at hi⟩, Nat.le_refl _, by simp⟩
  · simp only [if_true] at hmm
    subst hmm
    have hm' : m' ≤ 9223372036854775807 := by simp [maxLen] at hm; omega
    obtain ⟨F, hF⟩ := Go.Deep.choose_lt (α := List (Nat × Nat × Nat)) (n := m') (p := fun i l => ∃ x c, W.cell? (a.add i) = some (.slice x l.length c) ∧ Sm (memOf W) x l ∧ l.length ≤ c) (fun i hi => by
      obtain ⟨h1, h2⟩ := hx i hi
      obtain ⟨l, x, c, hk, hs, hc⟩ := smalls_trod h2
      simp at hk
      exact ⟨l, x, c, by rw [h1, hk], hs, hc⟩)
    refine ⟨(List.range len).map F, some a, m', by have := hcs; simp at this ⊢; exact this, ⟨?_⟩, by simpa using hl, by simp; omega⟩
    intro i l hi
    rw [List.getElem?_map] at hi
    obtain ⟨i', hi', rfl⟩ := Option.map_eq_some_iff.1 hi
    have hlt : i < len := by have := (List.getElem?_eq_some_iff.1 hi').1; simpa using this
    have e : i' = i := by rw [List.getElem?_range hlt] at hi'; exact (Option.some.inj hi').symm
    subst e
    obtain ⟨x0, c0, h0, _⟩ := hF 0 (by omega)
    obtain ⟨b, o, rfl⟩ := spot_none (a := a) (by exact h0)
    obtain ⟨x, c, h1, h2, h3⟩ := hF i' (by omega)
    rw [addr_add] at h1
    exact ⟨b, o, x, c, rfl, h1, h2, h3⟩
theorem first_contract (H : Type) (enc : TypeId × Value → H) (W : World) (base : Nat) (args : Array Value) (ds gs : List (DataW H)) (before : List MemPlace)
    (hval : ∀ (j : Nat) t v, Try.f7.params[j]? = some t → args[j]? = some v → Value.okWide Try.prog W .any base t v)
    (hW : DataW.Whole enc Try.prog Try.f7.params.toList Rows.denoteFirstSpec.vars false W args.toList ds gs before) :
    Calls Try.prog 7 args W fun e W' => ∃ v, e = .returned v ∧ Rows.denoteFirstSpec.post enc Try.prog Try.f7 false true false false W args v W' := by
  have hW' := hW
  obtain ⟨p, q, hA0, hV, rfl, hfz, hnd⟩ := hW
  have hA : DataW.TrodAll enc Try.prog W 0 (fun _ => true) true Try.f7.params.toList args.toList ds p := hA0
  rw [Try.params7] at hA hval
  obtain ⟨v0, v1, v2, v3, d0, d1, d2, d3, p0, p1, p2, p3, rfl, rfl, rfl, h0, h1, h2, h3⟩ := trodAll_four hA
  obtain ⟨rfl, rfl⟩ := trodVars_none hV
  obtain ⟨L, pa, pc, rfl, hL, hpc, hL63⟩ := open_lists (hval 0 _ v0 rfl rfl) h0
  obtain ⟨As, aa, ac, rfl, hAs, hac, hA63⟩ := open_by (hval 1 _ v1 rfl rfl) h1
  obtain ⟨s, sa, sc, rfl, hs, hsc, hs63⟩ := open_by (hval 2 _ v2 rfl rfl) h2
  obtain ⟨n3, rfl, rfl, rfl, w3⟩ := open_int Try.underlying5 (hval 3 _ v3 rfl rfl) h3
  have b3 := wf_u8 w3
  obtain ⟨k3, rfl⟩ : ∃ k : Nat, n3 = k := ⟨n3.toNat, by omega⟩
  exact post_true (tb := 4) lawLaid (by rw [Try.params7]; intro t ht; simp at ht; rcases ht with rfl | rfl | rfl <;> exact ⟨by kernel_rfl, of_decide_eq_true (by kernel_rfl)⟩) hW' rfl rfl rfl rfl rfl Try.underlying4 (cx_First13 L pa pc As aa ac s sa sc k3 (by omega) (memOf W) hL hpc hAs hs hsc hL63 hA63 hs63)
theorem first_lifted (os : Os) (started : os.Started) (H : Type) (enc : TypeId × Value → H) :
    ReturnsInHanded {} Try.checked os 7 .any (Rows.denoteFirstSpec.pre6 enc Try.prog Try.f7 Rows.denoteFirstRow.domain false) (Rows.denoteFirstSpec.post enc Try.prog Try.f7 false true false false) := by
  refine returnsInHanded_of_change (C := Try.checked) lawOwn started (by kernel_rfl) Try.func7
    (ChangeSpec.witness6 (enc := enc) (C := Try.checked) false ⟨#[], #[.slice none 0 0, .slice none 0 0, .slice none 0 0, .int .u8 0], []⟩ 8 (by kernel_rfl) (by kernel_rfl) (by kernel_rfl) (by kernel_rfl)) ?_
  intro W base args ds gs before hval hW _ _
  exact first_contract H enc W base args ds gs before hval hW
theorem first_holds : Rows.DenoteFirstSaid :=
  OpenClaim.holds_of_wide 7 Try.f7 rfl rfl rfl rfl rfl rfl rfl ⟨rfl, rfl, rfl, rfl, rfl⟩ rfl rfl rfl rfl rfl (by kernel_rfl) Try.func7 (by kernel_rfl)
    (of_decide_eq_true (by kernel_rfl)) (by unfold Func.isWrapper; first | (rw [if_pos (by decide +kernel)]; kernel_rfl) | (rw [if_neg (by decide +kernel)]; exact ⟨rfl, rfl⟩))
    (fun os started H enc _ => first_lifted os started H enc)
#print axioms first_holds
end Go.Proofs.Ythiefodednaikaa

