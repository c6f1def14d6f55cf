/- Part of the proof: conditions and contracts of functions of this program. No condition of its own. -/
import Derived.Test.YtmggihkjgbnhbaaMc
import Derived.Test.YtmggihkjgbnhbaaRows
import Derived.Test.YtmggihkjgbnhbaaPC15I
set_option linter.unusedVariables false
set_option linter.unusedSimpArgs false
namespace Go.Proofs.Ytmggihkjgbnhbaa
open Go Go.Eng Go.Rx Go.Proofs Go.RowKit Go.ChangeShapes Go.WideShapes Go.ChangeAt
set_option maxRecDepth 100000
theorem lawOwn : ownKnob Try.prog.godebug = none := by kernel_rfl
theorem lawLaid : laidOutB Try.prog = true := by kernel_rfl
theorem wf_u8 {n : Int} (h : (Lit.int .u8 n).wf = true) : 0 ≤ n ∧ n < 256 := by
 have : 0 ≤ n ∧ n ≤ 255 := by simpa [Lit.wf, IntKind.min, IntKind.max, IntKind.signed, IntKind.bits] using h
 omega
theorem spot_none {w : World} {a : Addr} {v : Value} (h : w.cell? ((a.add (0 * 3)).add 0) = some v) : ∃ b o, a = ⟨b, o, none⟩ := by
 obtain ⟨b, o, sp⟩ := a
 cases sp with
 | none => exact ⟨b, o, rfl⟩
 | some s =>
  exfalso
  have e : (Addr.add (Addr.add ⟨b, o, some s⟩ (0 * 3)) 0) = ⟨b, o, some s⟩ := rfl
  rw [e] at h
  unfold World.cell? at h
  split at h
  ·simp at h
  ·cases h
theorem slice_cells (a : Option Addr) (n c : Nat) : (Value.slice a n c).cells.toList = [.slice a n c] := rfl
theorem bytesC : Try.prog.cellsOf 5 = 1 := by kernel_rfl
theorem open_by {H : Type} {enc : TypeId × Value → H} {W : World} {held : Bool} {v : Value} {d : DataW H} {ps : List MemPlace} {r : Reach} {b0 : Nat} (hval : Value.okWide Try.prog W r b0 22 v) (h : DataW.Trod enc Try.prog W 0 (fun _ => true) held 22 v d ps) :
  ∃ s a c, v = .slice a s.length c ∧ Byt (memOf W) a s ∧ s.length ≤ c ∧ s.length ≤ 9223372036854775807 := by
 obtain ⟨n, h⟩ := h
 obtain ⟨a0, len0, cap0, rfl⟩ := okWide_slice Try.underlying22 hval
 rw [slice_cells] at h
 rcases Go.Deep.open_slice1 Try.underlying22 bytesC h with ⟨hcs, _⟩ | ⟨a, len, m, m', n', V, D, Pl, hcs, hb, hl, hm, hmm, _, hx⟩
 ·exact ⟨[], none, 0, by simpa using hcs, ⟨.inl rfl, by simp⟩, Nat.le_refl _, by simp⟩
 ·simp only [if_true] at hmm
  subst hmm
  have hm' : m' ≤ 9223372036854775807 := by simp [maxLen] at hm; omega
  obtain ⟨F, hF⟩ := Go.Deep.choose_lt (α := Nat) (n := m') (p := fun i s => W.cell? (a.add i) = some (.int .u8 (s : Nat)) ∧ s < 256) (fun i hi => by
   obtain ⟨h1, h2⟩ := hx i hi
   obtain ⟨k, hk, _, hw⟩ := DataW.trod_int Try.underlying5 h2
   have := wf_u8 hw
   obtain ⟨k', rfl⟩ : ∃ k' : Nat, k = k' := ⟨k.toNat, by omega⟩
   simp at hk
   exact ⟨k', by rw [h1, hk], by omega⟩)
  refine ⟨(List.range len).map F, some a, m', by have := hcs; simp at this ⊢; exact this, ⟨?_, ?_⟩, by simpa using hl, by simp; omega⟩
  ·by_cases h0 : len = 0
   ·left; subst h0; rfl
   ·right
    obtain ⟨b, o, rfl⟩ := spot_none (a := a) (v := .int .u8 (F 0 : Nat)) (by
     have := (hF 0 (by omega)).1
     exact this)
    refine ⟨b, o, rfl, fun j v hj => ?_⟩
    rw [List.map_map, List.getElem?_map] at hj
    obtain ⟨i', hi', rfl⟩ := Option.map_eq_some_iff.1 hj
    have hlt : j < len := by have := (List.getElem?_eq_some_iff.1 hi').1; simpa using this
    have e : i' = j := by rw [List.getElem?_range hlt] at hi'; exact (Option.some.inj hi').symm
    subst e
    have := (hF i' (by omega)).1
    rw [addr_add] at this
    exact this
  ·intro c hc
   obtain ⟨i, hi, rfl⟩ := List.mem_map.1 hc
   exact (hF i (by have := List.mem_range.1 hi; omega)).2
end Go.Proofs.Ytmggihkjgbnhbaa

