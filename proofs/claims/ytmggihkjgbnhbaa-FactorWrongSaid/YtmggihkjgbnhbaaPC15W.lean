/- Part of the proof: conditions and contracts of functions of this program. No condition of its own. -/
import Derived.Test.YtmggihkjgbnhbaaPC15I
import Derived.Test.YtmggihkjgbnhbaaPVLR
/- Contract: slices.Repeat of one node, 120 times. -/
set_option linter.unusedVariables false
set_option linter.unusedSimpArgs false
set_option linter.unusedSectionVars false
namespace Go.Proofs.Ytmggihkjgbnhbaa
open Go Go.Eng Go.Rx Go.Proofs Go.RowKit
set_option maxRecDepth 100000

theorem cx_Mul64 (m : Mem) : CX Try.prog 74 #[.int .u64 1, .int .u64 120] m [] (Ret (.tuple #[.int .u64 0, .int .u64 120])) := by
  apply cx_math_bits_Mul64
  unfold VC_math_bits_Mul64
  refine ⟨by omega, by omega, by omega, by omega, by omega, m, Mem.le_refl _, Mem.le_refl _, ?_⟩
  unfold Ret
  kernel_rfl
theorem cx_Mul (m : Mem) : CX Try.prog 56 #[.int .u64 1, .int .u64 120] m [] (Ret (.tuple #[.int .u64 0, .int .u64 120])) := by
  apply cx_math_bits_Mul
  unfold VC_math_bits_Mul
  refine call_any (cx_Mul64 m) (fun v _ _ e => by rw [e]; rfl) ?_
  intro n n1 m1 hm1 hn
  exact ⟨m1, hm1, Mem.le_refl _, hn⟩
theorem replicate_add' {α : Type} (k j : Nat) (t : α) : List.replicate k t ++ List.replicate j t = List.replicate (k + j) t := by
  simp
theorem cx_Repeat (t : T) (b : Nat) (m : Mem) (hr : Rep m t) (hrd : m.reads b 0 t.cs) : CX Try.prog 30 #[.slice (some ⟨b, 0, none⟩) 1 1, .int .i64 120] m [] (fun v m' _ => ∃ a, v = .slice a 120 120 ∧ RepL m' a (List.replicate 120 t)) := by
  apply cx_slices_Repeat_rx_Node_rx_Node
  unfold VC_slices_Repeat_rx_Node_rx_Node
  refine br_f rfl (call_any (cx_Mul m) (fun v _ _ e => by rw [e]; rfl) ?_)
  intro n n1 m1 hm1 hn
  obtain ⟨rfl, rfl⟩ : n = 0 ∧ n1 = 120 := by simpa [Ret] using hn
  have hw : IntKind.i64.wrap 120 = 120 := by decide
  simp only [hw, show Int.toNat 120 = 120 from rfl]
  refine ⟨false, br_f rfl (one_bool rfl), br_f rfl ⟨⟨by omega, by omega, by omega, by omega⟩, ?_⟩⟩
  intro b' hf
  refine ⟨0, t.cs, rfl, rfl, by simp; exact (by decide : 8 ≤ 960), cs_one t, .inl (.inr ⟨b, 0, rfl, hrd.mono hm1⟩), ?_⟩
  refine ⟨fun xs css tvs m' q => ∃ (k : Nat) (cs : List Value), 1 ≤ k ∧ k ≤ 120 ∧ xs = [.int .i64 k] ∧ css = [cs] ∧ cs.length = 960 ∧ cs.take (k * 8) = Rx.cellsL (List.replicate k t) ∧ q = 120 - k, ⟨_, 1, _, by omega, by omega, rfl, rfl, ?_, ?_, rfl⟩, ?_⟩
  · rw [splice_length (by simp; exact (by decide : 8 ≤ 960))]
    simp
  · simp [splice, Rx.cellsL]
    exact List.take_left' rfl
  rintro z cs m2 q hm2 ⟨k, cs', hk1, hk2, hxs, hcss, hlen, htk, hq⟩
  obtain rfl : z = k := by simpa using hxs
  obtain rfl : cs = cs' := by simpa using hcss
  refine br_intro (fun hlt => ?_) (fun hge => ?_)
  · have hlt : k < 120 := by have := of_decide_eq_true hlt; omega
    refine ⟨⟨by omega, by omega⟩, ⟨by omega, by omega⟩, fun hf2 => ?_⟩
    generalize hj : min (Int.toNat (k : Int) - 0) (120 - Int.toNat (k : Int)) = j
    have hj1 : 1 ≤ j ∧ j ≤ k ∧ k + j ≤ 120 := by simp at hj; omega
    have hxl : (Rx.cellsL (List.replicate j t)).length = j * 8 := by rw [cellsL_len, List.length_replicate]
    have hb1 : Nat.beq k 0 = false := by cases k with | zero => omega | succ k => rfl
    have hb2 : Nat.beq 120 k = false := by
      cases h : Nat.beq 120 k with
      | false => rfl
      | true => have := Nat.eq_of_beq_eq_true h; omega
    have hpre : ∀ (i : Nat) (u : Value), (Rx.cellsL (List.replicate j t))[i]? = some u → cs[i]? = some u := fun i u hu => by
      have hi := (List.getElem?_eq_some_iff.1 hu).1
      rw [hxl] at hi
      have h1 : (cs.take (k * 8))[i]? = cs[i]? := List.getElem?_take_of_lt (by omega)
      rw [← h1, htk, show k = j + (k - j) by omega, ← replicate_add', cellsL_append, List.getElem?_append_left (by rw [hxl]; omega)]
      exact hu
    refine ⟨k * 8, Rx.cellsL (List.replicate j t), ?_, hxl, by rw [hxl, hlen]; omega, cellsL_one _, .inr ⟨0, rfl, fun i u hu => by rw [Nat.zero_add]; exact hpre i u hu⟩, ?_⟩
    · simp [slBase, hb1, hb2, Addr.add]
      omega
    · have hwj : IntKind.i64.wrap ((k : Int) + (j : Int)) = ((k + j : Nat) : Int) := by rw [wrap64 (by omega) (by omega)]; omega
      refine ⟨by trivial, 120 - (k + j), by omega, k + j, _, by omega, by omega, by rw [hwj], rfl, ?_, ?_, rfl⟩
      · rw [splice_length (by rw [hxl, hlen]; omega), hlen]
      · unfold splice
        rw [htk, ← cellsL_append, replicate_add']
        exact List.take_left' (by rw [cellsL_len, List.length_replicate])
  · have hkk : k = 120 := by have := of_decide_eq_false hge; omega
    subst hkk
    rw [List.take_of_length_le (by omega)] at htk
    subst htk
    exact ⟨m1.add b' _, Mem.le_trans hm1 (Mem.le_add hf _), Mem.add_le hm2 _ _, _, rfl, repL_add hf (fun x hx => by rw [List.eq_of_mem_replicate hx]; exact hr.mono hm1) (by simp)⟩
end Go.Proofs.Ytmggihkjgbnhbaa

