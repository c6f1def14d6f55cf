/- Part of the proof: conditions and contracts of functions of this program. No condition of its own. -/
import Derived.Test.YtmggihkjgbnhbaaPC15U
import Derived.Test.YtmggihkjgbnhbaaPVLG
/- Contracts: slices.Contains and slices.Index of cuts, slices.Compare of integers. -/
set_option linter.unusedVariables false
set_option linter.unusedSimpArgs false
set_option linter.unusedSectionVars false
namespace Go.Proofs.Ytmggihkjgbnhbaa
open Go Go.Eng Go.Rx Go.Proofs Go.RowKit
set_option maxRecDepth 100000

theorem cx_IndexC (L : List C4) (a : Option Addr) (c : Nat) (k : C4) (m : Mem) (h : rowRd m a (cutsCells L)) (hl : L.length ≤ 1000000) : CX Try.prog 54 #[.slice a L.length c, k.v] m [] (fun v _ _ => ∃ z : Int, v = .int .i64 z ∧ (0 ≤ z ↔ k ∈ L)) := by
  apply cx_slices_Index_factor_Cut_factor_Cut
  unfold VC_slices_Index_factor_Cut_factor_Cut
  intro b m1 hm1 _
  refine ⟨fun xs css _ m' q => ∃ i : Nat, i ≤ L.length ∧ xs = [.int .i64 i] ∧ k ∉ L.take i ∧ q = L.length - i, ⟨_, 0, by omega, rfl, by simp, rfl⟩, ?_⟩
  rintro z m2 q hm2 ⟨i, hi, hz, hno, hq⟩
  obtain rfl : z = i := by simpa using hz
  have hm12 := Mem.le_trans hm1 hm2
  refine br_intro (fun hlt => ?_) (fun hge => ⟨m2, hm12, Mem.le_refl _, _, rfl, ?_⟩)
  · have hlt' : i < L.length := by have := of_decide_eq_true hlt; omega
    obtain ⟨u, hu⟩ := at_some hlt'
    obtain ⟨b0, o0, ha0, hrd⟩ := row_getC (h.mono hm12) hu
    have hwr : IntKind.i64.wrap ((i : Int) + 1) = ((i + 1 : Nat) : Int) := by rw [wrap64 (by omega) (by omega)]; rfl
    simp only [hwr, Int.toNat_natCast]
    refine ⟨b0, o0, ha0, ⟨by omega, by omega⟩, _, _, _, _, hrd, _, eq_cut _ _ _ _ _ _ _ _, br_intro (fun hc => ⟨m2, hm12, Mem.le_refl _, _, rfl, ?_⟩) (fun hc => ⟨by trivial, L.length - (i + 1), by omega, i + 1, by omega, rfl, ?_, rfl⟩)⟩
    · simp only [Bool.and_eq_true, beq_iff_eq] at hc
      obtain rfl : k = u := c4_ext hc.1.1.1 hc.1.1.2 hc.1.2 hc.2
      exact ⟨fun _ => List.mem_of_getElem? hu, fun _ => by omega⟩
    · rw [take_at hu, List.mem_append]
      rintro (h | h)
      · exact hno h
      · rw [List.mem_singleton] at h; subst h; simp at hc
  · have : i = L.length := by have := of_decide_eq_false hge; omega
    subst this
    rw [List.take_length] at hno
    exact ⟨fun h => by omega, fun h => absurd h hno⟩
theorem cx_ContainsC (L : List C4) (a : Option Addr) (c : Nat) (k : C4) (m : Mem) (h : rowRd m a (cutsCells L)) (hl : L.length ≤ 1000000) : CX Try.prog 28 #[.slice a L.length c, k.v] m [] (Ret (.bool (decide (k ∈ L)))) := by
  apply cx_slices_Contains_factor_Cut_factor_Cut
  unfold VC_slices_Contains_factor_Cut_factor_Cut
  intro b m1 hm1 _
  refine call_any (cx_IndexC L a c k m1 (h.mono hm1) hl) (fun v _ _ ⟨z, e, _⟩ => by rw [e]; rfl) ?_
  rintro z m2 hm2 ⟨z', hz, hx⟩
  cases hz
  exact ret_pure (Mem.le_trans hm1 hm2) (by unfold Ret; congr 1; exact decide_eq_decide.2 hx)
def cmp1 (a b : Int) : Int := if a < b then -1 else if b < a then 1 else 0
theorem cx_isNaNi (n : Int) (m : Mem) : CX Try.prog 72 #[.int .i64 n] m [] (Ret (.bool false)) := by
  apply cx_cmp_isNaN_int
  unfold VC_cmp_isNaN_int
  exact ret_pure (Mem.le_refl _) (by simp [Ret])
theorem cx_cmp1 (a b : Int) (m : Mem) : CX Try.prog 55 #[.int .i64 a, .int .i64 b] m [] (Ret (.int .i64 (cmp1 a b))) := by
  apply cx_cmp_Compare_int
  unfold VC_cmp_Compare_int
  refine call_bool (cx_isNaNi a m) fun m1 hm1 => call_bool (cx_isNaNi b m1) fun m2 hm2 => br_f rfl (br_f rfl (br_intro (fun h => ?_) (fun h => br_intro (fun h2 => ?_) (fun h2 => ?_))))
  · exact ret_pure (Mem.le_trans hm1 hm2) (by unfold Ret cmp1; rw [if_pos (of_decide_eq_true h)])
  · exact ret_pure (Mem.le_trans hm1 hm2) (by unfold Ret cmp1; rw [if_neg (of_decide_eq_false h), if_pos (of_decide_eq_true h2)])
  · exact ret_pure (Mem.le_trans hm1 hm2) (by unfold Ret cmp1; rw [if_neg (of_decide_eq_false h), if_neg (of_decide_eq_false h2)])
def cmpI : List Int → List Int → Int
  | [], [] => 0
  | [], _ :: _ => -1
  | _ :: _, [] => 1
  | a :: l, b :: r => if cmp1 a b = 0 then cmpI l r else cmp1 a b
def intsL (l : List Int) : List Value := l.map (fun z => .int .i64 z)
theorem row_getI {m : Mem} {a : Option Addr} {l : List Int} (h : rowRd m a (intsL l)) {i : Nat} {x : Int} (hx : l[i]? = some x) : ∃ b o, a = some ⟨b, o, none⟩ ∧ m b (o + i) = some (.int .i64 x) := by
  rcases h with h | ⟨b, o, ha, h⟩
  · rw [show l = [] by simpa [intsL] using h] at hx; simp at hx
  · exact ⟨b, o, ha, h i (.int .i64 x) (by rw [intsL, List.getElem?_map, hx]; rfl)⟩
theorem cx_Compare (l r : List Int) (a b : Option Addr) (c d : Nat) (m : Mem) (hl : rowRd m a (intsL l)) (hr : rowRd m b (intsL r)) (hn : l.length ≤ 1000000) : CX Try.prog 29 #[.slice a l.length c, .slice b r.length d] m [] (Ret (.int .i64 (cmpI l r))) := by
  apply cx_slices_Compare_int_int
  unfold VC_slices_Compare_int_int
  refine ⟨fun xs css _ m' q => ∃ i : Nat, i ≤ l.length ∧ xs = [.int .i64 i] ∧ cmpI l r = cmpI (l.drop i) (r.drop i) ∧ q = l.length - i, ⟨_, 0, by omega, rfl, rfl, rfl⟩, ?_⟩
  rintro z m1 q hm1 ⟨i, hi, hz, hc, hq⟩
  obtain rfl : z = i := by simpa using hz
  refine br_intro (fun hlt => ?_) (fun hge => ?_)
  · have hlt' : i < l.length := by have := of_decide_eq_true hlt; omega
    obtain ⟨x, hx⟩ := at_some hlt'
    obtain ⟨b0, o0, ha0, hrd⟩ := row_getI (hl.mono hm1) hx
    have hwr : IntKind.i64.wrap ((i : Int) + 1) = ((i + 1 : Nat) : Int) := by rw [wrap64 (by omega) (by omega)]; rfl
    have hdx := List.drop_eq_getElem_cons hlt'
    rw [(List.getElem?_eq_some_iff.1 hx).2] at hdx
    simp only [hwr, Int.toNat_natCast, Nat.mul_one]
    refine ⟨b0, o0, ha0, ⟨by omega, by omega⟩, _, hrd, br_intro (fun h2 => ?_) (fun h2 => ?_)⟩
    · have h2 := of_decide_eq_true h2
      rw [hdx, List.drop_eq_nil_of_le (show r.length ≤ i by omega)] at hc
      exact ret_pure hm1 (by unfold Ret; rw [hc]; rfl)
    · have h2 : i < r.length := by have := of_decide_eq_false h2; omega
      obtain ⟨y, hy⟩ := at_some h2
      obtain ⟨b1, o1, hb0, hrd1⟩ := row_getI (hr.mono hm1) hy
      have hdy := List.drop_eq_getElem_cons h2
      rw [(List.getElem?_eq_some_iff.1 hy).2] at hdy
      rw [hdx, hdy] at hc
      refine ⟨b1, o1, hb0, ⟨by omega, by omega⟩, _, hrd1, call_any (cx_cmp1 x y m1) (fun v _ _ e => by rw [e]; rfl) ?_⟩
      intro n m2 hm2 hn2
      obtain rfl : n = cmp1 x y := by simpa [Ret] using hn2
      refine br_intro (fun h3 => ?_) (fun h3 => ?_)
      · have h3 : cmp1 x y ≠ 0 := by simpa using h3
        exact ret_pure (Mem.le_trans hm1 hm2) (by unfold Ret; rw [hc, cmpI, if_neg h3])
      · have h3 : cmp1 x y = 0 := by simpa using h3
        exact ⟨l.length - (i + 1), by omega, i + 1, by omega, rfl, by rw [hc, cmpI, if_pos h3], rfl⟩
  · have : i = l.length := by have := of_decide_eq_false hge; omega
    subst this
    rw [List.drop_length] at hc
    refine br_intro (fun h2 => ?_) (fun h2 => ?_)
    · have h2 : l.length < r.length := by have := of_decide_eq_true h2; omega
      rw [List.drop_eq_getElem_cons h2] at hc
      exact ret_pure hm1 (by unfold Ret; rw [hc]; rfl)
    · have h2 : r.length ≤ l.length := by have := of_decide_eq_false h2; omega
      rw [List.drop_eq_nil_of_le h2] at hc
      exact ret_pure hm1 (by unfold Ret; rw [hc]; rfl)
theorem cmp1_ge {a b : Int} (h : b ≤ a) : 0 ≤ cmp1 a b := by
  unfold cmp1; rw [if_neg (by omega)]; split <;> omega
theorem cmp1_gt {a b : Int} (h : b < a) : cmp1 a b = 1 := by
  unfold cmp1; rw [if_neg (by omega), if_pos h]
theorem cmp1_eq (a : Int) : cmp1 a a = 0 := by
  unfold cmp1; rw [if_neg (by omega), if_neg (by omega)]
theorem cmp1_lt {a b : Int} (h : a < b) : cmp1 a b = -1 := by
  unfold cmp1; rw [if_pos h]
theorem cmpI_lt {a b c a' b' c' : Int} (h : a < a' ∨ (a = a' ∧ (b < b' ∨ (b = b' ∧ c < c')))) : cmpI [a, b, c] [a', b', c'] = -1 := by
  unfold cmpI
  rcases h with h | ⟨rfl, h | ⟨rfl, h⟩⟩
  · rw [cmp1_lt h, if_neg (by omega)]
  · rw [cmp1_eq, if_pos rfl]
    unfold cmpI
    rw [cmp1_lt h, if_neg (by omega)]
  · rw [cmp1_eq, if_pos rfl]
    unfold cmpI
    rw [cmp1_eq, if_pos rfl]
    unfold cmpI
    rw [cmp1_lt h, if_neg (by omega)]
theorem cmpI_ge {a b c a' b' c' : Int} (h : a' < a ∨ (a' = a ∧ (b' < b ∨ (b' = b ∧ c' ≤ c)))) : 0 ≤ cmpI [a, b, c] [a', b', c'] := by
  unfold cmpI
  rcases h with h | ⟨rfl, h | ⟨rfl, h⟩⟩
  · rw [cmp1_gt h, if_neg (by omega)]; omega
  · rw [cmp1_eq, if_pos rfl]
    unfold cmpI
    rw [cmp1_gt h, if_neg (by omega)]; omega
  · rw [cmp1_eq, if_pos rfl]
    unfold cmpI
    rw [cmp1_eq, if_pos rfl]
    unfold cmpI
    have := cmp1_ge h
    split
    · unfold cmpI; omega
    · exact this
end Go.Proofs.Ytmggihkjgbnhbaa

