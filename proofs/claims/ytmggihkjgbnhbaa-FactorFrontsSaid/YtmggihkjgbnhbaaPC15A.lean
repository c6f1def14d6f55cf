/- Part of the proof: conditions and contracts of functions of this program. No condition of its own. -/
import Derived.Test.YtmggihkjgbnhbaaPVFA
import Derived.Test.YtmggihkjgbnhbaaPC13P
import Derived.Test.YtmggihkjgbnhbaaMr
set_option linter.unusedVariables false
set_option linter.unusedSimpArgs false
set_option linter.unusedSectionVars false
namespace Go.Proofs.Ytmggihkjgbnhbaa
open Go Go.Eng Go.Rx Go.Proofs Go.RowKit
set_option maxRecDepth 100000
def ptrV (b : Nat) : Value := .pointer (some ⟨b, 0, none⟩)
theorem flat_get {α β : Type} {ys : α → List β} {l : List α} {i : Nat} {x : α} (h : l[i]? = some x) {j : Nat} {v : β} (hj : (ys x)[j]? = some v) : (l.flatMap ys)[((l.take i).flatMap ys).length + j]? = some v := by
 obtain ⟨hlt, e⟩ := List.getElem?_eq_some_iff.1 h
 have h1 : l = l.take i ++ x :: l.drop (i + 1) := by
  rw [← e, ← List.drop_eq_getElem_cons hlt, List.take_append_drop]
 rw [h1, List.flatMap_append, List.getElem?_append_right (by simp [List.take_append, Nat.min_eq_left (Nat.le_of_lt hlt)]), List.flatMap_cons]
 have hj2 := (List.getElem?_eq_some_iff.1 hj).1
 rw [← h1, show (List.flatMap ys (List.take i l)).length + j - (List.flatMap ys (List.take i l)).length = j by omega, List.getElem?_append_left hj2]
 exact hj
theorem cy_IndexFunc (l : List T) (a : Option Addr) (c : Nat) (g : Nat) (ca : List Value) (ys : T → List (List Value)) (m : Mem) (lab : Nat) (hl : RepL m a l)
  (hp : ∀ x ∈ l, ∀ m', m.le m' → Rep m' x → CY Try.prog g (x.v :: ca) m' lab (ys x) (fun v => v = .bool false) (fun v => v = .bool true)) :
  CY Try.prog 59 [.slice a l.length c, .func (.func g) #[] ca.toArray] m lab (l.flatMap ys) (fun v => v = .int .i64 (-1)) (fun v => ∃ i : Nat, v = .int .i64 i) := by
 apply cy_slices_IndexFunc_rx_Node_rx_Node_cy a l.length c g [] ca
 unfold VC_slices_IndexFunc_rx_Node_rx_Node_cy
 have hrow := row_of_repL hl
 have hreps := repL_reps hl
 have hlen := hl.1
 refine ⟨fun xs _ _ m'' q => ∃ i : Nat, i ≤ l.length ∧ xs = [.int .i64 (((l.take i).flatMap ys).length : Nat), .int .i64 i] ∧ q = l.length - i, ⟨_, 0, by omega, rfl, rfl⟩, ?_⟩
 rintro y n m' q hm ⟨i, hi, hxs, hq⟩
 simp only [List.cons.injEq, Value.int.injEq, true_and, and_true] at hxs
 obtain ⟨rfl, rfl⟩ := hxs
 refine br_intro (fun hlt => ?_) (fun hge => ?_)
 ·have hlt' : i < l.length := by have := of_decide_eq_true hlt; omega
  obtain ⟨x, hx⟩ := at_some hlt'
  have hmem := List.mem_of_getElem? hx
  obtain ⟨b0, o0, ha0, hrd⟩ := row_get (hrow.mono hm) hx
  refine ⟨b0, o0, ha0, ⟨by omega, by omega⟩, _, _, _, _, _, _, _, _, hrd, lab, ys x, _, _, hp x hmem m' hm ((hreps x hmem).mono hm), fun j v hj => ⟨rfl, by omega, ?_⟩, fun v hv => by rcases hv with rfl | rfl <;> rfl, fun b => ⟨fun hb => ?_, fun hb => ?_⟩⟩
  ·rw [show (((((l.take i).flatMap ys).length : Nat) : Int) + (j : Int)).toNat = ((l.take i).flatMap ys).length + j by omega]
   exact flat_get hx hj
  ·cases hb
   have hw : IntKind.i64.wrap ((i : Int) + 1) = ((i + 1 : Nat) : Int) := by rw [wrap64 (by omega) (by omega)]; rfl
   rw [hw]
   refine br_f rfl ⟨l.length - (i + 1), by omega, i + 1, by omega, ?_, rfl⟩
   rw [take_at hx, List.flatMap_append, List.length_append]
   simp
  ·cases hb
   exact br_t rfl (.inr ⟨rfl, i, rfl⟩)
 ·have : i = l.length := by have := of_decide_eq_false hge; omega
  subst this
  rw [List.take_length]
  exact .inl ⟨rfl, rfl⟩
theorem cy_ContainsFunc (l : List T) (a : Option Addr) (c : Nat) (g : Nat) (ca : List Value) (ys : T → List (List Value)) (m : Mem) (lab : Nat) (hl : RepL m a l)
  (hp : ∀ x ∈ l, ∀ m', m.le m' → Rep m' x → CY Try.prog g (x.v :: ca) m' lab (ys x) (fun v => v = .bool false) (fun v => v = .bool true)) :
  CY Try.prog 76 [.slice a l.length c, .func (.func g) #[] ca.toArray] m lab (l.flatMap ys) (fun v => v = .bool false) (fun v => v = .bool true) := by
 apply cy_slices_ContainsFunc_rx_Node_rx_Node_cy a l.length c g [] ca
 unfold VC_slices_ContainsFunc_rx_Node_rx_Node_cy
 refine ⟨lab, l.flatMap ys, _, _, cy_IndexFunc l a c g ca ys m lab hl hp, fun j v hj => ⟨rfl, by omega, ?_⟩, fun v hv => ?_, fun n => ⟨fun hn => ?_, fun hn => ?_⟩⟩
 ·rw [show ((0 : Int) + (j : Int)).toNat = j by omega]; exact hj
 ·rcases hv with rfl | ⟨i, rfl⟩ <;> rfl
 ·cases hn
  exact .inl ⟨by omega, rfl⟩
 ·obtain ⟨i, hi⟩ := hn
  cases hi
  exact .inr ⟨rfl, by rw [decide_eq_true (by omega)]⟩
theorem altsV (l : List T) : (l.flatMap fun x => x.alts.map fun a => [a.v]) = (altsL l).map fun a => [a.v] := by
 induction l with
 | nil => rfl
 | cons t l ih => rw [List.flatMap_cons, ih, altsL, List.map_append]
theorem cy_walk (m : Mem) (yb wb lab : Nat) (hy : m yb 0 = some (.func (.yield lab) #[] #[])) (hw : m wb 0 = some (.func (.func 79) #[] #[ptrV yb, ptrV wb])) (t : T) (m' : Mem) (hm : m.le m') (hr : Rep m' t) :
  CY Try.prog 79 [t.v, ptrV yb, ptrV wb] m' lab (t.alts.map fun a => [a.v]) (fun v => v = .bool true) (fun v => v = .bool false) := by
 apply cy_factor_alts_1_1
 unfold VC_factor_alts_1_1
 intro b m1 hm1 hb
 have hle := Mem.le_trans hm hm1
 have ih : ∀ x ∈ t.subs, ∀ m2, m1.le m2 → Rep m2 x → CY Try.prog 80 (x.v :: [ptrV wb]) m2 lab (x.alts.map fun a => [a.v]) (fun v => v = .bool false) (fun v => v = .bool true) := by
  intro x hx m2 hm2 hxr
  apply cy_factor_alts_1_1_1
  unfold VC_factor_alts_1_1_1
  intro b2 m3 hm3 hb2
  refine ⟨_, Mem.le_trans hle (Mem.le_trans hm2 hm3) _ _ _ hw, _, [], [ptrV yb, ptrV wb], rfl, lab, _, _, _, cy_walk m yb wb lab hy hw x m3 (Mem.le_trans hle (Mem.le_trans hm2 hm3)) (hxr.mono hm3), fun j v hj => ⟨rfl, by omega, ?_⟩, fun v hv => by rcases hv with rfl | rfl <;> rfl, fun b => ⟨fun hb => ?_, fun hb => ?_⟩⟩
  ·rw [show ((0 : Int) + (j : Int)).toNat = j by omega]; exact hj
  ·cases hb; exact .inl ⟨by omega, rfl⟩
  ·cases hb; exact .inr ⟨rfl, rfl⟩
 have hcf := cy_ContainsFunc t.subs t.a t.c 80 [ptrV wb] (fun x => x.alts.map fun a => [a.v]) m1 lab (hr.mono hm1).subs ih
 rw [altsV] at hcf
 have hal := alts_eq t
 refine br_intro (fun hk => ?_) (fun hk => ?_)
 ·have hk' : t.k = 4 := by simpa using hk
  rw [if_pos hk'] at hal
  rw [hal]
  refine ⟨_, hle _ _ _ hy, lab, rfl, ⟨rfl, by omega, rfl⟩, ⟨lab, _, _, _, hcf, fun j v hj => ⟨rfl, by omega, ?_⟩, fun v hv => by rcases hv with rfl | rfl <;> rfl, fun b => ⟨fun hb => ?_, fun hb => ?_⟩⟩, .inr ⟨rfl, rfl⟩⟩
  ·rw [show ((0 : Int) + 1 + (j : Int)).toNat = j + 1 by omega]
   simpa using hj
  ·cases hb; exact .inl ⟨by simp; omega, rfl⟩
  ·cases hb; exact .inr ⟨rfl, rfl⟩
 ·have hk' : ¬ t.k = 4 := by simpa using hk
  rw [if_neg hk', List.nil_append] at hal
  rw [hal]
  refine ⟨lab, _, _, _, hcf, fun j v hj => ⟨rfl, by omega, ?_⟩, fun v hv => by rcases hv with rfl | rfl <;> rfl, fun b => ⟨fun hb => ?_, fun hb => ?_⟩⟩
  ·rw [show ((0 : Int) + (j : Int)).toNat = j by omega]; exact hj
  ·cases hb; exact .inl ⟨by omega, rfl⟩
  ·cases hb; exact .inr ⟨rfl, rfl⟩
termination_by SizeOf.sizeOf t
decreasing_by exact sub_lt hx
theorem ix_alts (t : T) (m : Mem) (c0b : Nat) (hrd : m.reads c0b 0 t.cs) (hr : Rep m t) : IX Try.prog 78 [] [ptrV c0b] m (t.alts.map fun a => [a.v]) := by
 apply ix_factor_alts_1 0 [] [] c0b 0
 unfold VC_factor_alts_1
 intro l b m1 hm1 hb b2
 refine ⟨_, _, _, _, _, _, _, _, fun j v hj => hm1 _ _ _ (hrd j v hj), fun m2 hm2 hb2 => ?_⟩
 refine ⟨l, _, _, _, cy_walk m2 b b2 l (hm2 _ _ _ (by have := hb 0 _ rfl; simpa using this)) (by have := hb2 0 _ rfl; rw [Nat.zero_add] at this; exact this) t m2 (Mem.le_refl _) (hr.mono (Mem.le_trans hm1 hm2)), fun j v hj => ⟨rfl, by omega, ?_⟩, fun v hv => by rcases hv with rfl | rfl <;> rfl, fun b => ⟨fun hb => .inl (by omega), fun hb => .inr rfl⟩⟩
 rw [show ((0 : Int) + (j : Int)).toNat = j by omega]; exact hj
end Go.Proofs.Ytmggihkjgbnhbaa

