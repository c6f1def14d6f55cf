/- Part of the proof: conditions and contracts of functions of this program. No condition of its own. -/
import Derived.Test.YtplacemlpkhmfaaPC13H
import Derived.Test.YtplacemlpkhmfaaMr
set_option linter.unusedVariables false
set_option linter.unusedSimpArgs false
set_option linter.unusedSectionVars false
namespace Go.Proofs.Ytplacemlpkhmfaa
open Go Go.Eng Go.Rx Go.Proofs Go.RowKit
set_option maxRecDepth 100000
theorem joinL_if (k : Int) (t : T) : joinL k t = if t.k = k then t.subs else if k = 3 ∧ t.k = 1 then [] else [t] := rfl
theorem oneCells (l : List T) : ∀ u ∈ Rx.cellsL l, u.oneCell' = true := by
 intro u hu
 simp only [Rx.cellsL, List.mem_flatten, List.mem_map] at hu
 obtain ⟨_, ⟨t, _, rfl⟩, h⟩ := hu
 simp only [T.cs, List.mem_cons, List.not_mem_nil, or_false, T.sl] at h
 rcases h with rfl | rfl | rfl | rfl | rfl | rfl | rfl | rfl <;> rfl
theorem cx_joins (k : Int) (t u : T) (hk : k = 3 ∨ k = 4) (m : Mem) (hr : Rep m t) (hu : Rep m u) (ht : (joinL k t).length ≤ 10000) (htu : (joinL k u).length ≤ 10000) : CX Try.prog 65 #[.int .u8 k, t.v, u.v] m [] (TreeR (fun r => ∃ a c, r = mkJoin k a c (joinL k t ++ joinL k u))) := by
 apply cx_law08_joins
 unfold VC_law08_joins
 intro b m1 hm1 _ b1 m2 hm2 _ b2 b3 hf3
 have hle2 := Mem.le_trans hm1 hm2
 have hle3 : m.le (m2.add b3 (t.cs ++ u.cs)) := Mem.le_trans hle2 (Mem.le_add hf3 _)
 refine ⟨fun xs css tvs m' q => ∃ (i : Nat) (l : List T) (a : Option Addr) (c : Nat), i ≤ 2 ∧ xs = [.slice a l.length c, .int .i64 i] ∧ tvs = [.slice a l.length c] ∧ l = (([t, u].take i).map (joinL k)).flatten ∧ rowRd m' a (Rx.cellsL l) ∧ q = 2 - i, ⟨2, 0, [], none, 0, by omega, rfl, rfl, rfl, .inl rfl, rfl⟩, ?_⟩
 rintro a n c z a1 n1 c1 m3 q hm3 ⟨i, l, a', c', hi, hxs, htv, hl, hrow, hq⟩
 simp only [List.cons.injEq, Value.slice.injEq, Value.int.injEq, true_and, and_true] at hxs htv
 obtain ⟨⟨rfl, rfl, rfl⟩, rfl⟩ := hxs
 obtain ⟨rfl, rfl, rfl⟩ := htv
 have hm3' := Mem.le_trans hle3 hm3
 have hll : l.length ≤ 20000 := by
  rw [hl]
  have : i = 0 ∨ i = 1 ∨ i = 2 := by omega
  rcases this with rfl | rfl | rfl <;> simp <;> omega
 refine br_intro (fun hlt => ?_) (fun hge => ?_)
 ·have h2 : i = 0 ∨ i = 1 := by have := of_decide_eq_true hlt; omega
  rcases h2 with rfl | rfl
  ·
   refine ⟨⟨by omega, by omega⟩, chk_intro rfl fun b4 => chk_intro rfl (look_intro (v := .int .u8 t.k) rfl (chk_intro rfl (br_intro (fun hkk => look_intro (v := t.sl) rfl (chk_intro rfl ?_)) (fun hkk => ?_))))⟩
   ·have hkk' : t.k = k := by simpa [RowKit.intOf] using hkk
    have hj : joinL k t = t.subs := by rw [joinL_if, if_pos hkk']
    have hlen := ht
    rw [hj] at hlen
    refine ⟨.inl rfl, Rx.cellsL l, Rx.cellsL t.subs, cellsL_len _, cellsL_len _, hrow, (row_of_repL (hr.subs)).mono hm3', oneCells _, ?_, ?_, fun a2 c2 m4 hm4 hrow4 => ⟨by trivial, 1, by omega, 1, l ++ t.subs, a2, c2, by omega, ?_, ?_, ?_, ?_, ?_⟩⟩
    ·simp only [T.sl, slN]; omega
    ·simp only [T.sl, slN]; omega
    ·rw [List.length_append]; rfl
    ·rw [List.length_append]; rfl
    ·rw [hl, ← hj]; simp
    ·rw [cellsL_append]; exact hrow4
    ·omega
   ·have hkk' : ¬ t.k = k := by simpa [RowKit.intOf] using hkk
    refine ⟨k == 3 && t.k == 1, br_intro (fun h => look_intro (v := .int .u8 t.k) rfl (chk_intro rfl ⟨by trivial, by trivial, ?_⟩)) (fun h => ⟨by trivial, by trivial, ?_⟩), br_intro (fun h => ⟨by trivial, 1, by omega, 1, l, _, _, by omega, rfl, rfl, ?_, hrow, by omega⟩) (fun h => chk_intro rfl fun b6 hf6 => ?_)⟩
    ·rw [h]; rfl
    ·rw [h]; rfl
    ·have : k = 3 ∧ t.k = 1 := by simpa using h
     have hj : joinL k t = [] := by rw [joinL_if, if_neg hkk', if_pos this]
     rw [hl]; simp [hj]
    ·have : ¬ (k = 3 ∧ t.k = 1) := by simpa using h
     have hj : joinL k t = [t] := by rw [joinL_if, if_neg hkk', if_neg this]
     have hle6 := Mem.le_add hf6 t.cs
     refine ⟨.inl rfl, Rx.cellsL l, t.cs, cellsL_len _, rfl, hrow.mono hle6, .inr ⟨b6, 0, rfl, fun j v hj => by rw [Nat.zero_add, Mem.add_same]; exact hj⟩, by rw [← cells_one]; exact oneCells _, by omega, by omega, fun a2 c2 m4 hm4 hrow4 => ⟨by trivial, 1, by omega, 1, l ++ [t], a2, c2, by omega, ?_, ?_, ?_, ?_, ?_⟩⟩
     ·rw [List.length_append]; rfl
     ·rw [List.length_append]; rfl
     ·rw [hl]; simp [hj]
     ·rw [cellsL_append, cells_one]; exact hrow4
     ·omega
  ·
   refine ⟨⟨by omega, by omega⟩, chk_intro rfl fun b4 => chk_intro rfl (look_intro (v := .int .u8 u.k) rfl (chk_intro rfl (br_intro (fun hkk => look_intro (v := u.sl) rfl (chk_intro rfl ?_)) (fun hkk => ?_))))⟩
   ·have hkk' : u.k = k := by simpa [RowKit.intOf] using hkk
    have hj : joinL k u = u.subs := by rw [joinL_if, if_pos hkk']
    have hlen := htu
    rw [hj] at hlen
    refine ⟨.inl rfl, Rx.cellsL l, Rx.cellsL u.subs, cellsL_len _, cellsL_len _, hrow, (row_of_repL (hu.subs)).mono hm3', oneCells _, ?_, ?_, fun a2 c2 m4 hm4 hrow4 => ⟨by trivial, 0, by omega, 2, l ++ u.subs, a2, c2, by omega, ?_, ?_, ?_, ?_, ?_⟩⟩
    ·simp only [T.sl, slN]; omega
    ·simp only [T.sl, slN]; omega
    ·rw [List.length_append]; rfl
    ·rw [List.length_append]; rfl
    ·rw [hl, ← hj]; simp
    ·rw [cellsL_append]; exact hrow4
    ·omega
   ·have hkk' : ¬ u.k = k := by simpa [RowKit.intOf] using hkk
    refine ⟨k == 3 && u.k == 1, br_intro (fun h => look_intro (v := .int .u8 u.k) rfl (chk_intro rfl ⟨by trivial, by trivial, ?_⟩)) (fun h => ⟨by trivial, by trivial, ?_⟩), br_intro (fun h => ⟨by trivial, 0, by omega, 2, l, _, _, by omega, rfl, rfl, ?_, hrow, by omega⟩) (fun h => chk_intro rfl fun b6 hf6 => ?_)⟩
    ·rw [h]; rfl
    ·rw [h]; rfl
    ·have : k = 3 ∧ u.k = 1 := by simpa using h
     have hj : joinL k u = [] := by rw [joinL_if, if_neg hkk', if_pos this]
     rw [hl]; simp [hj]
    ·have : ¬ (k = 3 ∧ u.k = 1) := by simpa using h
     have hj : joinL k u = [u] := by rw [joinL_if, if_neg hkk', if_neg this]
     have hle6 := Mem.le_add hf6 u.cs
     refine ⟨.inl rfl, Rx.cellsL l, u.cs, cellsL_len _, rfl, hrow.mono hle6, .inr ⟨b6, 0, rfl, fun j v hj => by rw [Nat.zero_add, Mem.add_same]; exact hj⟩, by rw [← cells_one]; exact oneCells _, by omega, by omega, fun a2 c2 m4 hm4 hrow4 => ⟨by trivial, 0, by omega, 2, l ++ [u], a2, c2, by omega, ?_, ?_, ?_, ?_, ?_⟩⟩
     ·rw [List.length_append]; rfl
     ·rw [List.length_append]; rfl
     ·rw [hl]; simp [hj]
     ·rw [cellsL_append, cells_one]; exact hrow4
     ·omega
 ·have : i = 2 := by have := of_decide_eq_false hge; omega
  subst this
  have hl' : joinL k t ++ joinL k u = l := by rw [hl]; simp
  rw [hl']
  have hreps : ∀ x ∈ l, Rep m3 x := by
   have key : ∀ t : T, Rep m t → ∀ x ∈ joinL k t, Rep m3 x := by
    intro t hr x hx
    rw [joinL_if] at hx
    split at hx
    ·exact repL_reps (hr.subs.mono hm3') x hx
    ·split at hx
     ·simp at hx
     ·simp at hx; subst hx; exact hr.mono hm3'
   rw [← hl']
   intro x hx
   rcases List.mem_append.1 hx with hx | hx
   ·exact key t hr x hx
   ·exact key u hu x hx
  refine br_intro (fun h0 => ?_) (fun h0 => br_intro (fun h1 => ?_) (fun h1 => ?_))
  ·have : l = [] := by simpa using h0
   subst this
   exact ret_pure hm3' ⟨T1, rfl, rep_T1 _, none, 0, rfl⟩
  ·have hln : l.length = 1 := by
    have : ((l.length : Int) == 1) = true := h1
    have := of_decide_eq_true this; omega
   obtain ⟨x, rfl⟩ : ∃ x, l = [x] := by
    match l, hln with
    | [x], _ => exact ⟨x, rfl⟩
   rcases hrow with hrow | ⟨b6, o, ha, hrd⟩
   ·simp [Rx.cellsL, T.cs] at hrow
   ·rw [cells_one] at hrd
    exact ⟨b6, o, ha, ⟨by omega, by simp⟩, _, _, _, _, _, _, _, _, hrd, chk_intro rfl (ret_all hm3' ⟨x, rfl, hreps x (by simp), none, 0, rfl⟩)⟩
  ·have hl0 : ¬ l.length = 0 := fun e => by rw [e] at h0; simp at h0
   have hl1 : ¬ l.length = 1 := fun e => by rw [e] at h1; simp at h1
   obtain ⟨x, y, r, rfl⟩ : ∃ x y r, l = x :: y :: r := by
    match l, hl0, hl1 with
    | [], h, _ => simp at h
    | [x], _, h => simp at h
    | x :: y :: r, _, _ => exact ⟨x, y, r, rfl⟩
   refine ret_all hm3' ⟨nodeT k 0 0 _ _ (x :: y :: r), rfl, rep_node_mk (repL_of hrow hreps (by omega)) (by omega) (by omega) (by omega), _, _, rfl⟩
end Go.Proofs.Ytplacemlpkhmfaa

