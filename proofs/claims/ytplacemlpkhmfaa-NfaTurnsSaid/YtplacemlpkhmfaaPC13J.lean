/- Part of the proof: conditions and contracts of functions of this program. No condition of its own. -/
import Derived.Test.YtplacemlpkhmfaaPVF
import Derived.Test.YtplacemlpkhmfaaPC13I
set_option linter.unusedVariables false
set_option linter.unusedSimpArgs false
set_option linter.unusedSectionVars false
namespace Go.Proofs.Ytplacemlpkhmfaa
open Go Go.Eng Go.Rx Go.Proofs Go.RowKit
set_option maxRecDepth 100000
structure Sm (m : Mem) (a : Option Addr) (l : List (Nat × Nat × Nat)) : Prop where
 len : l.length ≤ 9223372036854775807
 byte : ∀ s ∈ l, s.1 < 256 ∧ s.2.1 < 256 ∧ s.2.2 < 256
 at' : ∀ i s, l[i]? = some s → ∃ b o, a = some ⟨b, o, none⟩ ∧ m.reads b (o + i * 3) [.int .u8 s.1, .int .u8 s.2.1, .int .u8 s.2.2]
theorem Sm.mono {m m' : Mem} {a l} (h : Sm m a l) (hm : m.le m') : Sm m' a l :=
 ⟨h.len, h.byte, fun i s hi => by obtain ⟨b, o, h1, h2⟩ := h.at' i s hi; exact ⟨b, o, h1, h2.mono hm⟩⟩
theorem letters_len (n : Nat) : (([[97], [98], [97, 98], [97], [98], [99], [97, 98, 99], [98, 99], [10], [0, 255], [97], [98]][n % 12]?).getD [] : List Nat).length ≤ 100000 := by
 have h : n % 12 = 0 ∨ n % 12 = 1 ∨ n % 12 = 2 ∨ n % 12 = 3 ∨ n % 12 = 4 ∨ n % 12 = 5 ∨ n % 12 = 6 ∨ n % 12 = 7 ∨ n % 12 = 8 ∨ n % 12 = 9 ∨ n % 12 = 10 ∨ n % 12 = 11 := by omega
 rcases h with e | e | e | e | e | e | e | e | e | e | e | e <;> rw [e] <;> decide
theorem rep_tab : ∀ L < 3, ∀ Mo < 4, ((Mo < L ∨ Mo = 0 ∨ (L = 1 ∧ Mo = 1)) → bounds (L : Nat) (-1) = true ∧ posF (L : Nat) (-1) ≤ ((max 1 L : Nat) : Int)) ∧ (¬ (Mo < L ∨ Mo = 0 ∨ (L = 1 ∧ Mo = 1)) → bounds (L : Nat) (Mo : Nat) = true ∧ posF (L : Nat) (Mo : Nat) ≤ ((max 1 (max L Mo) : Nat) : Int)) := by
 intro L hL Mo hM
 have h1 : L = 0 ∨ L = 1 ∨ L = 2 := by omega
 have h2 : Mo = 0 ∨ Mo = 1 ∨ Mo = 2 ∨ Mo = 3 := by omega
 rcases h1 with rfl | rfl | rfl <;> rcases h2 with rfl | rfl | rfl | rfl <;> exact ⟨fun _ => by first | exact ⟨by decide, by decide⟩ | omega, fun _ => by first | exact ⟨by decide, by decide⟩ | omega⟩
theorem cx_Made (l : List (Nat × Nat × Nat)) (a : Option Addr) (c : Nat) (m : Mem) (hl : Sm m a l) (hc : l.length ≤ c) : CX Try.prog 15 #[.slice a l.length c] m [] (TreeR (fun t => t.check = 0)) := by
 apply cx_law08_Made
 unfold VC_law08_Made
 have hlen := hl.len
 intro b
 have hN : (if (25 : Int) < (l.length : Int) then (25 : Int) else (l.length : Int)) = ((min 25 l.length : Nat) : Int) := by split <;> omega
 simp only [hN, Int.toNat_natCast, Nat.sub_zero]
 generalize hNN : min 25 l.length = N
 refine ⟨⟨by omega, by omega⟩, fun xs css tvs m' q => ∃ (i : Nat) (ts : List T) (a : Option Addr) (c : Nat) (u g : Nat) (mb : Mem), i ≤ N ∧ xs = [.slice a ts.length c, .int .i64 u, .int .i64 g, .int .i64 i] ∧ tvs = [.slice a ts.length c] ∧ ts.length ≤ c ∧ m.le mb ∧ mb.le m' ∧ Apart mb a ∧ rowRd m' a (Rx.cellsL ts) ∧ (∀ t ∈ ts, Rep mb t) ∧ J i ts u g ∧ q = N - i, ⟨N, 0, [], none, 0, 1, 0, m, by omega, rfl, rfl, by simp, Mem.le_refl _, Mem.le_refl _, .inl rfl, .inl rfl, by simp, J.zero, by omega⟩, ?_⟩
 rintro a1 n1 c1 z1 z2 z3 a2 n2 c2 m1 q _ ⟨i, ts, a', c', u, g, mb, hi, hxs, htv, hcap, hmb, hmb1, hap, hrow, hreps, hJ, hq⟩
 simp only [List.cons.injEq, Value.slice.injEq, Value.int.injEq, true_and, and_true] at hxs htv
 obtain ⟨⟨rfl, rfl, rfl⟩, rfl, rfl, rfl⟩ := hxs
 obtain ⟨rfl, rfl, rfl⟩ := htv
 have htl : ts.length ≤ 25 := by have := hJ.sz; have := len_szL ts; omega
 refine br_intro (fun hlt => ?_) (fun hge => ?_)
 ·have hiN : i < N := by have := of_decide_eq_true hlt; omega
  have hi' : i < l.length := by omega
  obtain ⟨s, hs⟩ := at_some hi'
  obtain ⟨bs, os, ha, hrd⟩ := (hl.mono (Mem.le_trans hmb hmb1)).at' i s hs
  obtain ⟨s1, s2, s3⟩ := s
  obtain ⟨hs1, hs2, hs3⟩ := hl.byte _ (List.mem_of_getElem? hs)
  have hw : IntKind.i64.wrap ((i : Int) + 1) = ((i + 1 : Nat) : Int) := by rw [wrap64 (by omega) (by omega)]; rfl
  have ht12 : Int.tmod (intOf (Value.int .u8 (s1 : Nat))) 12 = ((s1 % 12 : Nat) : Int) := rfl
  simp only [hw, Int.toNat_natCast]
  refine ⟨bs, os, ha, ⟨by omega, by omega⟩, _, _, _, hrd, fun b2 => chk_intro rfl (chk_intro rfl ⟨by omega, ?_⟩)⟩
  simp only [ht12]
  refine br_intro (fun h1 => ?_) (fun h1 => br_intro (fun h2 => ?_) (fun h2 => ?_))
  ·refine call_any (cx_letters s2 hs2 m1) (fun v _ _ ⟨s, e, _⟩ => by rw [e]; rfl) ?_
   rintro str m2 hm2 ⟨s', hv, hb⟩
   cases hv
   refine call_any (cx_lclass str (by rw [hb]; unfold lettersB; exact letters_len _) m2) tree_fits (tree_k fun t m3 hm3 hr ht b3 hf3 => ?_)
   rw [hb] at ht
   have hle3 := Mem.le_trans hm2 (Mem.le_trans hm3 (Mem.le_add hf3 t.cs))
   obtain ⟨k1, k2, k3, k4⟩ := class_ok s2
   refine ⟨.inl trivial, Rx.cellsL ts, t.cs, cellsL_len _, rfl, hrow.mono (hle3), .inr ⟨b3, 0, rfl, fun j v hj => by rw [Nat.zero_add, Mem.add_same]; exact hj⟩, by rw [← cells_one]; exact oneCells _, by omega, by omega, fun a4 c4 m4 hm4 hrow4 htok => ⟨by trivial, N - (i + 1), by omega, i + 1, ts ++ [t], a4, c4, u, g, mb, by omega, ?_, ?_, by have := htok.1; rw [List.length_append]; exact this, hmb, Mem.le_trans hmb1 (Mem.le_trans (hle3) hm4), hap.tok (Mem.le_trans hmb1 (hle3)) htok, ?_, ?_, ?_, by omega⟩⟩
   ·rw [List.length_append]; rfl
   ·rw [List.length_append]; rfl
   ·rw [cellsL_append, cells_one]; exact hrow4
   ·intro x hx
    rcases List.mem_append.1 hx with hx | hx
    ·exact hreps x hx
    ·simp at hx; subst hx; exact (by rw [ht]; exact rep_class _ _)
   ·rw [ht]; exact hJ.push k1 k2 k3 k4
  ·intro b3 hf3
   have hle3 := Mem.le_add hf3 T1.cs
   refine ⟨.inl trivial, Rx.cellsL ts, T1.cs, cellsL_len _, rfl, hrow.mono (hle3), .inr ⟨b3, 0, rfl, fun j v hj => by rw [Nat.zero_add, Mem.add_same]; exact hj⟩, by rw [← cells_one]; exact oneCells _, by omega, by omega, fun a4 c4 m4 hm4 hrow4 htok => ⟨by trivial, N - (i + 1), by omega, i + 1, ts ++ [T1], a4, c4, u, g, mb, by omega, ?_, ?_, by have := htok.1; rw [List.length_append]; exact this, hmb, Mem.le_trans hmb1 (Mem.le_trans (hle3) hm4), hap.tok (Mem.le_trans hmb1 (hle3)) htok, ?_, ?_, ?_, by omega⟩⟩
   ·rw [List.length_append]; rfl
   ·rw [List.length_append]; rfl
   ·rw [cellsL_append, cells_one]; exact hrow4
   ·intro x hx
    rcases List.mem_append.1 hx with hx | hx
    ·exact hreps x hx
    ·simp at hx; subst hx; exact rep_T1 _
   ·exact hJ.push T1_ok.1 T1_ok.2.1 T1_ok.2.2.1 T1_ok.2.2.2
  ·refine ⟨decide (s1 % 12 < 7) && decide (1 < ts.length), br_intro (fun h3 => ⟨by trivial, by trivial, ?_⟩) (fun h3 => ⟨by trivial, by trivial, ?_⟩), br_intro (fun h3 => ?_) (fun h3 => ?_)⟩
   ·refine one_bool ?_
    rw [Bool.eq_iff_iff]; simp; have := of_decide_eq_true h3; omega
   ·refine one_bool ?_
    rw [eq_comm, Bool.and_eq_false_iff]; left; have := of_decide_eq_false h3; exact decide_eq_false (by omega)
   ·skip
    obtain ⟨r, x, y, rfl⟩ := snoc2 (ts := ts) (by simp at h3; omega)
    have hlr : (r ++ [x, y]).length = r.length + 2 := by simp
    have hw2 : IntKind.i64.wrap (((r ++ [x, y]).length : Int) - 2) = (r.length : Int) := by rw [hlr, wrap64 (by omega) (by omega)]; omega
    have hw1 : IntKind.i64.wrap (((r ++ [x, y]).length : Int) - 1) = ((r.length + 1 : Nat) : Int) := by rw [hlr, wrap64 (by omega) (by omega)]; omega
    simp only [hw2, hw1, Int.toNat_natCast, Nat.sub_zero]
    obtain ⟨bb, hab, hfb, o', u', hu'⟩ := hap.base hrow (by simp)
    obtain ⟨bx, ox, hax, hrx⟩ := row_get hrow (i := r.length) (t := x) (by simp)
    obtain ⟨by', oy, hay, hry⟩ := row_get hrow (i := r.length + 1) (t := y) (by simp)
    have hjx : (joinL 3 x).length ≤ 10000 := by
     have := hJ.sz
     rw [szL_append, show szL [x, y] = szL ([x] ++ [y]) from rfl, szL_append, szL_one, szL_one] at this
     have := joinL_len (k := 3) (t := x)
     omega
    have hjy : (joinL 3 y).length ≤ 10000 := by
     have := hJ.sz
     rw [szL_append, show szL [x, y] = szL ([x] ++ [y]) from rfl, szL_append, szL_one, szL_one] at this
     have := joinL_len (k := 3) (t := y)
     omega
    refine ⟨fun _ _ _ => TreeF mb m1 (fun r => ∃ a c, r = mkJoin 3 a c (joinL 3 x ++ joinL 3 y)), ⟨by omega, by omega⟩, ⟨by omega, by omega⟩, bx, ox, hax, ⟨by omega, by omega⟩, _, _, _, _, _, _, _, _, hrx, by', oy, hay, ⟨by omega, by omega⟩, _, _, _, _, _, _, _, _, hry, TreeF mb m1 (fun r => ∃ a c, r = mkJoin 3 a c (joinL 3 x ++ joinL 3 y)), rfl, (cx_joins 3 x y (by omega) mb (hreps x (by simp)) (hreps y (by simp)) hjx hjy).frame2 hmb1, treeF_fits, treeF_k fun t m0 m3 hm3 h0 h01 hnew hrt ht b6 hf6 => ?_⟩
    obtain ⟨at', ct, ht⟩ := ht
    have hle6 := Mem.le_add hf6 t.cs
    have hap0 : Apart m0 _ := .inr ⟨bb, hab, fun o => by rw [hnew bb o' u' hu' o]; exact hfb o⟩
    refine ⟨.inr (.inr (by omega)), Rx.cellsL r, t.cs, cellsL_len _, rfl, ((row_take hrow).mono hm3).mono hle6, .inr ⟨b6, 0, rfl, fun j v hj => by rw [Nat.zero_add, Mem.add_same]; exact hj⟩, by rw [← cells_one]; exact oneCells _, by omega, by omega, fun a4 c4 m4 hm4 hrow4 htok M hM1 hM2 hM3 hM4 => ⟨by trivial, N - (i + 1), by omega, i + 1, r ++ [t], a4, c4, u, g, m0, by omega, ?_, ?_, by have := htok.1; rw [List.length_append]; exact this, Mem.le_trans hmb h0, Mem.le_trans h01 hM2, hap0.tok (Mem.le_trans h01 hle6) htok, ?_, ?_, ?_, by omega⟩⟩
    ·rw [List.length_append]; rfl
    ·rw [List.length_append]; rfl
    ·rw [cellsL_append, cells_one]; exact hrow4.mono hM4
    ·intro z hz
     rcases List.mem_append.1 hz with hz | hz
     ·exact (hreps z (by simp [hz])).mono h0
     ·simp at hz; subst hz; exact hrt
    ·rw [ht]; exact hJ.join (by omega) (by omega) _ _
   ·refine ⟨decide (s1 % 12 < 9) && decide (1 < ts.length), br_intro (fun h4 => ⟨by trivial, by trivial, ?_⟩) (fun h4 => ⟨by trivial, by trivial, ?_⟩), br_intro (fun h4 => ?_) (fun h4 => ?_)⟩
    ·refine one_bool ?_
     rw [Bool.eq_iff_iff]; simp; have := of_decide_eq_true h4; omega
    ·refine one_bool ?_
     rw [eq_comm, Bool.and_eq_false_iff]; left; have := of_decide_eq_false h4; exact decide_eq_false (by omega)
    ·skip
     obtain ⟨r, x, y, rfl⟩ := snoc2 (ts := ts) (by simp at h4; omega)
     have hlr : (r ++ [x, y]).length = r.length + 2 := by simp
     have hw2 : IntKind.i64.wrap (((r ++ [x, y]).length : Int) - 2) = (r.length : Int) := by rw [hlr, wrap64 (by omega) (by omega)]; omega
     have hw1 : IntKind.i64.wrap (((r ++ [x, y]).length : Int) - 1) = ((r.length + 1 : Nat) : Int) := by rw [hlr, wrap64 (by omega) (by omega)]; omega
     simp only [hw2, hw1, Int.toNat_natCast, Nat.sub_zero]
     obtain ⟨bb, hab, hfb, o', u', hu'⟩ := hap.base hrow (by simp)
     obtain ⟨bx, ox, hax, hrx⟩ := row_get hrow (i := r.length) (t := x) (by simp)
     obtain ⟨by', oy, hay, hry⟩ := row_get hrow (i := r.length + 1) (t := y) (by simp)
     have hjx : (joinL 4 x).length ≤ 10000 := by
      have := hJ.sz
      rw [szL_append, show szL [x, y] = szL ([x] ++ [y]) from rfl, szL_append, szL_one, szL_one] at this
      have := joinL_len (k := 4) (t := x)
      omega
     have hjy : (joinL 4 y).length ≤ 10000 := by
      have := hJ.sz
      rw [szL_append, show szL [x, y] = szL ([x] ++ [y]) from rfl, szL_append, szL_one, szL_one] at this
      have := joinL_len (k := 4) (t := y)
      omega
     refine ⟨fun _ _ _ => TreeF mb m1 (fun r => ∃ a c, r = mkJoin 4 a c (joinL 4 x ++ joinL 4 y)), ⟨by omega, by omega⟩, ⟨by omega, by omega⟩, bx, ox, hax, ⟨by omega, by omega⟩, _, _, _, _, _, _, _, _, hrx, by', oy, hay, ⟨by omega, by omega⟩, _, _, _, _, _, _, _, _, hry, TreeF mb m1 (fun r => ∃ a c, r = mkJoin 4 a c (joinL 4 x ++ joinL 4 y)), rfl, (cx_joins 4 x y (by omega) mb (hreps x (by simp)) (hreps y (by simp)) hjx hjy).frame2 hmb1, treeF_fits, treeF_k fun t m0 m3 hm3 h0 h01 hnew hrt ht b6 hf6 => ?_⟩
     obtain ⟨at', ct, ht⟩ := ht
     have hle6 := Mem.le_add hf6 t.cs
     have hap0 : Apart m0 _ := .inr ⟨bb, hab, fun o => by rw [hnew bb o' u' hu' o]; exact hfb o⟩
     refine ⟨.inr (.inr (by omega)), Rx.cellsL r, t.cs, cellsL_len _, rfl, ((row_take hrow).mono hm3).mono hle6, .inr ⟨b6, 0, rfl, fun j v hj => by rw [Nat.zero_add, Mem.add_same]; exact hj⟩, by rw [← cells_one]; exact oneCells _, by omega, by omega, fun a4 c4 m4 hm4 hrow4 htok M hM1 hM2 hM3 hM4 => ⟨by trivial, N - (i + 1), by omega, i + 1, r ++ [t], a4, c4, u, g, m0, by omega, ?_, ?_, by have := htok.1; rw [List.length_append]; exact this, Mem.le_trans hmb h0, Mem.le_trans h01 hM2, hap0.tok (Mem.le_trans h01 hle6) htok, ?_, ?_, ?_, by omega⟩⟩
     ·rw [List.length_append]; rfl
     ·rw [List.length_append]; rfl
     ·rw [cellsL_append, cells_one]; exact hrow4.mono hM4
     ·intro z hz
      rcases List.mem_append.1 hz with hz | hz
      ·exact (hreps z (by simp [hz])).mono h0
      ·simp at hz; subst hz; exact hrt
     ·rw [ht]; exact hJ.join (by omega) (by omega) _ _
    ·refine ⟨decide (s1 % 12 = 9) && (decide (0 < ts.length) && decide (g < 9)), br_intro (fun h5 => br_intro (fun h6 => ⟨by trivial, by trivial, ?_⟩) (fun h6 => ⟨by trivial, by trivial, ?_⟩)) (fun h5 => ⟨by trivial, by trivial, ?_⟩), br_intro (fun h5 => ?_) (fun h5 => ?_)⟩
     ·refine one_bool ?_
      have e1 := of_decide_eq_true h6
      have e2 : s1 % 12 = 9 := by have := h5; simp at this; omega
      rw [decide_eq_true e2, decide_eq_true (show 0 < ts.length by omega), Bool.true_and, Bool.true_and, Bool.eq_iff_iff]; simp; omega
     ·refine one_bool ?_
      have e1 := of_decide_eq_false h6
      rw [decide_eq_false (show ¬ 0 < ts.length by omega)]; simp
     ·refine one_bool ?_
      have e2 : ¬ s1 % 12 = 9 := by have := h5; simp at this; omega
      rw [decide_eq_false e2]; rfl
     ·
      have hg9 : g < 9 := by simp at h5; omega
      skip
      obtain ⟨r, x, rfl⟩ := snoc1 (ts := ts) (by simp at h5; omega)
      have hlr : (r ++ [x]).length = r.length + 1 := by simp
      have hw1 : IntKind.i64.wrap (((r ++ [x]).length : Int) - 1) = (r.length : Int) := by rw [hlr, wrap64 (by omega) (by omega)]; omega
      obtain ⟨bb, hab, hfb, o', u', hu'⟩ := hap.base hrow (by simp)
      subst hab
      obtain ⟨bx, ox, hax, hrx⟩ := row_get hrow (i := r.length) (t := x) (by simp)
      cases hax
      have hgw : IntKind.i64.wrap ((g : Int) + 1) = ((g + 1 : Nat) : Int) := by rw [wrap64 (by omega) (by omega)]; rfl
      simp only [hw1, hgw, Int.toNat_natCast]
      refine ⟨_, _, rfl, ⟨by omega, by omega⟩, _, _, _, _, _, _, _, _, hrx, call_any ((cx_group x mb (hreps x (by simp))).frame2 hmb1) (treeF_fits (mb := mb) (M0 := m1)) (treeF_k fun t m0 m3 hm3 h0 h01 hnew hrt ht => ?_)⟩
      obtain ⟨at', ct, ht⟩ := ht
      have hap0 : m0.free bb := fun o => by rw [hnew bb o' u' hu' o]; exact hfb o
      refine ⟨bb, 0, rfl, ⟨by omega, by omega⟩, rfl, by omega, by trivial, N - (i + 1), by omega, i + 1, r ++ [t], _, _, u, g + 1, m0, by omega, ?_, ?_, by rw [List.length_append]; rw [hlr] at hcap; exact hcap, Mem.le_trans hmb h0, Mem.le_upd h01 hap0 _ _, .inr ⟨bb, rfl, hap0⟩, row_upd (hrow.mono hm3), ?_, ?_, by omega⟩
      ·rw [hlr, List.length_append]; rfl
      ·rw [hlr, List.length_append]; rfl
      ·intro z hz
       rcases List.mem_append.1 hz with hz | hz
       ·exact (hreps z (by simp [hz])).mono h0
       ·simp at hz; subst hz; exact hrt
      ·rw [ht]; exact hJ.group hg9 _ _
     ·by_cases h0 : 0 < ts.length
      ·skip
       obtain ⟨r, x, rfl⟩ := snoc1 (ts := ts) (by exact h0)
       have hlr : (r ++ [x]).length = r.length + 1 := by simp
       have hw1 : IntKind.i64.wrap (((r ++ [x]).length : Int) - 1) = (r.length : Int) := by rw [hlr, wrap64 (by omega) (by omega)]; omega
       obtain ⟨bb, hab, hfb, o', u', hu'⟩ := hap.base hrow (by simp)
       subst hab
       obtain ⟨bx, ox, hax, hrx⟩ := row_get hrow (i := r.length) (t := x) (by simp)
       cases hax
       have hrL : IntKind.i64.wrap (Int.tmod (intOf (Value.int .u8 (s2 : Nat))) 3) = ((s2 % 3 : Nat) : Int) := by
        rw [show Int.tmod (intOf (Value.int .u8 (s2 : Nat))) 3 = ((s2 % 3 : Nat) : Int) from rfl, wrap64 (by omega) (by omega)]
       have hrM : IntKind.i64.wrap (Int.tmod (intOf (Value.int .u8 (s3 : Nat))) 4) = ((s3 % 4 : Nat) : Int) := by
        rw [show Int.tmod (intOf (Value.int .u8 (s3 : Nat))) 4 = ((s3 % 4 : Nat) : Int) from rfl, wrap64 (by omega) (by omega)]
       simp only [hw1, hrL, hrM, Int.toNat_natCast]
       have hL3 : s2 % 3 < 3 := by omega
       have hM4 : s3 % 4 < 4 := by omega
       generalize s2 % 3 = L at *
       generalize s3 % 4 = Mo at *
       refine ⟨decide (9 < s1 % 12) && !(x.k == 1), br_intro (fun h6 => br_intro (fun h7 => ⟨_, _, rfl, ⟨by omega, by omega⟩, .int .u8 x.k, hrx 0 _ rfl, chk_intro rfl ⟨by trivial, by trivial, ?_⟩⟩) (fun h7 => absurd h7 (by simp))) (fun h6 => ⟨by trivial, by trivial, ?_⟩), br_intro (fun h6 => chk_intro rfl ⟨by omega, chk_intro rfl ⟨by omega, ?_⟩⟩) (fun h6 => ⟨by trivial, N - (i + 1), by omega, i + 1, r ++ [x], _, _, u, g, mb, by omega, rfl, rfl, hcap, hmb, hmb1, hap, hrow, hreps, hJ.skip, by omega⟩)⟩
       ·refine one_bool ?_
        have := of_decide_eq_true h6
        rw [decide_eq_true (show 9 < s1 % 12 by omega), Bool.true_and]; rfl
       ·refine one_bool ?_
        have := of_decide_eq_false h6
        rw [decide_eq_false (show ¬ 9 < s1 % 12 by omega)]; rfl
       ·have hk1 : x.k ≠ 1 := by
         rw [Bool.and_eq_true] at h6
         simpa using h6.2
        obtain ⟨tab1, tab2⟩ := rep_tab L hL3 Mo hM4
        refine ⟨decide (Mo < L ∨ Mo = 0 ∨ (L = 1 ∧ Mo = 1)), br_intro (fun g1 => ⟨by trivial, by trivial, one_bool ?_⟩) (fun g1 => br_intro (fun g2 => ⟨by trivial, by trivial, one_bool ?_⟩) (fun g2 => br_intro (fun g3 => ⟨by trivial, by trivial, one_bool ?_⟩) (fun g3 => ⟨by trivial, by trivial, one_bool ?_⟩))), br_intro (fun g4 => ?_) (fun g4 => ?_)⟩
        ·have := of_decide_eq_true g1
         exact (decide_eq_true (by omega)).symm
        ·have : Mo = 0 := by simp at g2; omega
         exact (decide_eq_true (by omega)).symm
        ·have e1 := of_decide_eq_false g1
         have e2 : ¬ Mo = 0 := by simp at g2; omega
         have e3 : L = 1 := by simp at g3; omega
         rw [Bool.eq_iff_iff]; simp; omega
        ·have e1 := of_decide_eq_false g1
         have e2 : ¬ Mo = 0 := by simp at g2; omega
         have e3 : ¬ L = 1 := by simp at g3; omega
         exact (decide_eq_false (by omega)).symm
        ·
         have hA : (if (1 : Int) > (if (-1 : Int) > (L : Int) then (-1 : Int) else (L : Int)) then (1 : Int) else (if (-1 : Int) > (L : Int) then (-1 : Int) else (L : Int))) = ((max 1 L : Nat) : Int) := by
          split <;> split <;> omega
         obtain ⟨tb, tp⟩ := tab1 (of_decide_eq_true g4)
         have hmul : u * max 1 L ≤ 48 := by have := Nat.mul_le_mul hJ.u16 (show max 1 L ≤ 3 by omega); omega
         have hwA : IntKind.i64.wrap ((u : Int) * ((max 1 L : Nat) : Int)) = ((u * max 1 L : Nat) : Int) := by rw [← Int.natCast_mul]; exact wrap64 (by omega) (by omega)
         simp only [hA, hwA]
         refine br_intro (fun g5 => ?_) (fun g5 => ⟨by trivial, N - (i + 1), by omega, i + 1, r ++ [x], _, _, u, g, mb, by omega, rfl, rfl, hcap, hmb, hmb1, hap, hrow, hreps, hJ.skip, by omega⟩)
         have hu16 : u * max 1 L ≤ 16 := by have := of_decide_eq_true g5; omega
         refine ⟨_, _, rfl, ⟨by omega, by omega⟩, _, _, _, _, _, _, _, _, hrx, call_any ((cx_rep x (L : Nat) (-1 : Int) ⟨by omega, by omega⟩ ⟨by omega, by omega⟩ mb (hreps x (by simp))).frame2 hmb1) (treeF_fits (mb := mb) (M0 := m1)) (treeF_k fun t m0 m3 hm3 h0 h01 hnew hrt ht => ?_)⟩
         obtain ⟨at', ct, ht⟩ := ht
         have hap0 : m0.free bb := fun o => by rw [hnew bb o' u' hu' o]; exact hfb o
         refine ⟨bb, 0, rfl, ⟨by omega, by omega⟩, rfl, by omega, by trivial, N - (i + 1), by omega, i + 1, r ++ [t], _, _, u * max 1 L, g, m0, by omega, ?_, ?_, by rw [List.length_append]; rw [hlr] at hcap; exact hcap, Mem.le_trans hmb h0, Mem.le_upd h01 hap0 _ _, .inr ⟨bb, rfl, hap0⟩, row_upd (hrow.mono hm3), ?_, ?_, by omega⟩
         ·rw [hlr, List.length_append]; rfl
         ·rw [hlr, List.length_append]; rfl
         ·intro z hz
          rcases List.mem_append.1 hz with hz | hz
          ·exact (hreps z (by simp [hz])).mono h0
          ·simp at hz; subst hz; exact hrt
         ·rw [ht]; exact hJ.rep hk1 tb tp (by omega) hu16 _ _
        ·
         have hA : (if (1 : Int) > (if ((Mo : Int)) > (L : Int) then ((Mo : Int)) else (L : Int)) then (1 : Int) else (if ((Mo : Int)) > (L : Int) then ((Mo : Int)) else (L : Int))) = ((max 1 (max L Mo) : Nat) : Int) := by
          split <;> split <;> omega
         obtain ⟨tb, tp⟩ := tab2 (of_decide_eq_false g4)
         have hmul : u * max 1 (max L Mo) ≤ 48 := by have := Nat.mul_le_mul hJ.u16 (show max 1 (max L Mo) ≤ 3 by omega); omega
         have hwA : IntKind.i64.wrap ((u : Int) * ((max 1 (max L Mo) : Nat) : Int)) = ((u * max 1 (max L Mo) : Nat) : Int) := by rw [← Int.natCast_mul]; exact wrap64 (by omega) (by omega)
         simp only [hA, hwA]
         refine br_intro (fun g5 => ?_) (fun g5 => ⟨by trivial, N - (i + 1), by omega, i + 1, r ++ [x], _, _, u, g, mb, by omega, rfl, rfl, hcap, hmb, hmb1, hap, hrow, hreps, hJ.skip, by omega⟩)
         have hu16 : u * max 1 (max L Mo) ≤ 16 := by have := of_decide_eq_true g5; omega
         refine ⟨_, _, rfl, ⟨by omega, by omega⟩, _, _, _, _, _, _, _, _, hrx, call_any ((cx_rep x (L : Nat) ((Mo : Int)) ⟨by omega, by omega⟩ ⟨by omega, by omega⟩ mb (hreps x (by simp))).frame2 hmb1) (treeF_fits (mb := mb) (M0 := m1)) (treeF_k fun t m0 m3 hm3 h0 h01 hnew hrt ht => ?_)⟩
         obtain ⟨at', ct, ht⟩ := ht
         have hap0 : m0.free bb := fun o => by rw [hnew bb o' u' hu' o]; exact hfb o
         refine ⟨bb, 0, rfl, ⟨by omega, by omega⟩, rfl, by omega, by trivial, N - (i + 1), by omega, i + 1, r ++ [t], _, _, u * max 1 (max L Mo), g, m0, by omega, ?_, ?_, by rw [List.length_append]; rw [hlr] at hcap; exact hcap, Mem.le_trans hmb h0, Mem.le_upd h01 hap0 _ _, .inr ⟨bb, rfl, hap0⟩, row_upd (hrow.mono hm3), ?_, ?_, by omega⟩
         ·rw [hlr, List.length_append]; rfl
         ·rw [hlr, List.length_append]; rfl
         ·intro z hz
          rcases List.mem_append.1 hz with hz | hz
          ·exact (hreps z (by simp [hz])).mono h0
          ·simp at hz; subst hz; exact hrt
         ·rw [ht]; exact hJ.rep hk1 tb tp (by omega) hu16 _ _
      ·refine ⟨false, br_intro (fun h6 => br_intro (fun h7 => absurd (of_decide_eq_true h7) (by omega)) (fun h7 => ⟨by trivial, by trivial, rfl⟩)) (fun h6 => ⟨by trivial, by trivial, rfl⟩), br_f rfl ⟨by trivial, N - (i + 1), by omega, i + 1, ts, _, _, u, g, mb, by omega, rfl, rfl, hcap, hmb, hmb1, hap, hrow, hreps, hJ.skip, by omega⟩⟩
 ·have hiN : i = N := by have := of_decide_eq_false hge; omega
  have hm1 := Mem.le_trans hmb hmb1
  refine br_intro (fun h0 => ?_) (fun h0 => ?_)
  ·have hx97 : (bytesN ⟨#[97]⟩) = lettersB 0 := by rfl
   refine call_any (cx_lclass ⟨#[97]⟩ (by decide) m1) tree_fits (tree_k fun t m2 hm2 hr ht => ret_all (Mem.le_trans hm1 hm2) ⟨t, rfl, hr, ?_⟩)
   rw [hx97] at ht
   obtain ⟨k1, k2, k3, k4⟩ := class_ok 0
   rw [← ht] at k1 k2 k3 k4
   exact F.done (l := []) ⟨k1, by simp, by simp [szL, nodesL, k2], by simp [posL]; omega, by simp [grL, nodesL, k4]⟩
  ·obtain ⟨t0, rest, rfl⟩ : ∃ t r, ts = t :: r := by cases ts with
    | nil => simp at h0
    | cons t r => exact ⟨t, r, rfl⟩
   have hF := F.start hJ (by omega)
   obtain ⟨bb, hab, hfb, o', u', hu'⟩ := hap.base hrow (by simp)
   subst hab
   obtain ⟨bx, ox, hax, hrx⟩ := row_get hrow (i := 0) (t := t0) rfl
   cases hax
   rw [List.length_cons] at htl hcap
   refine ⟨_, _, rfl, ⟨by omega, by simp⟩, _, _, _, _, _, _, _, _, hrx, fun b2 => chk_intro rfl ⟨⟨by omega, by rw [List.length_cons]; omega⟩, ?_⟩⟩
   refine ⟨fun xs css tvs m' q => ∃ (k : Nat) (t : T), k ≤ rest.length ∧ xs = [.int .i64 k] ∧ css = [t.cs] ∧ m1.le m' ∧ Rep m' t ∧ F t (rest.drop k) ∧ q = rest.length - k, ⟨rest.length, 0, t0, by omega, rfl, rfl, Mem.le_refl _, (hreps t0 (by simp)).mono hmb1, hF, by omega⟩, ?_⟩
   rintro z cs m2 q2 _ ⟨k, t, hk, hz, hcs, hm2, hrt, hFt, hq2⟩
   obtain rfl : z = k := by simpa using hz
   obtain rfl : cs = t.cs := by simpa using hcs
   have hrl : ((t0 :: rest).length - Int.toNat 1) = rest.length := by simp
   simp only [hrl]
   refine br_intro (fun hlt => ?_) (fun hge2 => chk_intro rfl (ret_all (Mem.le_trans hm1 hm2) ⟨t, rfl, hrt, hFt.done⟩))
   have hlt' : k < rest.length := by have := of_decide_eq_true hlt; omega
   obtain ⟨x, hx⟩ := at_some hlt'
   obtain ⟨b3, o3, ha3, hr3⟩ := row_get (hrow.mono hm2) (i := k + 1) (t := x) (by simpa using hx)
   cases ha3
   have hwr : IntKind.i64.wrap ((k : Int) + 1) = ((k + 1 : Nat) : Int) := by rw [wrap64 (by omega) (by omega)]; rfl
   simp only [hwr, Int.toNat_natCast]
   rw [drop_at hx] at hFt
   have hsz := hFt.sz
   rw [szL_cons] at hsz
   have hj1 := joinL_len (k := 4) (t := t)
   have hj2 := joinL_len (k := 4) (t := x)
   have hbase : slBase (some (⟨bb, 0, none⟩ : Addr)) (Int.toNat 1) c2 8 = some ⟨bb, 0 + 8, none⟩ := by
    unfold slBase
    have : Nat.beq c2 1 = false := by
     cases hb : Nat.beq c2 1 with
     | false => rfl
     | true => have := Nat.eq_of_beq_eq_true hb; omega
    show (bif Nat.beq c2 1 then _ else some (Addr.add _ (1 * 8))) = _
    rw [this, addr_add]; rfl
   refine ⟨_, _, hbase, ⟨by omega, by omega⟩, _, _, _, _, _, _, _, _, by rw [show 0 + 8 + k * 8 = 0 + (k + 1) * 8 by omega]; exact hr3, fun b4 => chk_intro rfl (call_any (cx_joins 4 t x (.inr rfl) m2 hrt ((hreps x (by simp [List.mem_of_getElem? hx])).mono (Mem.le_trans hmb1 hm2)) (by omega) (by omega)) tree_fits (tree_k fun t' m3 hm3 hr' ht' => ⟨by trivial, by trivial, rest.length - (k + 1), by omega, k + 1, t', by omega, rfl, rfl, Mem.le_trans hm2 hm3, hr', ?_, by omega⟩))⟩
   obtain ⟨a3, c3, ht'⟩ := ht'
   rw [ht']; exact hFt.step _ _
end Go.Proofs.Ytplacemlpkhmfaa

