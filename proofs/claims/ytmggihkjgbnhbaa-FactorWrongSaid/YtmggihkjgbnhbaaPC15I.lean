/- Part of the proof: conditions and contracts of functions of this program. No condition of its own. -/
import Derived.Test.YtmggihkjgbnhbaaPC15H
import Derived.Test.YtmggihkjgbnhbaaPVLB
import Derived.Test.YtmggihkjgbnhbaaMr
/- Contracts: the trees that the law makes. -/
set_option linter.unusedVariables false
set_option linter.unusedSimpArgs false
set_option linter.unusedSectionVars false
namespace Go.Proofs.Ytmggihkjgbnhbaa
open Go Go.Eng Go.Rx Go.Proofs Go.RowKit
set_option maxRecDepth 100000

structure OkT (t : T) : Prop where
  good : t.good = true
  caps : t.caps
  fits : fitsB t = true
theorem check_clean {t : T} (h : t.check = 0) : t.clean = true := by
  unfold T.check at h
  cases hc : t.clean with
  | true => rfl
  | false => rw [if_pos hc] at h; cases h
theorem fits_iff {t : T} (h : fitsB t = true) : t.check = 0 ∧ t.good = true ∧ t.nodes.length ≤ 60 := by
  unfold fitsB at h
  rw [Bool.and_eq_true, decide_eq_true_iff, decide_eq_true_iff] at h
  have h1 := clean_good (check_clean h.1)
  have h2 := h.2
  rw [size_nodes h1.2] at h2
  exact ⟨h.1, h1.1, by omega⟩
theorem OkT.clean {t : T} (h : OkT t) : t.clean = true := check_clean (fits_iff h.fits).1
theorem letter4 : ∀ k : Fin 4, (letterT (97 + k.val)).good = true ∧ fitsB (letterT (97 + k.val)) = true := by decide +kernel
theorem ok_letter (k : Nat) (hk : k < 4) : OkT (letterT (97 + k)) := ⟨(letter4 ⟨k, hk⟩).1, caps_node (by simp) (by simp), (letter4 ⟨k, hk⟩).2⟩
theorem class1 : classT.good = true ∧ fitsB classT = true ∧ T1.good = true ∧ fitsB T1 = true := by decide +kernel
theorem ok_class : OkT classT := ⟨class1.1, caps_node (by simp) (by simp), class1.2.1⟩
theorem ok_T1 : OkT T1 := ⟨class1.2.2.1, caps_T1, class1.2.2.2⟩
theorem repL_add {m : Mem} {b : Nat} {l : List T} (hf : m.free b) (hr : ∀ t ∈ l, Rep m t) (hl : l.length ≤ 1000000000000000) : RepL (m.add b (Rx.cellsL l)) (some ⟨b, 0, none⟩) l :=
  repL_of (.inr ⟨b, 0, rfl, fun j v hj => by rw [Nat.zero_add, Mem.add_same]; exact hj⟩) (fun t ht => (hr t ht).mono (Mem.le_add hf _)) hl
theorem push_one {m3 : Mem} {b : Nat} (hf : m3.free b) {a : Option Addr} {L : List T} {t : T} (hL : RepL m3 a L) (hr : Rep m3 t) (hl : L.length ≤ 1000) {Q : Prop} (hq : Q) {K : Option Addr → Nat → Mem → Prop} (k : ∀ a' c' m4, m3.le m4 → RepL m4 a' (L ++ [t]) → L.length + 1 ≤ c' → K a' c' m4) :
    Q ∧ ∃ xs ys : List Value, xs.length = L.length * 8 ∧ ys.length = 1 * 8 ∧ rowRd (m3.add b t.cs) a xs ∧ rowRd (m3.add b t.cs) (some ⟨b, 0, none⟩) ys ∧ (∀ u : Value, u ∈ ys → u.oneCell' = true) ∧ (L.length + 1) * 80 ≤ 140737488355328 ∧ L.length + 1 ≤ 9223372036854775807 ∧
      ∀ (a' : Option Addr) (c' : Nat) (m4 : Mem), (m3.add b t.cs).le m4 → rowRd m4 a' (List.append xs ys) → TokFact (m3.add b t.cs) a a' (L.length + 1) c' → K a' c' m4 := by
  have hle := Mem.le_add hf t.cs
  refine ⟨hq, Rx.cellsL L, t.cs, cellsL_len L, rfl, (row_of_repL hL).mono hle, .inr ⟨b, 0, rfl, fun j v hj => by rw [Nat.zero_add, Mem.add_same]; exact hj⟩, cs_one t, by omega, by omega, fun a' c' m4 hm4 hrow htf => k a' c' m4 (Mem.le_trans hle hm4) (repL_of ?_ ?_ (by rw [List.length_append]; simp; omega)) htf.1⟩
  · rw [cellsL_append, cells_one]; exact hrow
  · intro x hx
    rcases List.mem_append.1 hx with hx | hx
    · exact (repL_reps hL x hx).mono (Mem.le_trans hle hm4)
    · rw [List.mem_singleton] at hx; subst hx; exact hr.mono (Mem.le_trans hle hm4)
theorem putL_ok {L O : List T} {t : T} (hL : ∀ x ∈ L, OkT x) (hO : ∀ x ∈ O, OkT x) (hc : t.caps) : ∀ x ∈ putL L t O, OkT x := by
  intro x hx
  unfold putL at hx
  split at hx
  · rename_i hf
    rcases List.mem_append.1 hx with hx | hx
    · exact hL x hx
    · rw [List.mem_singleton] at hx; subst hx
      exact ⟨(fits_iff hf).2.1, hc, hf⟩
  · rcases List.mem_append.1 hx with hx | hx
    · exact hL x hx
    · exact hO x hx
theorem putL_len {L O : List T} {t : T} (ho : 1 ≤ O.length) : (putL L t O).length ≤ L.length + O.length := by
  unfold putL
  split
  · simp; omega
  · simp
theorem times5 : ∀ j : Fin 5, ∃ lo hi : Int, List.take 2 (List.drop (j.val * 2) [Value.int .i64 0, .int .i64 (-1), .int .i64 1, .int .i64 (-1), .int .i64 0, .int .i64 1, .int .i64 1, .int .i64 2, .int .i64 2, .int .i64 2]) = [.int .i64 lo, .int .i64 hi] ∧ bounds lo hi = true ∧ ¬ (lo = 1 ∧ hi = 1)
  | 0 => ⟨0, -1, rfl, by decide, by omega⟩
  | 1 => ⟨1, -1, rfl, by decide, by omega⟩
  | 2 => ⟨0, 1, rfl, by decide, by omega⟩
  | 3 => ⟨1, 2, rfl, by decide, by omega⟩
  | 4 => ⟨2, 2, rfl, by decide, by omega⟩
theorem rep_class0 (m : Mem) : Rep m classT := by
  simp only [classT, Rep]
  exact ⟨by simp, .inl trivial, ⟨by omega, by omega, by omega, by omega, by omega, by omega, by omega⟩⟩
theorem rep_class {m : Mem} : Rep m classT := rep_class0 m
theorem timed_caps {n t : T} {lo hi : Int} (h : Timed n lo hi t) (hn : ¬ (lo = 1 ∧ hi = 1)) : t.caps := by
  rcases h with ⟨h, _⟩ | ⟨h, _⟩ | ⟨h1, h2, _⟩ | ⟨_, _, h⟩
  · rw [h]; exact caps_T0
  · rw [h]; exact caps_T1
  · exact absurd ⟨h1, h2⟩ hn
  · exact h.2
set_option maxHeartbeats 1600000 in
theorem cx_law_made (l : List Nat) (a : Option Addr) (c : Nat) (m : Mem) (hl : Byt m a l) (hc : l.length ≤ c) : CX Try.prog 19 #[.slice a l.length c] m [] (TreeR OkT) := by
  apply cx_law15_made
  unfold VC_law15_made
  intro b
  obtain ⟨N, hN, hN40, hNl⟩ : ∃ N : Nat, (if (40 : Int) < (l.length : Int) then (40 : Int) else (l.length : Int)) = (N : Nat) ∧ N ≤ 40 ∧ N ≤ l.length := by
    by_cases h : 40 < l.length
    · exact ⟨40, by rw [if_pos (by omega)]; rfl, by omega, by omega⟩
    · exact ⟨l.length, by rw [if_neg (by omega)], by omega, by omega⟩
  simp only [hN, Int.toNat_natCast, Nat.sub_zero]
  refine ⟨⟨by omega, by omega⟩, fun xs css tvs m' q => ∃ (L : List T) (aa : Option Addr) (cc i : Nat), xs = [.slice aa L.length cc, .int .i64 i] ∧ tvs = [.slice aa L.length cc] ∧ m.le m' ∧ RepL m' aa L ∧ L.length ≤ cc ∧ (∀ x ∈ L, OkT x) ∧ L.length ≤ i ∧ i ≤ N ∧ q = N - i, ⟨_, [], none, 0, 0, rfl, rfl, Mem.le_refl _, ⟨by simp, .inl rfl⟩, by simp, by simp, by simp, by omega, rfl⟩, ?_⟩
  rintro a0 n0 c0 i0 aa n2 cc m' q _ ⟨L, aa', cc', i, hxs, htv, hm0, hL, hLc, hok, hLi, hiN, hq⟩
  simp only [List.cons.injEq, Value.slice.injEq, Value.int.injEq, true_and, and_true] at hxs htv
  obtain ⟨⟨rfl, rfl, rfl⟩, rfl⟩ := hxs
  obtain ⟨rfl, rfl, rfl⟩ := htv
  have hrow := row_of_repL hL
  refine br_intro (fun hlt => ?_) (fun hge => ?_)
  · have hlt' : i < N := by have := of_decide_eq_true hlt; omega
    obtain ⟨z, hz⟩ := at_some (l := l) (k := i) (by omega)
    obtain ⟨⟨bz, oz, haz, hvz⟩, hz256⟩ := hl.get hz
    have hwi : IntKind.i64.wrap ((i : Int) + 1) = ((i + 1 : Nat) : Int) := by rw [wrap64 (by omega) (by omega)]; rfl
    simp only [hwi]
    have next : ∀ (L' : List T) (a' : Option Addr) (c' : Nat) (m'' : Mem), m'.le m'' → RepL m'' a' L' → L'.length ≤ c' → (∀ x ∈ L', OkT x) → L'.length ≤ i + 1 → ∃ n', n' < q ∧ ∃ (L : List T) (aa : Option Addr) (cc i' : Nat), [Value.slice a' L'.length c', .int .i64 ((i + 1 : Nat) : Int)] = [.slice aa L.length cc, .int .i64 i'] ∧ [Value.slice a' L'.length c'] = [.slice aa L.length cc] ∧ m.le m'' ∧ RepL m'' aa L ∧ L.length ≤ cc ∧ (∀ x ∈ L, OkT x) ∧ L.length ≤ i' ∧ i' ≤ N ∧ n' = N - i' :=
      fun L' a' c' m'' hm hL' hc' hok' hl' => ⟨N - (i + 1), by omega, L', a', c', i + 1, rfl, rfl, Mem.le_trans hm0 hm, hL', hc', hok', hl', by omega, rfl⟩
    have push : ∀ (t : T) (m3 : Mem) (b : Nat), m'.le m3 → Rep m3 t → OkT t → m3.free b → _ := fun t m3 b hm3 hr hokt hf => push_one (Q := (True ∨ Value.slice aa L.length cc = .slice none 0 0 ∨ cc < L.length + 1)) hf (hL.mono hm3) hr (by omega) (.inl trivial) (fun a' c' m4 hm4 hL4 hc4 => And.intro trivial (by
      have h := next (L ++ [t]) a' c' m4 (Mem.le_trans hm3 hm4) hL4 (by simp; omega) (fun x hx => by
        rcases List.mem_append.1 hx with hx | hx
        · exact hok x hx
        · rw [List.mem_singleton] at hx; subst hx; exact hokt) (by simp; omega)
      rw [show (L ++ [t]).length = L.length + 1 by simp] at h
      exact h))
    refine ⟨bz, oz, haz, ⟨by omega, by omega⟩, .int .u8 (z : Nat), ?_, chk_intro rfl ?_⟩
    · have := (hm0 _ _ _ hvz)
      rw [Int.toNat_natCast, Nat.mul_one]
      exact this
    refine br_intro (fun h79 => ?_) (fun h79 => ?_)
    · refine call_any (cx_Range_ac m') (fun v _ _ e => by rw [e]; rfl) ?_
      rintro n1 n2 n3 n4 m3 hm3 hv
      simp only [Ret, setV, setCs, Value.agg.injEq, Array.mk.injEq, List.cons.injEq, Value.int.injEq, true_and, and_true] at hv
      obtain ⟨rfl, rfl, rfl, rfl⟩ := hv
      refine call_any (cx_rxOf _ _ _ _ (by decide) m3 rep_class) tree_fits (tree_k fun t' m4 hm4 hr' ht' => ?_)
      intro b2 hf2
      exact push t' m4 b2 (Mem.le_trans hm3 hm4) hr' (by rw [ht']; exact ok_class) hf2
    refine chk_intro rfl (br_intro (fun h78 => ?_) (fun h78 => ?_))
    · refine call_any (cx_Seq [] none 0 m' ⟨by simp, .inl rfl⟩ (by simp) (by simp)) tree_fits (tree_k fun t' m3 hm3 hr' ⟨ja, jc, hj⟩ => ?_)
      intro b2 hf2
      have hj : t' = T1 := hj
      exact push t' m3 b2 hm3 hr' (by rw [hj]; exact ok_T1) hf2
    refine chk_intro rfl (br_intro (fun h80 => ?_) (fun h80 => ?_))
    · have hmod : IntKind.u8.wrap (97 + Int.tmod (RowKit.intOf (.int .u8 (z : Nat))) 4) = ((97 + z % 4 : Nat) : Int) := by
        show IntKind.u8.wrap (97 + Int.tmod (z : Int) 4) = _
        rw [show Int.tmod (z : Int) 4 = ((z % 4 : Nat) : Int) from rfl]
        have h4 : z % 4 < 4 := Nat.mod_lt _ (by omega)
        generalize z % 4 = k at h4
        have : k = 0 ∨ k = 1 ∨ k = 2 ∨ k = 3 := by omega
        rcases this with rfl | rfl | rfl | rfl <;> rfl
      refine chk_intro rfl ⟨by omega, ?_⟩
      rw [hmod]
      refine call_any (cx_Byte (97 + z % 4) (by omega) m') tree_fits (tree_k fun t' m3 hm3 hr' ht' => ?_)
      intro b2 hf2
      exact push t' m3 b2 hm3 hr' (by rw [ht']; exact ok_letter _ (Nat.mod_lt _ (by omega))) hf2
    have hL40 : L.length ≤ 40 := by omega
    refine ⟨decide (z < 140) && decide (1 < L.length), chk_intro rfl (br_intro (fun h => ⟨by trivial, by trivial, one_bool ?_⟩) (fun h => ⟨by trivial, by trivial, one_bool ?_⟩)), br_intro (fun hseq => ?_) (fun hseq => ?_)⟩
    · have : z < 140 := by have := of_decide_eq_true h; simp only [RowKit.intOf] at this; omega
      rw [decide_eq_true this, Bool.true_and]
      exact decide_eq_decide.2 (by omega)
    · have : ¬ z < 140 := by have := of_decide_eq_false h; simp only [RowKit.intOf] at this; omega
      rw [decide_eq_false this, Bool.false_and]
    · have hn2 : 1 < L.length := by
        rw [Bool.and_eq_true, decide_eq_true_iff, decide_eq_true_iff] at hseq
        exact hseq.2
      obtain ⟨x, hx⟩ := at_some (l := L) (k := L.length - 2) (by omega)
      obtain ⟨y, hy⟩ := at_some (l := L) (k := L.length - 1) (by omega)
      obtain ⟨bx, ox, hax, hrx⟩ := row_get hrow hx
      obtain ⟨by', oy, hay, hry⟩ := row_get hrow hy
      have hox := hok x (List.mem_of_getElem? hx)
      have hoy := hok y (List.mem_of_getElem? hy)
      have hrepx := repL_reps hL x (List.mem_of_getElem? hx)
      have hrepy := repL_reps hL y (List.mem_of_getElem? hy)
      have hw2 : IntKind.i64.wrap ((L.length : Int) - 2) = ((L.length - 2 : Nat) : Int) := by rw [wrap64 (by omega) (by omega)]; omega
      have hw1 : IntKind.i64.wrap ((L.length : Int) - 1) = ((L.length - 1 : Nat) : Int) := by rw [wrap64 (by omega) (by omega)]; omega
      simp only [hw2, hw1, Int.toNat_natCast]
      have hxy : ∀ (M : Mem), m'.le M → ∀ t ∈ [x, y], Rep M t := fun M hM t ht => by
        rcases List.mem_cons.1 ht with rfl | ht
        · exact hrepx.mono hM
        · rw [List.mem_singleton] at ht; subst ht; exact hrepy.mono hM
      have hcxy : ∀ t ∈ [x, y], t.clean = true := fun t ht => by
        rcases List.mem_cons.1 ht with rfl | ht
        · exact hox.clean
        · rw [List.mem_singleton] at ht; subst ht; exact hoy.clean
      have hoxy : ∀ t ∈ [x, y], OkT t := fun t ht => by
        rcases List.mem_cons.1 ht with rfl | ht
        · exact hox
        · rw [List.mem_singleton] at ht; subst ht; exact hoy
      refine ⟨fun _ _ _ => TreeR fun t' => ∃ a c, Join 3 a c T1 (flatL 3 1 [x, y]) t', ⟨by omega, by omega⟩, bx, ox, hax, ⟨by omega, by omega⟩, _, _, _, _, _, _, _, _, hrx, by', oy, hay, ⟨by omega, by omega⟩, _, _, _, _, _, _, _, _, hry, ?_⟩
      intro b5 hf5
      refine ⟨_, rfl, cx_Seq [x, y] (some ⟨b5, 0, none⟩) 2 (m'.add b5 (Rx.cellsL [x, y])) (repL_add hf5 (hxy m' (Mem.le_refl _)) (by simp)) (by simp) hcxy, tree_fits, tree_k fun t' m3 hm3 hr' ⟨ja, jc, hj⟩ => ?_⟩
      refine ⟨bx, ox, hax, ⟨by omega, by omega⟩, _, _, _, _, _, _, _, _, hrx, by', oy, hay, ⟨by omega, by omega⟩, _, _, _, _, _, _, _, _, hry, ?_⟩
      intro b8 hf8 M hM0 hM1 hM2 hM3
      have hlt : (L.take (L.length - 2)).length = L.length - 2 := by rw [List.length_take]; omega
      have hput := cxt_put (L.take (L.length - 2)) aa cc t' [x, y] (some ⟨b8, 0, none⟩) 2 M (repL_take (hL.mono hM0) _) (by omega) (by omega) (hr'.mono hM2) ((repL_add hf8 (hxy m' (Mem.le_refl _)) (by simp)).mono hM3) (by simp) (by simp)
      rw [hlt] at hput
      refine ⟨_, hput, ListT_fits, ?_⟩
      rintro a9 n9 c9 m9 hm9 ⟨a9', c9', hv9, hL9, hc9⟩
      simp only [Value.slice.injEq] at hv9
      obtain ⟨rfl, rfl, rfl⟩ := hv9
      have hpl := putL_len (L := L.take (L.length - 2)) (O := [x, y]) (t := t') (by simp)
      rw [hlt] at hpl
      exact And.intro trivial <| next _ _ _ m9 (Mem.le_trans hM0 hm9) hL9 hc9 (putL_ok (fun z hz => hok z (List.mem_of_mem_take hz)) hoxy (join_caps caps_T1 hj)) (by simp at hpl; omega)
    refine ⟨decide (z < 210) && (decide (140 ≤ z) && decide (1 < L.length)), chk_intro rfl (br_intro (fun h => chk_intro rfl (br_intro (fun h' => ⟨by trivial, by trivial, one_bool ?_⟩) (fun h' => ⟨by trivial, by trivial, one_bool ?_⟩))) (fun h => ⟨by trivial, by trivial, one_bool ?_⟩)), br_intro (fun hseq => ?_) (fun hseq => ?_)⟩
    · have h1 : z < 210 := by have := of_decide_eq_true h; simp only [RowKit.intOf] at this; omega
      have h2 : 140 ≤ z := by have := of_decide_eq_true h'; simp only [RowKit.intOf] at this; omega
      rw [decide_eq_true h1, decide_eq_true h2, Bool.true_and, Bool.true_and]
      exact decide_eq_decide.2 (by omega)
    · have h1 : z < 210 := by have := of_decide_eq_true h; simp only [RowKit.intOf] at this; omega
      have h2 : ¬ 140 ≤ z := by have := of_decide_eq_false h'; simp only [RowKit.intOf] at this; omega
      rw [decide_eq_true h1, decide_eq_false h2, Bool.true_and, Bool.false_and]
    · have : ¬ z < 210 := by have := of_decide_eq_false h; simp only [RowKit.intOf] at this; omega
      rw [decide_eq_false this, Bool.false_and]
    · have hn2 : 1 < L.length := by
        rw [Bool.and_eq_true, Bool.and_eq_true, decide_eq_true_iff, decide_eq_true_iff, decide_eq_true_iff] at hseq
        exact hseq.2.2
      obtain ⟨x, hx⟩ := at_some (l := L) (k := L.length - 2) (by omega)
      obtain ⟨y, hy⟩ := at_some (l := L) (k := L.length - 1) (by omega)
      obtain ⟨bx, ox, hax, hrx⟩ := row_get hrow hx
      obtain ⟨by', oy, hay, hry⟩ := row_get hrow hy
      have hox := hok x (List.mem_of_getElem? hx)
      have hoy := hok y (List.mem_of_getElem? hy)
      have hrepx := repL_reps hL x (List.mem_of_getElem? hx)
      have hrepy := repL_reps hL y (List.mem_of_getElem? hy)
      have hw2 : IntKind.i64.wrap ((L.length : Int) - 2) = ((L.length - 2 : Nat) : Int) := by rw [wrap64 (by omega) (by omega)]; omega
      have hw1 : IntKind.i64.wrap ((L.length : Int) - 1) = ((L.length - 1 : Nat) : Int) := by rw [wrap64 (by omega) (by omega)]; omega
      simp only [hw2, hw1, Int.toNat_natCast]
      have hxy : ∀ (M : Mem), m'.le M → ∀ t ∈ [x, y], Rep M t := fun M hM t ht => by
        rcases List.mem_cons.1 ht with rfl | ht
        · exact hrepx.mono hM
        · rw [List.mem_singleton] at ht; subst ht; exact hrepy.mono hM
      have hcxy : ∀ t ∈ [x, y], t.clean = true := fun t ht => by
        rcases List.mem_cons.1 ht with rfl | ht
        · exact hox.clean
        · rw [List.mem_singleton] at ht; subst ht; exact hoy.clean
      have hoxy : ∀ t ∈ [x, y], OkT t := fun t ht => by
        rcases List.mem_cons.1 ht with rfl | ht
        · exact hox
        · rw [List.mem_singleton] at ht; subst ht; exact hoy
      refine ⟨fun _ _ _ => TreeR fun t' => ∃ a c, Join 4 a c T0 (flatL 4 0 [x, y]) t', ⟨by omega, by omega⟩, bx, ox, hax, ⟨by omega, by omega⟩, _, _, _, _, _, _, _, _, hrx, by', oy, hay, ⟨by omega, by omega⟩, _, _, _, _, _, _, _, _, hry, ?_⟩
      intro b5 hf5
      refine ⟨_, rfl, cx_Or [x, y] (some ⟨b5, 0, none⟩) 2 (m'.add b5 (Rx.cellsL [x, y])) (repL_add hf5 (hxy m' (Mem.le_refl _)) (by simp)) (by simp) hcxy, tree_fits, tree_k fun t' m3 hm3 hr' ⟨ja, jc, hj⟩ => ?_⟩
      refine ⟨bx, ox, hax, ⟨by omega, by omega⟩, _, _, _, _, _, _, _, _, hrx, by', oy, hay, ⟨by omega, by omega⟩, _, _, _, _, _, _, _, _, hry, ?_⟩
      intro b8 hf8 M hM0 hM1 hM2 hM3
      have hlt : (L.take (L.length - 2)).length = L.length - 2 := by rw [List.length_take]; omega
      have hput := cxt_put (L.take (L.length - 2)) aa cc t' [x, y] (some ⟨b8, 0, none⟩) 2 M (repL_take (hL.mono hM0) _) (by omega) (by omega) (hr'.mono hM2) ((repL_add hf8 (hxy m' (Mem.le_refl _)) (by simp)).mono hM3) (by simp) (by simp)
      rw [hlt] at hput
      refine ⟨_, hput, ListT_fits, ?_⟩
      rintro a9 n9 c9 m9 hm9 ⟨a9', c9', hv9, hL9, hc9⟩
      simp only [Value.slice.injEq] at hv9
      obtain ⟨rfl, rfl, rfl⟩ := hv9
      have hpl := putL_len (L := L.take (L.length - 2)) (O := [x, y]) (t := t') (by simp)
      rw [hlt] at hpl
      exact And.intro trivial <| next _ _ _ m9 (Mem.le_trans hM0 hm9) hL9 hc9 (putL_ok (fun z hz => hok z (List.mem_of_mem_take hz)) hoxy (join_caps caps_T0 hj)) (by simp at hpl; omega)
    refine ⟨decide (210 ≤ z) && (decide (z < 230) && decide (0 < L.length)), chk_intro rfl (br_intro (fun h => chk_intro rfl (br_intro (fun h' => ⟨by trivial, by trivial, one_bool ?_⟩) (fun h' => ⟨by trivial, by trivial, one_bool ?_⟩))) (fun h => ⟨by trivial, by trivial, one_bool ?_⟩)), br_intro (fun hseq => ?_) (fun hseq => ?_)⟩
    · have h1 : 210 ≤ z := by have := of_decide_eq_true h; simp only [RowKit.intOf] at this; omega
      have h2 : z < 230 := by have := of_decide_eq_true h'; simp only [RowKit.intOf] at this; omega
      rw [decide_eq_true h1, decide_eq_true h2, Bool.true_and, Bool.true_and]
      exact decide_eq_decide.2 (by omega)
    · have h1 : 210 ≤ z := by have := of_decide_eq_true h; simp only [RowKit.intOf] at this; omega
      have h2 : ¬ z < 230 := by have := of_decide_eq_false h'; simp only [RowKit.intOf] at this; omega
      rw [decide_eq_true h1, decide_eq_false h2, Bool.true_and, Bool.false_and]
    · have : ¬ 210 ≤ z := by have := of_decide_eq_false h; simp only [RowKit.intOf] at this; omega
      rw [decide_eq_false this, Bool.false_and]
    · have hn1 : 0 < L.length := by
        rw [Bool.and_eq_true, Bool.and_eq_true, decide_eq_true_iff, decide_eq_true_iff, decide_eq_true_iff] at hseq
        exact hseq.2.2
      intro b5 hf5
      have hmj : Int.tmod (RowKit.intOf (.int .u8 ((z : Nat) : Int))) 5 = ((z % 5 : Nat) : Int) := rfl
      have h5 : z % 5 < 5 := Nat.mod_lt _ (by omega)
      obtain ⟨lo, hi, he, hb, hne⟩ := times5 ⟨z % 5, h5⟩
      simp only at he
      simp only [hmj, Int.toNat_natCast, he]
      refine chk_intro rfl ⟨by omega, ⟨by omega, by omega⟩, chk_intro (by rw [Nat.ble_eq]; show z % 5 * 2 ≤ 8; omega) ?_⟩
      intro b6
      refine chk_intro rfl ?_
      obtain ⟨y, hy⟩ := at_some (l := L) (k := L.length - 1) (by omega)
      have hoy := hok y (List.mem_of_getElem? hy)
      have hrepy := repL_reps hL y (List.mem_of_getElem? hy)
      have hw1 : IntKind.i64.wrap ((L.length : Int) - 1) = ((L.length - 1 : Nat) : Int) := by rw [wrap64 (by omega) (by omega)]; omega
      simp only [hw1, Int.toNat_natCast]
      generalize hm5 : m'.add b5 [Value.int .i64 0, .int .i64 (-1), .int .i64 1, .int .i64 (-1), .int .i64 0, .int .i64 1, .int .i64 1, .int .i64 2, .int .i64 2, .int .i64 2] = m5
      have hle5 : m'.le m5 := by rw [← hm5]; exact Mem.le_add hf5 _
      obtain ⟨by', oy, hay, hry⟩ := row_get (hrow.mono hle5) hy
      refine ⟨fun _ _ _ => TreeR (Timed y lo hi), ⟨by omega, by omega⟩, by', oy, hay, ⟨by omega, by omega⟩, _, _, _, _, _, _, _, _, hry, ⟨by omega, by omega⟩, look_intro rfl ⟨⟨by omega, by omega⟩, look_intro rfl ?_⟩⟩
      refine ⟨_, rfl, cx_Times y lo hi m5 (hrepy.mono hle5) hoy.clean, tree_fits, tree_k fun t' m6 hm6 hr' ht' => ?_⟩
      refine ⟨by', oy, hay, ⟨by omega, by omega⟩, _, _, _, _, _, _, _, _, hry, ?_⟩
      intro b9 hf9 M hM0 hM1 hM2
      have hlt : (L.take (L.length - 1)).length = L.length - 1 := by rw [List.length_take]; omega
      have hL1 : RepL (m5.add b9 (Rx.cellsL [y])) (some ⟨b9, 0, none⟩) [y] := repL_add hf9 (fun t ht => by rw [List.mem_singleton] at ht; subst ht; exact hrepy.mono hle5) (by simp)
      have hput := cxt_put (L.take (L.length - 1)) aa cc t' [y] (some ⟨b9, 0, none⟩) 1 M (repL_take (hL.mono (Mem.le_trans hle5 hM0)) _) (by omega) (by omega) (hr'.mono hM1) (hL1.mono hM2) (by simp) (by simp)
      rw [hlt] at hput
      refine ⟨_, hput, ListT_fits, ?_⟩
      rintro a9 n9 c9 m9 hm9 ⟨a9', c9', hv9, hL9, hc9⟩
      simp only [Value.slice.injEq] at hv9
      obtain ⟨rfl, rfl, rfl⟩ := hv9
      have hpl := putL_len (L := L.take (L.length - 1)) (O := [y]) (t := t') (by simp)
      rw [hlt] at hpl
      exact And.intro trivial <| next _ _ _ m9 (Mem.le_trans hle5 (Mem.le_trans hM0 hm9)) hL9 hc9 (putL_ok (fun z hz => hok z (List.mem_of_mem_take hz)) (fun z hz => by rw [List.mem_singleton] at hz; subst hz; exact hoy) (timed_caps ht' hne)) (by simp at hpl; omega)
    refine ⟨decide (230 ≤ z) && decide (0 < L.length), chk_intro rfl (br_intro (fun h => ⟨by trivial, by trivial, one_bool ?_⟩) (fun h => ⟨by trivial, by trivial, one_bool ?_⟩)), br_intro (fun hseq => ?_) (fun hseq => And.intro trivial <| next L aa cc m' (Mem.le_refl _) hL hLc hok (by omega))⟩
    · have : 230 ≤ z := by have := of_decide_eq_true h; simp only [RowKit.intOf] at this; omega
      rw [decide_eq_true this, Bool.true_and]
      exact decide_eq_decide.2 (by omega)
    · have : ¬ 230 ≤ z := by have := of_decide_eq_false h; simp only [RowKit.intOf] at this; omega
      rw [decide_eq_false this, Bool.false_and]
    · have hn1 : 0 < L.length := by
        rw [Bool.and_eq_true, decide_eq_true_iff, decide_eq_true_iff] at hseq
        exact hseq.2
      obtain ⟨y, hy⟩ := at_some (l := L) (k := L.length - 1) (by omega)
      have hoy := hok y (List.mem_of_getElem? hy)
      have hrepy := repL_reps hL y (List.mem_of_getElem? hy)
      have hw1 : IntKind.i64.wrap ((L.length : Int) - 1) = ((L.length - 1 : Nat) : Int) := by rw [wrap64 (by omega) (by omega)]; omega
      simp only [hw1, Int.toNat_natCast]
      obtain ⟨by', oy, hay, hry⟩ := row_get hrow hy
      refine ⟨fun _ _ _ => TreeR fun t' => ∃ a c, Chkd (nodeT 6 0 0 a c [y]) t', ⟨by omega, by omega⟩, by', oy, hay, ⟨by omega, by omega⟩, _, _, _, _, _, _, _, _, hry, ?_⟩
      refine ⟨_, rfl, cx_Capture y m' hrepy, tree_fits, tree_k fun t' m6 hm6 hr' ⟨ja, jc, ht'⟩ => ?_⟩
      refine ⟨by', oy, hay, ⟨by omega, by omega⟩, _, _, _, _, _, _, _, _, hry, ?_⟩
      intro b9 hf9 M hM0 hM1 hM2
      have hlt : (L.take (L.length - 1)).length = L.length - 1 := by rw [List.length_take]; omega
      have hL1 : RepL (m'.add b9 (Rx.cellsL [y])) (some ⟨b9, 0, none⟩) [y] := repL_add hf9 (fun t ht => by rw [List.mem_singleton] at ht; subst ht; exact hrepy) (by simp)
      have hput := cxt_put (L.take (L.length - 1)) aa cc t' [y] (some ⟨b9, 0, none⟩) 1 M (repL_take (hL.mono hM0) _) (by omega) (by omega) (hr'.mono hM1) (hL1.mono hM2) (by simp) (by simp)
      rw [hlt] at hput
      refine ⟨_, hput, ListT_fits, ?_⟩
      rintro a9 n9 c9 m9 hm9 ⟨a9', c9', hv9, hL9, hc9⟩
      simp only [Value.slice.injEq] at hv9
      obtain ⟨rfl, rfl, rfl⟩ := hv9
      have hpl := putL_len (L := L.take (L.length - 1)) (O := [y]) (t := t') (by simp)
      rw [hlt] at hpl
      exact And.intro trivial <| next _ _ _ m9 (Mem.le_trans hM0 hm9) hL9 hc9 (putL_ok (fun z hz => hok z (List.mem_of_mem_take hz)) (fun z hz => by rw [List.mem_singleton] at hz; subst hz; exact hoy) ht'.2) (by simp at hpl; omega)
  · have hL40 : L.length ≤ 40 := by omega
    refine ⟨fun xs css tvs m' q => ∃ (L : List T) (aa : Option Addr) (cc : Nat), xs = [.slice aa L.length cc] ∧ css = [T0.cs] ∧ tvs = [.slice aa L.length cc] ∧ m.le m' ∧ RepL m' aa L ∧ L.length ≤ cc ∧ (∀ x ∈ L, OkT x) ∧ L.length ≤ 40 ∧ q = L.length, ⟨_, L, aa, cc, rfl, rfl, rfl, hm0, hL, hLc, hok, hL40, rfl⟩, ?_⟩
    clear hrow hok hL hL40 hLc hLi
    rintro a2 n2 c2 cs aa3 n3 cc3 m3 q3 _ ⟨L3, aa', cc', hxs3, hcs3, htv3, hm3, hL, hLc, hok, hL40, hq3⟩
    simp only [List.cons.injEq, Value.slice.injEq, true_and, and_true] at hxs3 htv3 hcs3
    obtain ⟨rfl, rfl, rfl⟩ := hxs3
    obtain ⟨rfl, rfl, rfl⟩ := htv3
    subst hcs3
    have hrow := row_of_repL hL
    have h0 : L3.length ≠ 0 → ∃ x b o, L3[0]? = some x ∧ aa3 = some ⟨b, o, none⟩ ∧ m3.reads b (o + 0) x.cs ∧ OkT x ∧ Rep m3 x := fun h => by
      obtain ⟨x, hx⟩ := at_some (l := L3) (k := 0) (by omega)
      obtain ⟨b, o, h1, h2⟩ := row_get hrow hx
      exact ⟨x, b, o, hx, h1, by simpa using h2, hok x (List.mem_of_getElem? hx), repL_reps hL x (List.mem_of_getElem? hx)⟩
    refine br_intro (fun hgt => ?_) (fun hgt => ?_)
    · have hn2 : 1 < L3.length := by have := of_decide_eq_true hgt; omega
      obtain ⟨x, hx⟩ := at_some (l := L3) (k := L3.length - 2) (by omega)
      obtain ⟨y, hy⟩ := at_some (l := L3) (k := L3.length - 1) (by omega)
      obtain ⟨bx, ox, hax, hrx⟩ := row_get hrow hx
      obtain ⟨by', oy, hay, hry⟩ := row_get hrow hy
      have hox := hok x (List.mem_of_getElem? hx)
      have hoy := hok y (List.mem_of_getElem? hy)
      have hrepx := repL_reps hL x (List.mem_of_getElem? hx)
      have hrepy := repL_reps hL y (List.mem_of_getElem? hy)
      have hw2 : IntKind.i64.wrap ((L3.length : Int) - 2) = ((L3.length - 2 : Nat) : Int) := by rw [wrap64 (by omega) (by omega)]; omega
      have hw1 : IntKind.i64.wrap ((L3.length : Int) - 1) = ((L3.length - 1 : Nat) : Int) := by rw [wrap64 (by omega) (by omega)]; omega
      simp only [hw2, hw1, Int.toNat_natCast]
      have hxy : ∀ (M : Mem), m3.le M → ∀ t ∈ [x, y], Rep M t := fun M hM t ht => by
        rcases List.mem_cons.1 ht with rfl | ht
        · exact hrepx.mono hM
        · rw [List.mem_singleton] at ht; subst ht; exact hrepy.mono hM
      have hcxy : ∀ t ∈ [x, y], t.clean = true := fun t ht => by
        rcases List.mem_cons.1 ht with rfl | ht
        · exact hox.clean
        · rw [List.mem_singleton] at ht; subst ht; exact hoy.clean
      have hoxy : ∀ t ∈ [x, y], OkT t := fun t ht => by
        rcases List.mem_cons.1 ht with rfl | ht
        · exact hox
        · rw [List.mem_singleton] at ht; subst ht; exact hoy
      refine ⟨fun _ _ _ => TreeR fun t' => ∃ a c, Join 3 a c T1 (flatL 3 1 [x, y]) t', bx, ox, hax, ⟨by omega, by omega⟩, _, _, _, _, _, _, _, _, hrx, by', oy, hay, ⟨by omega, by omega⟩, _, _, _, _, _, _, _, _, hry, ?_⟩
      intro b5 hf5
      refine ⟨_, rfl, cx_Seq [x, y] (some ⟨b5, 0, none⟩) 2 (m3.add b5 (Rx.cellsL [x, y])) (repL_add hf5 (hxy m3 (Mem.le_refl _)) (by simp)) (by simp) hcxy, tree_fits, tree_k fun t' m4 hm4 hr' ⟨ja, jc, hj⟩ => ?_⟩
      intro b6 M hM0 hM1 hM2
      refine call_bool (cx_fits t' M (hr'.mono hM2)) fun m5 hm5 => br_intro (fun hf => ?_) (fun hf => ?_)
      · obtain ⟨x0, b0, o0, hx0, ha0, hr0, hok0, hrep0⟩ := h0 (by omega)
        refine ⟨b0, o0, ha0, ⟨by omega, by omega⟩, _, _, _, _, _, _, _, _, hr0.mono (Mem.le_trans hM0 hm5), chk_intro rfl ⟨m5, Mem.le_trans hm3 (Mem.le_trans hM0 hm5), Mem.le_refl _, x0, rfl, hrep0.mono (Mem.le_trans hM0 hm5), hok0⟩⟩
      · have hfb : fitsB t' = true := by simpa using hf
        refine ⟨⟨by omega, by omega⟩, ⟨by omega, by omega⟩, ?_⟩
        intro b7 hf7
        have hlt : (L3.take (L3.length - 2)).length = L3.length - 2 := by rw [List.length_take]; omega
        have hpush := push_one (m3 := m5) (b := b7) (a := slBase aa3 0 (L3.length - 2) 8) (L := L3.take (L3.length - 2)) (t := t') (Q := (Tok.mk (.slice aa3 L3.length cc3) 8 = Tok.mk (.slice (slBase aa3 0 (L3.length - 2) 8) (L3.length - 2) (L3.length - 2)) 8 ∨ Value.slice (slBase aa3 0 (L3.length - 2) 8) (L3.length - 2) (L3.length - 2) = .slice none 0 0 ∨ L3.length - 2 < L3.length - 2 + 1)) hf7 (repL_take (hL.mono (Mem.le_trans hM0 hm5)) _) (hr'.mono (Mem.le_trans hM2 hm5)) (by omega) (.inr (.inr (by omega))) (K := fun a' c' m4 => ∀ (M : Mem), m5.le M → Mem.le (m5.add b7 t'.cs) M → m4.le M → True ∧ True ∧ ∃ n', n' < q3 ∧ ∃ (L : List T) (aa : Option Addr) (cc : Nat), [Value.slice a' (L3.length - 2 + 1) c'] = [.slice aa L.length cc] ∧ True ∧ [Value.slice a' (L3.length - 2 + 1) c'] = [.slice aa L.length cc] ∧ m.le M ∧ RepL M aa L ∧ L.length ≤ cc ∧ (∀ x ∈ L, OkT x) ∧ L.length ≤ 40 ∧ n' = L.length) (fun a' c' m6 hm6 hL6 hc6 M2 hM5 hM6 hM7 => ⟨trivial, trivial, L3.length - 1, by omega, L3.take (L3.length - 2) ++ [t'], a', c', ?_, trivial, ?_, Mem.le_trans hm3 (Mem.le_trans hM0 (Mem.le_trans hm5 hM5)), hL6.mono hM7, ?_, ?_, ?_, ?_⟩)
        · rw [hlt] at hpush
          exact hpush
        · rw [List.length_append, hlt]; rfl
        · rw [List.length_append, hlt]; rfl
        · rw [List.length_append]; exact hc6
        · intro z hz
          rcases List.mem_append.1 hz with hz | hz
          · exact hok z (List.mem_of_mem_take hz)
          · rw [List.mem_singleton] at hz; subst hz
            exact ⟨(fits_iff hfb).2.1, join_caps caps_T1 hj, hfb⟩
        · rw [List.length_append, hlt]; simp; omega
        · rw [List.length_append, hlt]; simp; omega
    · have hn2 : ¬ 1 < L3.length := by have := of_decide_eq_false hgt; omega
      by_cases hz : L3.length = 0
      · refine ⟨true, br_t (by rw [hz]; rfl) (by trivial), br_t rfl (call_any (cx_Byte 97 (by omega) m3) tree_fits (tree_k fun t' m4 hm4 hr' ht' => ⟨m4, Mem.le_trans hm3 hm4, Mem.le_refl _, t', rfl, hr', by rw [ht']; exact ok_letter 0 (by omega)⟩))⟩
      · obtain ⟨x0, b0, o0, hx0, ha0, hr0, hok0, hrep0⟩ := h0 hz
        refine ⟨false, br_f (by simpa using hz) ⟨b0, o0, ha0, ⟨by omega, by omega⟩, _, _, _, _, _, _, _, _, hr0, call_bool (cx_fits x0 m3 hrep0) fun m4 hm4 => ?_⟩, br_f rfl ⟨b0, o0, ha0, ⟨by omega, by omega⟩, _, _, _, _, _, _, _, _, hr0, chk_intro rfl ⟨m3, hm3, Mem.le_refl _, x0, rfl, hrep0, hok0⟩⟩⟩
        rw [hok0.fits]
        trivial
end Go.Proofs.Ytmggihkjgbnhbaa

