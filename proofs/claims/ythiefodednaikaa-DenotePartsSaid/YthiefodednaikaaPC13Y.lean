/- Part of the proof: conditions and contracts of functions of this program. No condition of its own. -/
import Derived.Test.YthiefodednaikaaPVL
import Derived.Test.YthiefodednaikaaPC13T
import Derived.Test.YthiefodednaikaaMr
/- Strings in memory, lists of integers: contracts of Matches where nothing is refused, Concat of strings, IsSorted, Contains. -/
set_option linter.unusedVariables false
set_option linter.unusedSimpArgs false
set_option linter.unusedSectionVars false
namespace Go.Proofs.Ythiefodednaikaa
open Go Go.Eng Go.Rx Go.Proofs Go.RowKit
set_option maxRecDepth 100000

theorem byt_take {m : Mem} {a : Option Addr} {s : List Nat} (h : Byt m a s) (n : Nat) : Byt m a (s.take n) := by
  refine ⟨?_, fun c hc => h.2 c (List.mem_of_mem_take hc)⟩
  rcases h.1 with h | ⟨b, o, h1, h2⟩
  · subst h; left; simp
  · refine .inr ⟨b, o, h1, fun j v hj => h2 j v ?_⟩
    rw [List.map_take] at hj
    rw [List.getElem?_take] at hj
    split at hj
    · exact hj
    · cases hj
/-- Matches, where nothing is refused. -/
theorem matches_iff {t : T} (hc : t.check = 0) {s : List Nat} (hs : s.length ≤ 512) : T.matches t s = true ↔ t.M s 0 s.length := by
  have hg := (check_good hc).1
  have hw : t.wrong s.length 0 = 0 := by rw [wrong_good hc]; unfold limW; rw [if_neg (by omega), if_neg (by omega)]
  unfold T.matches
  rw [hw]
  have := lead_fwd hg hs (i := 0) (j := s.length) (by omega)
  rw [Nat.pow_zero] at this
  simp only [beq_self_eq_true, Bool.true_and]
  exact this
theorem cx_matches13 (t : T) (a : Option Addr) (s : List Nat) (c : Nat) (m : Mem) (hr : Rep m t) (hc : t.check = 0) (hs : s.length ≤ 512) (hb : Byt m a s) : CX Try.prog 24 #[t.v, .slice a s.length c] m [] (Ret (.bool (T.matches t s))) := by
  apply cx_law13_matches
  unfold VC_law13_matches
  intro b m1 hm1 _
  have hw : t.wrong s.length 0 = 0 := by rw [wrong_good hc]; unfold limW; rw [if_neg (by omega), if_neg (by omega)]
  have h := cx_Matches t a s c m1 (hr.mono hm1) (fun _ => hb.mono hm1)
  rw [hw] at h
  refine call_any h (fun v _ _ e => by rw [e]; rfl) ?_
  intro bo e m2 hm2 hv
  simp only [Value.tuple.injEq, Array.mk.injEq, List.cons.injEq, Value.bool.injEq, Value.int.injEq, true_and, and_true] at hv
  obtain ⟨rfl, rfl⟩ := hv
  refine ⟨T.matches t s, br_intro (fun h => ⟨by trivial, one_bool (by rw [h]; rfl)⟩) (fun h => ⟨by trivial, one_bool (by rw [h])⟩), ret_pure (Mem.le_trans hm1 hm2) rfl⟩
/-- A part of a string, as it lies in memory. -/
theorem byt_drop {m : Mem} {a : Option Addr} {s : List Nat} (h : Byt m a s) (i n c : Nat) (hc : s.length ≤ c) (hn : n ≤ s.length) (hi : i ≤ n) : Byt m (slBase a i c 1) ((s.drop i).take (n - i)) := by
  refine ⟨?_, fun x hx => h.2 x (List.mem_of_mem_drop (List.mem_of_mem_take hx))⟩
  rcases h.1 with h | ⟨b, o, h1, h2⟩
  · subst h; left; simp
  · by_cases hz : n - i = 0
    · left; rw [hz]; simp
    · right
      have hs : slBase a i c 1 = some ⟨b, o + i, none⟩ := by
        subst h1
        unfold slBase
        cases i with
        | zero => rfl
        | succ i =>
          have e1 : Nat.beq (i + 1) 0 = false := rfl
          have e2 : Nat.beq c (i + 1) = false := by
            cases hb : Nat.beq c (i + 1) with
            | false => rfl
            | true => have := Nat.eq_of_beq_eq_true hb; omega
          rw [e1, e2]
          show some (Addr.add _ ((i + 1) * 1)) = _
          rw [addr_add, Nat.mul_one]
      refine ⟨b, o + i, hs, fun j v hj => ?_⟩
      rw [List.getElem?_map] at hj
      obtain ⟨x, hx, rfl⟩ := Option.map_eq_some_iff.1 hj
      rw [List.getElem?_take] at hx
      split at hx
      · rw [List.getElem?_drop] at hx
        rw [Nat.add_assoc]
        exact h2 (i + j) _ (by rw [List.getElem?_map, hx]; rfl)
      · cases hx
theorem bytes_one (l : List Nat) : ∀ u ∈ l.map (fun c : Nat => Value.int .u8 c), u.oneCell' = true := fun u hu => by
  obtain ⟨c, _, rfl⟩ := List.mem_map.1 hu; rfl
theorem byt_row {m : Mem} {a : Option Addr} {l : List Nat} (h : Byt m a l) : rowRd m a (l.map fun c : Nat => Value.int .u8 c) := by
  rcases h.1 with h | ⟨b, o, h1, h2⟩
  · subst h; exact .inl rfl
  · exact .inr ⟨b, o, h1, h2⟩
theorem row_byt {m : Mem} {a : Option Addr} {l : List Nat} (h : rowRd m a (l.map fun c : Nat => Value.int .u8 c)) (k : ∀ c ∈ l, c < 256) : Byt m a l := by
  refine ⟨?_, k⟩
  rcases h with h | h
  · left; simpa using h
  · exact .inr h
/-- A string of bytes somewhere: address, bytes, capacity. -/
abbrev Str := Option Addr × List Nat × Nat
def Str.v (q : Str) : Value := .slice q.1 q.2.1.length q.2.2
def Str.part (q : Str) : Part := ⟨q.1, q.2.1.length, q.2.2, q.2.1.map fun c : Nat => Value.int .u8 c⟩
def cat' (Q : List Str) : List Nat := (Q.map fun q => q.2.1).flatten
theorem sum_part : ∀ Q : List Str, sumN (Q.map Str.part) = (cat' Q).length
  | [] => rfl
  | q :: Q => by
    have := sum_part Q
    simp only [sumN, cat', List.map_cons, List.sum_cons, List.flatten_cons, List.length_append, Str.part] at *
    omega
theorem all_part : ∀ Q : List Str, allX (Q.map Str.part) = (cat' Q).map fun c : Nat => Value.int .u8 c
  | [] => rfl
  | q :: Q => by
    have := all_part Q
    simp only [allX, cat', List.map_cons, List.flatten_cons, List.map_append, Str.part] at *
    rw [this]
theorem cx_concat_strs (Q : List Str) (b c : Nat) (m : Mem) (hf : m.free b) (hb : ∀ q ∈ Q, Byt m q.1 q.2.1) (hsum : (cat' Q).length ≤ 100000) (hQ : Q.length ≤ 1000) : CX Try.prog 25 #[.slice (some ⟨b, 0, none⟩) Q.length c] (m.add b (Q.map Str.v)) [] (fun v m' _ => ∃ a c, v = .slice a (cat' Q).length c ∧ Byt m' a (cat' Q)) := by
  have h : Lies (m.add b (Q.map Str.v)) (some ⟨b, 0, none⟩) 1 (Q.map Str.part) := by
    refine ⟨fun i q hi => ⟨b, 0, rfl, ?_⟩, fun q hq => ?_⟩
    · rw [Nat.zero_add, Mem.add_same]
      rw [List.getElem?_map] at hi ⊢
      obtain ⟨x, hx, rfl⟩ := Option.map_eq_some_iff.1 hi
      rw [hx]; rfl
    · obtain ⟨x, hx, rfl⟩ := List.mem_map.1 hq
      exact ⟨byt_row ((hb x hx).mono (Mem.le_add hf _)), by simp [Str.part], bytes_one _⟩
  have := cx_concat_by (Q.map Str.part) (some ⟨b, 0, none⟩) c _ h (by rw [sum_part]; exact hsum) (by simpa using hQ)
  rw [List.length_map] at this
  refine this.mono ?_
  rintro v m' css _ ⟨a, c, e, hrow⟩
  rw [sum_part] at e
  rw [all_part] at hrow
  refine ⟨a, c, e, row_byt hrow fun x hx => ?_⟩
  obtain ⟨l, hl, hxl⟩ := List.mem_flatten.1 hx
  obtain ⟨q, hq, rfl⟩ := List.mem_map.1 hl
  exact (hb q hq).2 x hxl
theorem cx_isNaNi (n : Int) (m : Mem) : CX Try.prog 90 #[.int .i64 n] m [] (Ret (.bool false)) := by
  apply cx_cmp_isNaN_int
  unfold VC_cmp_isNaN_int
  exact ret_pure (Mem.le_refl _) (by simp [Ret])
theorem cx_Lessi (a b : Int) (m : Mem) : CX Try.prog 69 #[.int .i64 a, .int .i64 b] m [] (Ret (.bool (decide (a < b)))) := by
  apply cx_cmp_Less_int
  unfold VC_cmp_Less_int
  refine ⟨decide (a < b), call_bool (cx_isNaNi a m) fun m1 hm1 => br_f rfl (one_bool rfl), ret_pure (Mem.le_refl _) rfl⟩
theorem cx_IsSorted (l : List Nat) (a : Option Addr) (c : Nat) (m : Mem) (h : rowRd m a (numsL l)) (hl : l.length ≤ 1000000000000000) (hs : ∀ i x y, l[i]? = some x → l[i + 1]? = some y → x ≤ y) : CX Try.prog 27 #[.slice a l.length c] m [] (Ret (.bool true)) := by
  apply cx_slices_IsSorted_int_int
  unfold VC_slices_IsSorted_int_int
  have hw : IntKind.i64.wrap ((l.length : Int) - 1) = (l.length : Int) - 1 := wrap64 (by omega) (by omega)
  simp only [hw]
  refine ⟨fun xs css _ m' q => ∃ k : Int, -1 ≤ k ∧ k < l.length ∧ xs = [.int .i64 k] ∧ q = (k + 1).toNat, ⟨_, (l.length : Int) - 1, by omega, by omega, rfl, rfl⟩, ?_⟩
  rintro z m1 q hm1 ⟨k, hk0, hk, hz, hq⟩
  obtain rfl : z = k := by simpa using hz
  refine br_intro (fun hlt => ?_) (fun hge => ⟨m1, hm1, Mem.le_refl _, trivial⟩)
  have hlt' := of_decide_eq_true hlt
  obtain ⟨j, rfl⟩ : ∃ j : Nat, z = ((j + 1 : Nat) : Int) := ⟨(z - 1).toNat, by omega⟩
  obtain ⟨x, hx⟩ := at_some (l := l) (k := j) (by omega)
  obtain ⟨y, hy⟩ := at_some (l := l) (k := j + 1) (by omega)
  have hxy := hs j x y hx hy
  have hw1 : IntKind.i64.wrap (((j + 1 : Nat) : Int) - 1) = (j : Int) := by rw [wrap64 (by omega) (by omega)]; omega
  rcases h.mono hm1 with h | ⟨b, o, h1, h2⟩
  · rw [show l = [] by simpa [numsL] using h] at hx; simp at hx
  simp only [hw1, Int.toNat_natCast, Nat.mul_one]
  refine ⟨fun _ _ _ => Ret (.bool (decide ((y : Int) < x))), b, o, h1, ⟨by omega, by omega⟩, _, h2 (j + 1) (.int .i64 y) (by rw [numsL, List.getElem?_map, hy]; rfl), b, o, h1, ⟨by omega, by omega⟩, _, h2 j (.int .i64 x) (by rw [numsL, List.getElem?_map, hx]; rfl), Ret (.bool (decide ((y : Int) < x))), rfl, cx_Lessi y x m1, (fun v _ _ e => by rw [e]; rfl), ?_⟩
  intro bo m2 hm2 hb M hM1 hM2
  cases hb
  refine br_f (decide_eq_false (by omega)) ⟨j + 1, by omega, (j : Int), by omega, by omega, rfl, by omega⟩
theorem cx_Index (l : List Nat) (a : Option Addr) (c x : Nat) (m : Mem) (h : rowRd m a (numsL l)) (hl : l.length ≤ 1000000000000000) : CX Try.prog 70 #[.slice a l.length c, .int .i64 x] m [] (fun v _ _ => ∃ z : Int, v = .int .i64 z ∧ (z ≥ 0 ↔ x ∈ l)) := by
  apply cx_slices_Index_int_int
  unfold VC_slices_Index_int_int
  refine ⟨fun xs css _ m' q => ∃ k : Nat, k ≤ l.length ∧ xs = [.int .i64 k] ∧ x ∉ l.take k ∧ q = l.length - k, ⟨_, 0, by omega, rfl, by simp, rfl⟩, ?_⟩
  rintro z m1 q hm1 ⟨k, hk, hz, hno, hq⟩
  obtain rfl : z = k := by simpa using hz
  refine br_intro (fun hlt => ?_) (fun hge => ⟨m1, hm1, Mem.le_refl _, _, rfl, ?_⟩)
  · have hlt' : k < l.length := by have := of_decide_eq_true hlt; omega
    obtain ⟨u, hu⟩ := at_some hlt'
    have hwr : IntKind.i64.wrap ((k : Int) + 1) = ((k + 1 : Nat) : Int) := by rw [wrap64 (by omega) (by omega)]; rfl
    rcases h.mono hm1 with h | ⟨b, o, h1, h2⟩
    · rw [show l = [] by simpa [numsL] using h] at hu; simp at hu
    simp only [hwr, Int.toNat_natCast, Nat.mul_one]
    refine ⟨b, o, h1, ⟨by omega, by omega⟩, _, h2 k (.int .i64 u) (by rw [numsL, List.getElem?_map, hu]; rfl), chk_intro rfl (br_intro (fun hc => ⟨m1, hm1, Mem.le_refl _, _, rfl, ?_⟩) (fun hc => ⟨l.length - (k + 1), by omega, k + 1, by omega, rfl, ?_, rfl⟩))⟩
    · have : x = u := by simp [RowKit.intOf] at hc; omega
      subst this
      exact ⟨fun _ => List.mem_of_getElem? hu, fun _ => by omega⟩
    · rw [take_at hu, List.mem_append]
      rintro (h | h)
      · exact hno h
      · simp at h; subst h; simp [RowKit.intOf] at hc
  · have : k = l.length := by have := of_decide_eq_false hge; omega
    subst this
    rw [List.take_length] at hno
    exact ⟨fun h => by omega, fun h => absurd h hno⟩
theorem cx_Contains (l : List Nat) (a : Option Addr) (c x : Nat) (m : Mem) (h : rowRd m a (numsL l)) (hl : l.length ≤ 1000000000000000) : CX Try.prog 29 #[.slice a l.length c, .int .i64 x] m [] (Ret (.bool (decide (x ∈ l)))) := by
  apply cx_slices_Contains_int_int
  unfold VC_slices_Contains_int_int
  refine call_any (cx_Index l a c x m h hl) (fun v _ _ ⟨z, e, _⟩ => by rw [e]; rfl) ?_
  rintro z m1 hm1 ⟨z', hz, hx⟩
  cases hz
  exact ret_pure hm1 (by unfold Ret; congr 1; exact decide_eq_decide.2 hx)
/-- Lists of integers, as slices in memory. -/
def Lists (m : Mem) (a : Option Addr) (E : List Str) (f : Nat → List Nat) (k : Nat) : Prop := rowRd m a (E.map Str.v) ∧ (∀ q ∈ E, rowRd m q.1 (numsL q.2.1)) ∧ E.map (fun q => q.2.1) = (List.range k).map f
theorem Lists.mono {m m' : Mem} {a E f k} (h : Lists m a E f k) (hm : m.le m') : Lists m' a E f k := ⟨h.1.mono hm, fun q hq => (h.2.1 q hq).mono hm, h.2.2⟩
theorem Lists.len {m : Mem} {a E f k} (h : Lists m a E f k) : E.length = k := by
  have := congrArg List.length h.2.2
  simpa using this
theorem Lists.get {m : Mem} {a E f k} (h : Lists m a E f k) {i : Nat} (hi : i < k) : ∃ b o x c, a = some ⟨b, o, none⟩ ∧ m b (o + i) = some (.slice x (f i).length c) ∧ rowRd m x (numsL (f i)) := by
  have hl := h.len
  obtain ⟨q, hq⟩ := at_some (l := E) (k := i) (by omega)
  have e : q.2.1 = f i := by
    have := congrArg (fun l => l[i]?) h.2.2
    simp [hq, hi] at this
    exact this
  have hr := h.2.1 q (List.mem_of_getElem? hq)
  rcases h.1 with h | ⟨b, o, h1, h2⟩
  · rw [show E = [] by simpa using h] at hq; simp at hq
  · refine ⟨b, o, q.1, q.2.2, h1, ?_, e ▸ hr⟩
    have := h2 i q.v (by rw [List.getElem?_map, hq]; rfl)
    rw [this, ← e]; rfl
theorem Lists.one {E : List Str} : ∀ u ∈ E.map Str.v, u.oneCell' = true := fun u hu => by
  obtain ⟨q, _, rfl⟩ := List.mem_map.1 hu; rfl
theorem nums_one (l : List Nat) : ∀ u ∈ numsL l, u.oneCell' = true := fun u hu => by
  obtain ⟨q, _, rfl⟩ := List.mem_map.1 hu; rfl
theorem nums_snoc (l : List Nat) (x : Nat) : numsL (l ++ [x]) = numsL l ++ [.int .i64 x] := by simp [numsL]
end Go.Proofs.Ythiefodednaikaa

