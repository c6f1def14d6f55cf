/- Part of the proof: conditions and contracts of functions of this program. No condition of its own. -/
import Derived.Test.YthiefodednaikaaPVQ
import Derived.Test.YthiefodednaikaaPC13Y
import Derived.Test.YthiefodednaikaaPC13N
import Derived.Test.YthiefodednaikaaMr
/- The statement DenoteParts: the function returns true. -/
set_option linter.unusedVariables false
set_option linter.unusedSimpArgs false
set_option linter.unusedSectionVars false
namespace Go.Proofs.Ythiefodednaikaa
open Go Go.Eng Go.Rx Go.Proofs Go.RowKit
set_option maxRecDepth 100000

/-- A list as it is written so far: address, numbers, capacity. -/
def OneAt (m : Mem) (E : List Str) (R : Re) (x j : Nat) : Prop := ∃ q : Str, E[x]? = some q ∧ q.2.1 = toL R x j ∧ rowRd m q.1 (numsL q.2.1)
theorem OneAt.mono {m m' : Mem} {E R x j} (h : OneAt m E R x j) (hm : m.le m') : OneAt m' E R x j := by
  obtain ⟨q, h1, h2, h3⟩ := h
  exact ⟨q, h1, h2, h3.mono hm⟩
theorem OneAt.other {m : Mem} {E R x j i q} (h : OneAt m E R x j) (hx : x ≠ i) : OneAt m (E.set i q) R x j := by
  obtain ⟨r, h1, h2⟩ := h
  exact ⟨r, by rw [List.getElem?_set_ne (Ne.symm hx)]; exact h1, h2⟩
theorem numsL_set (l : List Nat) (i x : Nat) : (numsL l).set i (.int .i64 x) = numsL (l.set i x) := by simp [numsL, List.map_set]
theorem numsL_len (l : List Nat) : (numsL l).length = l.length := by simp [numsL]
theorem zeros (n : Nat) : List.flatten (List.replicate n [Value.int .i64 0]) = numsL (rowL (fun _ => false) n) := by
  have h : List.flatten (List.replicate n [Value.int .i64 0]) = List.replicate n (Value.int .i64 0) := by
    induction n with
    | zero => rfl
    | succ n ih => rw [List.replicate_succ, List.flatten_cons, ih]; rfl
  rw [h]
  refine List.ext_getElem? fun i => ?_
  unfold numsL
  rw [List.getElem?_map]
  by_cases hi : i < n
  · rw [rowL_get _ hi]; simp [hi]
  · rw [List.getElem?_eq_none_iff.2 (by simp; omega), List.getElem?_eq_none_iff.2 (by rw [rowL_len]; omega)]; rfl
theorem nils (n : Nat) : List.flatten (List.replicate n [Value.slice none 0 0]) = List.replicate n (Value.slice none 0 0) := by
  induction n with
  | zero => rfl
  | succ n ih => rw [List.replicate_succ, List.flatten_cons, ih]; rfl
abbrev Inv := List Value → List (List Value) → List Value → Mem → Nat → Prop
/-- Where the first tree leads to: the lists behind so many indices. -/
def OnesI (R : Re) (k : Nat) : Inv := fun xs css tvs m' q => ∃ (i : Nat) (E : List Str), i ≤ k ∧ xs = [.int .i64 i] ∧ css = [E.map Str.v] ∧ tvs = [] ∧ E.length = k ∧ (∀ x, x < i → OneAt m' E R x k) ∧ (∀ x, i ≤ x → x < k → E[x]? = some (none, [], 0)) ∧ q = k - i
def OneI (R : Re) (k i : Nat) : Inv := fun xs css tvs m' q => ∃ (j : Nat) (E : List Str) (c : Str), i ≤ j ∧ j ≤ k ∧ xs = [.int .i64 j] ∧ css = [E.map Str.v] ∧ tvs = [c.v] ∧ E.length = k ∧ (∀ x, x < i → OneAt m' E R x k) ∧ (E[i]? = some c ∧ c.2.1 = toL R i j ∧ rowRd m' c.1 (numsL c.2.1)) ∧ (∀ x, i < x → x < k → E[x]? = some (none, [], 0)) ∧ q = k - j
def RoundsI (R : Re) (k : Nat) : Inv := fun xs css tvs m' q => ∃ (c : Nat) (E : List Str) (a : Option Addr) (cc : Nat), c ≤ k + 4 ∧ xs = [.slice a c cc, .int .i64 c] ∧ tvs = [.slice a c cc] ∧ Lists m' a E (powF R k) c ∧ q = k + 4 - c
def RowI (R : Re) (k c : Nat) : Inv := fun xs css tvs m' q => ∃ i : Nat, i ≤ k ∧ xs = [.int .i64 i] ∧ css = [numsL (rowL (roundG R c i) k)] ∧ q = k - i
def StepI (R : Re) (k c i : Nat) : Inv := fun xs css tvs m' q => ∃ p : Nat, p ≤ (toL R i k).length ∧ xs = [.int .i64 p] ∧ css = [numsL (rowL (stepR R c i k p) k)] ∧ q = (toL R i k).length - p
noncomputable def cutB (R Q : Re) (n i : Nat) : Bool := open Classical in decide (∃ i', i' < i ∧ R 0 i' ∧ Q i' n)
noncomputable def timesB (R : Re) (lo hi n c : Nat) : Bool := open Classical in decide (∃ c', c' < c ∧ pow R c' 0 n ∧ lo ≤ c' ∧ (hi = 0 ∨ c' ≤ hi))
theorem cutB_succ {R Q : Re} {n i : Nat} {A B : Bool} (hA : A = true ↔ R 0 i) (hB : B = true ↔ Q i n) : cutB R Q n (i + 1) = (cutB R Q n i || (A && B)) := by
  rw [Bool.eq_iff_iff]
  unfold cutB
  simp only [Bool.or_eq_true, Bool.and_eq_true, decide_eq_true_eq, hA, hB]
  constructor
  · rintro ⟨i', h1, h2⟩
    by_cases e : i' = i
    · subst e; exact .inr h2
    · exact .inl ⟨i', by omega, h2⟩
  · rintro (⟨i', h1, h2⟩ | h)
    · exact ⟨i', by omega, h2⟩
    · exact ⟨i, by omega, h⟩
theorem timesB_succ {R : Re} {lo hi n c : Nat} : timesB R lo hi n (c + 1) = (timesB R lo hi n c || (powB R c n && (decide (lo ≤ c) && (decide (hi = 0) || decide (c ≤ hi))))) := by
  rw [Bool.eq_iff_iff]
  unfold timesB
  simp only [Bool.or_eq_true, Bool.and_eq_true, decide_eq_true_eq, powB_iff]
  constructor
  · rintro ⟨c', h1, h2⟩
    by_cases e : c' = c
    · subst e; exact .inr h2
    · exact .inl ⟨c', by omega, h2⟩
  · rintro (⟨c', h1, h2⟩ | h)
    · exact ⟨c', by omega, h2⟩
    · exact ⟨c, by omega, h⟩
theorem tmod_small {a b : Nat} (hb : 0 < b) (hb2 : b ≤ 256) : IntKind.i64.wrap (Int.tmod (a : Int) (b : Int)) = ((a % b : Nat) : Int) := by
  have h : Int.tmod (a : Int) (b : Int) = ((a % b : Nat) : Int) := by
    rw [Int.tmod_eq_emod_of_nonneg (by omega)]; rfl
  have := Nat.mod_lt a hb
  rw [h, wrap64 (by omega) (by omega)]
/-- What the trees that are put together match. -/
theorem want_or {t u w : T} {a c} (ht : t.check = 0) (hu : u.check = 0) (h : Join 4 a c T0 (flatL 4 0 [t, u]) w) (hw : w.check = 0) {S : List Nat} (hS : S.length ≤ 512) : T.matches w S = (T.matches t S || T.matches u S) := by
  rw [Bool.eq_iff_iff, Bool.or_eq_true, matches_iff hw hS, matches_iff ht hS, matches_iff hu hS, join_or h hw, MA_flat _ _ _ _ (by
    intro x hx
    simp at hx
    rcases hx with rfl | rfl
    · exact clean_k (check_clean ht)
    · exact clean_k (check_clean hu)), MA_cons, MA_cons, MA_nil, or_false]
theorem want_seq {t u w : T} {a c} (ht : t.check = 0) (h : Join 3 a c T1 (flatL 3 1 [t, u]) w) (hw : w.check = 0) {S : List Nat} (hS : S.length ≤ 512) : T.matches w S = cutB (t.M S) (u.M S) S.length (S.length + 1) := by
  rw [Bool.eq_iff_iff, matches_iff hw hS, join_seq h hw, MC_flat, MC_cons]
  unfold cutB
  simp only [MC_cons, MC_nil, decide_eq_true_eq]
  constructor
  · rintro ⟨i, h1, j, h2, rfl⟩
    have := M_len (check_good ht).1 h1 (by omega)
    exact ⟨i, by omega, h1, h2⟩
  · rintro ⟨i, _, h1, h2⟩; exact ⟨i, h1, _, h2, rfl⟩
theorem want_times {t w : T} {lo hi : Nat} (ht : t.check = 0) (hlo : lo < 3) (hhi : hi < 4) (h : Timed t lo (if hi = 0 then -1 else (hi : Int)) w) (hw : w.check = 0) {S : List Nat} (hS : S.length ≤ 512) : T.matches w S = timesB (t.M S) lo hi S.length (S.length + 1 + 4) := by
  rw [Bool.eq_iff_iff, matches_iff hw hS, timed_M h hw, times_enough (fun i j h => M_le (check_good ht).1 h) (by omega) (by split; exact .inl rfl; exact .inr (by omega))]
  unfold timesB
  simp only [decide_eq_true_eq]
  constructor
  · rintro ⟨c, h1, h2, h3, h4⟩
    refine ⟨c, by omega, h4, by omega, ?_⟩
    by_cases e : hi = 0
    · exact .inl e
    · rw [if_neg e] at h3; right; omega
  · rintro ⟨c, h1, h2, h3, h4⟩
    refine ⟨c, by omega, by omega, ?_, h2⟩
    by_cases e : hi = 0
    · rw [if_pos e]; exact .inl rfl
    · rw [if_neg e]; right; omega
theorem want_group {t w : T} {a c} (ht : t.check = 0) (h : Chkd (nodeT 6 0 0 a c [t]) w) (hw : w.check = 0) {S : List Nat} (hS : S.length ≤ 512) : T.matches w S = T.matches t S := by
  rw [Bool.eq_iff_iff, matches_iff hw hS, matches_iff ht hS, chkd_M h hw, M_6 rfl, show (nodeT 6 0 0 a c [t]).subs = [t] from rfl, MH_cons]
set_option maxHeartbeats 1600000 in
theorem cx_Parts13 (L : List (Nat × Nat × Nat)) (pa : Option Addr) (pc : Nat) (L2 : List (Nat × Nat × Nat)) (qa : Option Addr) (qc : Nat) (s : List Nat) (sa : Option Addr) (sc : Nat) (lo hi : Nat) (m : Mem) (hL : Sm m pa L) (hpc : L.length ≤ pc) (hL2 : Sm m qa L2) (hqc : L2.length ≤ qc) (hs : Byt m sa s) (hsc : s.length ≤ sc) (hlo : lo < 256) (hhi : hi < 256) :
    CX Try.prog 9 #[.slice pa L.length pc, .slice qa L2.length qc, .slice sa s.length sc, .int .u8 lo, .int .u8 hi] m [] (Ret (.bool true)) := by
  apply cx_law13_DenoteParts
  unfold VC_law13_DenoteParts
  refine call_bool (cx_awake m) fun m1 hm1 => br_f rfl ?_
  refine call_any (cx_Made L pa pc m1 (hL.mono hm1) hpc) tree_fits (tree_k fun t m2 hm2 hr ht => ?_)
  have h02 := Mem.le_trans hm1 hm2
  refine call_any (cx_Made L2 qa qc m2 (hL2.mono h02) hqc) tree_fits (tree_k fun u m3 hm3 hr2 ht2 b b1 => ?_)
  have h03 := Mem.le_trans h02 hm3
  have hr := hr.mono hm3
  have hN3 : (if (12 : Int) < (s.length : Int) then (12 : Int) else (s.length : Int)) = ((min 12 s.length : Nat) : Int) := by split <;> omega
  simp only [hN3, Int.toNat_natCast, Nat.sub_zero]
  have e3 : (s.take 12).length = min 12 s.length := by simp
  have hS := (byt_take hs 12).mono h03
  rw [← e3]
  generalize s.take 12 = S at *
  have hSl : S.length ≤ 12 := by omega
  have hSc : S.length ≤ sc := by omega
  have hwN : IntKind.i64.wrap ((S.length : Int) + 1) = ((S.length + 1 : Nat) : Int) := by rw [wrap64 (by omega) (by omega)]; rfl
  have hgood := (check_good ht).1
  have hgood2 := (check_good ht2).1
  simp only [hwN, Int.toNat_natCast]
  have hfw : Fwd (t.M S) := fun i j h => M_le hgood h
  refine ⟨⟨by omega, by omega⟩, ⟨by omega, by omega, by omega, by omega⟩, fun b2 => ?_⟩
  rw [nils]
  refine ⟨OnesI (t.M S) (S.length + 1), ⟨_, 0, List.replicate (S.length + 1) (none, [], 0), by omega, rfl, by simp [Str.v], rfl, by simp, by intro x hx; omega, by intro x _ hx; simp [hx], rfl⟩, ?_⟩
  rintro i0 cs0 m4 q4 hm4 ⟨i, E, hi', hxs, hcss, _, hEl, hdone, hrest, hq4⟩
  obtain rfl : i0 = i := by simpa using hxs
  obtain rfl : cs0 = E.map Str.v := by simpa using hcss
  refine br_intro (fun hlt => ?_) (fun hge => ?_)
  · have hi2 : i < S.length + 1 := by have := of_decide_eq_true hlt; omega
    refine ⟨OneI (t.M S) (S.length + 1) i, ⟨_, i, E, (none, [], 0), by omega, by omega, rfl, rfl, rfl, hEl, hdone, ⟨hrest i (by omega) hi2, (toL_self hfw i).symm, .inl rfl⟩, fun x h1 h2 => hrest x (by omega) h2, rfl⟩, ?_⟩
    rintro j0 cs1 ta tn tc m5 q5 hm5 ⟨j, E1, c, hij, hjk, hxs1, hcss1, htv1, hEl1, hdone1, ⟨hc1, hc2, hc3⟩, hrest1, hq5⟩
    obtain rfl : j0 = j := by simpa using hxs1
    obtain rfl : cs1 = E1.map Str.v := by simpa using hcss1
    have htv1 : Value.slice ta tn tc = c.v := by simpa using htv1
    have h35 := Mem.le_trans hm4 hm5
    refine br_intro (fun hlt1 => ?_) (fun hge1 => ?_)
    · have hj2 : j < S.length + 1 := by have := of_decide_eq_true hlt1; omega
      have hwj : IntKind.i64.wrap ((j : Int) + 1) = ((j + 1 : Nat) : Int) := by rw [wrap64 (by omega) (by omega)]; rfl
      simp only [hwj, Int.toNat_natCast]
      have dec : Decidable (t.M S i j) := Classical.propDecidable _
      have hM : T.matches t ((S.drop i).take (j - i)) = decide (t.M S i j) := by
        rw [Bool.eq_iff_iff, matches_iff ht (by simp; omega), decide_eq_true_iff]
        exact sub_M hgood hij (by omega)
      have c3 := cx_matches13 t (slBase (slBase sa 0 sc 1) i sc 1) ((S.drop i).take (j - i)) (sc - i) m5 (hr.mono h35) ht (by simp; omega) (byt_drop (hS.mono h35) i j sc (by omega) (by omega) (by omega))
      rw [hM, show ((S.drop i).take (j - i)).length = j - i by simp; omega] at c3
      have htl := toL_succ (t.M S) i j
      refine ⟨fun _ _ _ => Ret (.bool (decide (t.M S i j))), ⟨by omega, by omega⟩, ⟨by omega, by omega⟩, _, rfl, c3, (fun v _ _ e => by rw [e]; rfl), ?_⟩
      intro bb m6 hm6 hbb M hM1 hM2
      have hbb : bb = decide (t.M S i j) := by unfold Ret at hbb; simpa using hbb
      subst hbb
      refine br_intro (fun hy => ?_) (fun hn => ?_)
      · have hy := of_decide_eq_true hy
        rw [if_pos hy] at htl
        refine ⟨⟨by omega, by omega⟩, look_intro (v := c.v) (show (E1.map Str.v)[i * 1]? = some c.v by rw [List.getElem?_map, Nat.mul_one, hc1]; rfl) fun b4 hf4 => chk_intro rfl ?_⟩
        have hle4 := Mem.le_add hf4 [.int .i64 j]
        have hcl : c.2.1.length ≤ j := by rw [hc2]; exact toL_len _ _ _
        refine ⟨.inl (by rw [htv1]), numsL c.2.1, [.int .i64 j], by simp [numsL, Str.v, slN], rfl, (hc3.mono hM1).mono hle4, .inr ⟨b4, 0, rfl, fun j v hj => by rw [Nat.zero_add, Mem.add_same]; exact hj⟩, by intro u hu; simp at hu; subst hu; rfl, by simp only [Str.v, slN]; omega, by simp only [Str.v, slN]; omega, fun a5 c5 m7 hm7 hrow7 => ⟨⟨by omega, by omega⟩, ?_⟩⟩
        have hle7 : m5.le m7 := Mem.le_trans hM1 (Mem.le_trans hle4 hm7)
        refine store_one (P := fun l => True ∧ ∃ n' : Nat, n' < q5 ∧ OneI (t.M S) (S.length + 1) i [.int .i64 ((j + 1 : Nat) : Int)] [l] [.slice a5 (slN c.v + 1) c5] m7 n') (show (E1.map Str.v).length = _ by rw [List.length_map]; exact hEl1) hi2 ?_
        refine ⟨trivial, S.length + 1 - (j + 1), by omega, j + 1, E1.set i (a5, toL (t.M S) i (j + 1), c5), (a5, toL (t.M S) i (j + 1), c5), by omega, by omega, rfl, ?_, ?_, by rw [List.length_set]; exact hEl1, ?_, ⟨?_, rfl, ?_⟩, ?_, rfl⟩
        · rw [List.map_set, htl]
          simp [Str.v, slN, hc2]
        · rw [htl]
          simp [Str.v, slN, hc2]
        · intro x hx
          exact (((hdone1 x hx).mono hle7).other (by omega))
        · rw [List.getElem?_set_self (by omega)]
        · rw [htl, nums_snoc, ← hc2]
          exact hrow7
        · intro x h1 h2
          rw [List.getElem?_set_ne (by omega)]
          exact hrest1 x h1 h2
      · have hn := of_decide_eq_false hn
        rw [if_neg hn, List.append_nil] at htl
        exact ⟨by trivial, S.length + 1 - (j + 1), by omega, j + 1, E1, c, by omega, by omega, rfl, rfl, by rw [htv1], hEl1, fun x hx => (hdone1 x hx).mono hM1, ⟨hc1, by rw [htl]; exact hc2, hc3.mono hM1⟩, hrest1, rfl⟩
    · have hjk' : j = S.length + 1 := by have := of_decide_eq_false hge1; omega
      subst hjk'
      have hwi : IntKind.i64.wrap ((i : Int) + 1) = ((i + 1 : Nat) : Int) := by rw [wrap64 (by omega) (by omega)]; rfl
      rw [hwi]
      refine ⟨by trivial, S.length + 1 - (i + 1), by omega, i + 1, E1, by omega, rfl, rfl, rfl, hEl1, ?_, fun x h1 h2 => hrest1 x (by omega) h2, rfl⟩
      intro x hx
      by_cases e : x = i
      · subst e; exact ⟨c, hc1, hc2, hc3⟩
      · exact hdone1 x (by omega)
  · have hii : i = S.length + 1 := by have := of_decide_eq_false hge; omega
    subst hii
    clear hrest hge hq4 hi'
    have hwk : IntKind.i64.wrap (((S.length + 1 : Nat) : Int) + 4) = ((S.length + 1 + 4 : Nat) : Int) := by rw [wrap64 (by omega) (by omega)]; rfl
    rw [hwk]
    refine ⟨RoundsI (t.M S) (S.length + 1), ⟨_, 0, [], none, 0, by omega, rfl, rfl, ⟨.inl rfl, by simp, rfl⟩, rfl⟩, ?_⟩
    rintro a8 n8 c8 z8 a9 n9 c9 m5 q5 hm5 ⟨c, F, fa, fc, hc, hxs, htv, hF, hq5⟩
    simp only [List.cons.injEq, Value.slice.injEq, Value.int.injEq, true_and, and_true] at hxs htv
    obtain ⟨⟨rfl, rfl, rfl⟩, rfl⟩ := hxs
    obtain ⟨rfl, rfl, rfl⟩ := htv
    refine br_intro (fun hlt => ?_) (fun hge => ?_)
    · have hc2 : n9 < S.length + 1 + 4 := by have := of_decide_eq_true hlt; omega
      refine ⟨⟨by omega, by omega, by omega, by omega⟩, fun b3 => ⟨fun xs css tvs m' => css = [numsL (rowL (roundG (t.M S) n9 0) (S.length + 1))], ?_, ?_⟩⟩
      · have hz : ∀ x, roundG (t.M S) n9 0 x = (decide (n9 = 0) && decide (x = 0)) := fun x => by
          unfold roundG
          by_cases e : n9 = 0
          · simp [e]
          · rw [if_neg e]; simp [e]
        rw [zeros]
        refine br_intro (fun he => ⟨⟨by omega, by omega⟩, ?_⟩) (fun hne => ?_)
        · have he : n9 = 0 := by have := eq_of_beq he; omega
          refine store_one (i := 0) (cs := numsL (rowL (fun _ => false) (S.length + 1))) (n := S.length + 1) (P := fun l => True ∧ True ∧ ([l] : List (List Value)) = [numsL (rowL (roundG (t.M S) n9 0) (S.length + 1))]) (by rw [numsL_len, rowL_len]) (by omega) ⟨trivial, trivial, ?_⟩
          have hst := rowL_set (fun _ => false) (n := S.length + 1) (j := 0) (by omega) true
          rw [if_pos rfl] at hst
          rw [show (Value.int .i64 1) = .int .i64 ((1 : Nat) : Int) from rfl, numsL_set, hst]
          congr 2
          refine rowL_congr fun x hx => ?_
          rw [hz, he]; simp
        · have hne : n9 ≠ 0 := fun e => by subst e; simp at hne
          refine ⟨trivial, trivial, ?_⟩
          show ([numsL (rowL (fun _ => false) (S.length + 1))] : List (List Value)) = [numsL (rowL (roundG (t.M S) n9 0) (S.length + 1))]
          congr 2
          refine rowL_congr fun x hx => ?_
          rw [hz]; simp [hne]
      rintro cs1 m6 hm6 hJ
      obtain rfl : cs1 = numsL (rowL (roundG (t.M S) n9 0) (S.length + 1)) := by simpa using hJ
      clear hJ
      refine ⟨RowI (t.M S) (S.length + 1) n9, ⟨_, 0, by omega, rfl, rfl, rfl⟩, ?_⟩
      rintro i0 cs2 m7 q7 hm7 ⟨i, hik, hxs, hcss, hq7⟩
      obtain rfl : i0 = i := by simpa using hxs
      obtain rfl : cs2 = numsL (rowL (roundG (t.M S) n9 i) (S.length + 1)) := by simpa using hcss
      have h57 : m5.le m7 := Mem.le_trans hm6 hm7
      have h37 := Mem.le_trans hm4 (Mem.le_trans hm5 h57)
      refine ⟨decide (n9 ≠ 0) && decide (i < S.length + 1), ?_, br_intro (fun hgo => ?_) (fun hstop => ?_)⟩
      · refine br_intro (fun h => ?_) (fun h => ?_)
        · have : n9 ≠ 0 := by have := of_decide_eq_true h; omega
          have e : decide (((i : Nat) : Int) < ((S.length + 1 : Nat) : Int)) = decide (i < S.length + 1) := decide_eq_decide.2 (by omega)
          rw [e]; simp [this]
        · have : n9 = 0 := by have := of_decide_eq_false h; omega
          simp [this]
      · simp only [Bool.and_eq_true, decide_eq_true_eq] at hgo
        obtain ⟨hn0, hik2⟩ := hgo
        obtain ⟨q, hq1, hq2, hq3⟩ := (hdone i hik2).mono (Mem.le_trans hm5 h57)
        refine ⟨⟨by omega, by omega⟩, look_intro (v := q.v) (show (E.map Str.v)[_]? = some q.v by rw [List.getElem?_map, Nat.mul_one, Int.toNat_natCast, hq1]; rfl) (chk_intro rfl ?_)⟩
        have hql : q.2.1.length ≤ S.length + 1 := by rw [hq2]; exact toL_len _ _ _
        refine ⟨StepI (t.M S) (S.length + 1) n9 i, ⟨_, 0, by omega, rfl, by rw [stRow_zero], rfl⟩, ?_⟩
        rintro p0 cs3 m8 q8 hm8 ⟨p, hpl, hxs, hcss, hq8⟩
        obtain rfl : p0 = p := by simpa using hxs
        obtain rfl : cs3 = numsL (rowL (stepR (t.M S) n9 i (S.length + 1) p) (S.length + 1)) := by simpa using hcss
        refine br_intro (fun hlt3 => chk_intro rfl ?_) (fun hge3 => ?_)
        · have hp2 : p < (toL (t.M S) i (S.length + 1)).length := by
            have := of_decide_eq_true hlt3
            simp only [Str.v, slN, hq2] at this
            omega
          obtain ⟨j, hj⟩ := at_some hp2
          have hll := toL_len (t.M S) i (S.length + 1)
          have hjk : j < S.length + 1 := (toL_mem.1 (List.mem_of_getElem? hj)).1
          have hwp : IntKind.i64.wrap ((p : Int) + 1) = ((p + 1 : Nat) : Int) := by rw [wrap64 (by omega) (by omega)]; rfl
          have hwc : IntKind.i64.wrap ((n9 : Int) - 1) = ((n9 - 1 : Nat) : Int) := by rw [wrap64 (by omega) (by omega)]; omega
          simp only [hwp, hwc, Int.toNat_natCast, Nat.mul_one]
          rcases hq3.mono hm8 with h | ⟨bb, oo, h1, h2⟩
          · rw [hq2] at h
            rw [show toL (t.M S) i (S.length + 1) = [] by simpa [numsL] using h] at hj; simp at hj
          rw [hq2] at h2
          have h58 := Mem.le_trans h57 hm8
          obtain ⟨rb, ro, rx, rcc, hra, hrv, hrl⟩ := (hF.mono h58).get (i := n9 - 1) (by omega)
          rcases hrl with h | ⟨rb2, ro2, hra2, hrr⟩
          · exfalso
            have := congrArg List.length h
            rw [numsL_len] at this
            unfold powF at this
            rw [rowL_len] at this
            cases this
          refine ⟨bb, oo, h1, ⟨by omega, by show (p : Int) < ((q.2.1.length : Nat) : Int); rw [hq2]; exact Int.ofNat_lt.2 hp2⟩, _, h2 p (.int .i64 j) (by rw [numsL, List.getElem?_map, hj]; rfl), chk_intro rfl ⟨⟨by simp [RowKit.intOf], by simp [RowKit.intOf]; omega⟩, ?_⟩⟩
          have hja : RowKit.intOf (.int .i64 (j : Int)) = (j : Int) := rfl
          simp only [hja, Int.toNat_natCast, Nat.mul_one]
          have hg : (numsL (rowL (stepR (t.M S) n9 i (S.length + 1) p) (S.length + 1)))[j]? = some (.int .i64 ((if stepR (t.M S) n9 i (S.length + 1) p j then 1 else 0 : Nat) : Int)) := by
            rw [numsL, List.getElem?_map, rowL_get _ hjk]; rfl
          have hpw : (numsL (powF (t.M S) (S.length + 1) (n9 - 1)))[i]? = some (.int .i64 ((if powB (t.M S) (n9 - 1) i then 1 else 0 : Nat) : Int)) := by
            rw [numsL, List.getElem?_map]
            unfold powF
            rw [rowL_get _ hik2]; rfl
          have hso := stRow_one (t.M S) n9 i (S.length + 1) p j hj hjk
          generalize powB (t.M S) (n9 - 1) i = pb at *
          generalize stepR (t.M S) n9 i (S.length + 1) p j = sb at *
          refine look_intro hg ⟨rb, ro, hra, ⟨by omega, by omega⟩, _, hrv, chk_intro rfl ⟨rb2, ro2, hra2, ⟨by omega, ?_⟩, _, hrr i _ hpw, chk_intro rfl (chk_intro rfl ⟨⟨by omega, by omega⟩, ?_⟩)⟩⟩
          · show (i : Int) < (((powF (t.M S) (S.length + 1) (n9 - 1)).length : Nat) : Int)
            unfold powF
            rw [rowL_len]; omega
          have hmx : (if RowKit.intOf (.int .i64 ((if pb = true then 1 else 0 : Nat) : Int)) > RowKit.intOf (.int .i64 ((if sb = true then 1 else 0 : Nat) : Int)) then RowKit.intOf (.int .i64 ((if pb = true then 1 else 0 : Nat) : Int)) else RowKit.intOf (.int .i64 ((if sb = true then 1 else 0 : Nat) : Int))) = ((if (pb || sb) = true then 1 else 0 : Nat) : Int) := by
            cases pb <;> cases sb <;> rfl
          rw [hmx]
          have hst := store_one (i := j) (cs := numsL (rowL (stepR (t.M S) n9 i (S.length + 1) p) (S.length + 1))) (n := S.length + 1) (v := .int .i64 ((if (pb || sb) = true then 1 else 0 : Nat) : Int)) (P := fun l => True ∧ True ∧ ∃ n' : Nat, n' < q8 ∧ StepI (t.M S) (S.length + 1) n9 i [.int .i64 ((p + 1 : Nat) : Int)] [l] [] m8 n') (by rw [numsL_len, rowL_len]) hjk (by
            rw [numsL_set, hso]
            exact ⟨trivial, trivial, (toL (t.M S) i (S.length + 1)).length - (p + 1), by omega, p + 1, by omega, rfl, rfl, rfl⟩)
          simpa only [Nat.mul_one] using hst
        · have hp2 : p = (toL (t.M S) i (S.length + 1)).length := by
            have := of_decide_eq_false hge3
            simp only [Str.v, slN, hq2] at this
            omega
          subst hp2
          have hwi : IntKind.i64.wrap ((i : Int) + 1) = ((i + 1 : Nat) : Int) := by rw [wrap64 (by omega) (by omega)]; rfl
          rw [hwi, stRow_end hn0]
          exact ⟨trivial, trivial, S.length + 1 - (i + 1), by omega, i + 1, by omega, rfl, rfl, rfl⟩
      · have hend : n9 = 0 ∨ i = S.length + 1 := by
          simp only [Bool.and_eq_false_iff, decide_eq_false_iff_not] at hstop
          omega
        rw [round_end hfw hend]
        intro b5 hf5 m8 hm8 hrd
        have hle5 := Mem.le_add hf5 [.slice (some ⟨b3, 0, none⟩) (S.length + 1) (S.length + 1)]
        have h58 : m5.le m8 := Mem.le_trans h57 (Mem.le_trans hle5 hm8)
        have hF8 := hF.mono h58
        have hFl := hF.len
        have hpl : (powF (t.M S) (S.length + 1) n9).length = S.length + 1 := by unfold powF; rw [rowL_len]
        have hw : IntKind.i64.wrap ((n9 : Int) + 1) = ((n9 + 1 : Nat) : Int) := by rw [wrap64 (by omega) (by omega)]; rfl
        rw [hw]
        refine ⟨.inl rfl, F.map Str.v, [.slice (some ⟨b3, 0, none⟩) (S.length + 1) (S.length + 1)], by simp [hFl], rfl, hF8.1, .inr ⟨b5, 0, rfl, fun j v hj => hm8 _ _ _ (by rw [Nat.zero_add, Mem.add_same]; exact hj)⟩, by intro u hu; simp at hu; subst hu; rfl, by omega, by omega, fun a5 c5 m9 hm9 hrow9 => ?_⟩
        refine ⟨trivial, S.length + 1 + 4 - (n9 + 1), by omega, n9 + 1, F ++ [(some ⟨b3, 0, none⟩, powF (t.M S) (S.length + 1) n9, S.length + 1)], a5, c5, by omega, rfl, rfl, ⟨?_, ?_, ?_⟩, rfl⟩
        · rw [List.map_append]
          have : Str.v (some ⟨b3, 0, none⟩, powF (t.M S) (S.length + 1) n9, S.length + 1) = .slice (some ⟨b3, 0, none⟩) (S.length + 1) (S.length + 1) := by unfold Str.v; rw [hpl]
          rw [List.map_singleton, this]
          exact hrow9
        · intro q hq
          rcases List.mem_append.1 hq with hq | hq
          · exact (hF8.2.1 q hq).mono hm9
          · simp at hq; subst hq
            exact .inr ⟨b3, 0, rfl, fun j v hj => hm9 _ _ _ (hrd j v hj)⟩
        · rw [List.map_append, hF.2.2, List.range_succ, List.map_append]; rfl
    · have hcc : n9 = S.length + 1 + 4 := by have := of_decide_eq_false hge; omega
      subst hcc
      clear hc hge hq5
      have h35 := Mem.le_trans hm4 hm5
      refine ⟨fun xs css tvs m' q => ∃ i : Nat, i ≤ S.length + 1 ∧ xs = [.bool (cutB (t.M S) (u.M S) S.length i), .int .i64 i] ∧ q = S.length + 1 - i, ⟨_, 0, by omega, by simp [cutB], rfl⟩, ?_⟩
      rintro cb z m6 q6 hm6 ⟨i, hik, hxs, hq6⟩
      simp only [List.cons.injEq, Value.bool.injEq, Value.int.injEq, true_and, and_true] at hxs
      obtain ⟨rfl, rfl⟩ := hxs
      have h36 := Mem.le_trans h35 hm6
      refine br_intro (fun hlt => ?_) (fun hge => ?_)
      · have hi2 : i ≤ S.length := by have := of_decide_eq_true hlt; omega
        have hwi : IntKind.i64.wrap ((i : Int) + 1) = ((i + 1 : Nat) : Int) := by rw [wrap64 (by omega) (by omega)]; rfl
        simp only [hwi, Int.toNat_natCast]
        have hA : T.matches t ((S.drop 0).take (i - 0)) = true ↔ t.M S 0 i := by
          rw [matches_iff ht (by simp; omega)]
          exact sub_M hgood (by omega) hi2
        have hB : T.matches u ((S.drop i).take (S.length - i)) = true ↔ u.M S i S.length := by
          rw [matches_iff ht2 (by simp; omega)]
          exact sub_M hgood2 hi2 (by omega)
        have hcs := cutB_succ hA hB
        have c1 := cx_matches13 t (slBase (slBase sa 0 sc 1) 0 sc 1) ((S.drop 0).take (i - 0)) (sc - 0) m6 (hr.mono h36) ht (by simp; omega) (byt_drop (hS.mono h36) 0 i sc (by omega) (by omega) (by omega))
        rw [show ((S.drop 0).take (i - 0)).length = i - 0 by simp; omega] at c1
        have c2 := fun (m7 : Mem) (h : m6.le m7) => cx_matches13 u (slBase (slBase sa 0 sc 1) i sc 1) ((S.drop i).take (S.length - i)) (sc - i) m7 (hr2.mono (Mem.le_trans h36 h)) ht2 (by simp; omega) (byt_drop (hS.mono (Mem.le_trans h36 h)) i S.length sc (by omega) (by omega) (by omega))
        rw [show ((S.drop i).take (S.length - i)).length = S.length - i by simp] at c2
        generalize T.matches t ((S.drop 0).take (i - 0)) = A at *
        generalize T.matches u ((S.drop i).take (S.length - i)) = B at *
        have fin : ∀ (M : Mem) (b' : Bool), b' = (cutB (t.M S) (u.M S) S.length i || (A && B)) → ∃ n' : Nat, n' < q6 ∧ ∃ i' : Nat, i' ≤ S.length + 1 ∧ ([.bool b', .int .i64 ((i + 1 : Nat) : Int)] : List Value) = [.bool (cutB (t.M S) (u.M S) S.length i'), .int .i64 i'] ∧ n' = S.length + 1 - i' := fun M b' hb' => ⟨S.length + 1 - (i + 1), by omega, i + 1, by omega, by rw [hcs, hb'], rfl⟩
        refine ⟨fun k _ _ => bif Nat.beq k 6 then Ret (.bool A) else Ret (.bool B), br_intro (fun hb M _ _ _ => ?_) (fun hb => ⟨⟨by omega, by omega⟩, _, rfl, c1, (fun v _ _ e => by rw [e]; rfl), ?_⟩)⟩
        · rw [hb] at fin
          exact ⟨trivial, trivial, fin M true rfl⟩
        intro bA m7 hm7 hbA
        have hbA : Ret (.bool A) (.bool bA) m7 [] := hbA
        have hbA : bA = A := by simpa [Ret] using hbA
        subst hbA
        rw [hb] at fin
        refine br_intro (fun hA1 => ⟨⟨by omega, by omega⟩, _, rfl, c2 m7 hm7, (fun v _ _ e => by rw [e]; rfl), ?_⟩) (fun hA0 M _ _ _ => ⟨trivial, trivial, fin M false (by rw [hA0]; rfl)⟩)
        intro bB m8 hm8 hbB M _ _ _
        have hbB : Ret (.bool B) (.bool bB) m8 [] := hbB
        have hbB : bB = B := by simpa [Ret] using hbB
        subst hbB
        exact ⟨trivial, trivial, fin M bB (by rw [hA1]; rfl)⟩
      · have hii : i = S.length + 1 := by have := of_decide_eq_false hge; omega
        subst hii
        clear hge hq6 hik
        have hlo3 := tmod_small (a := lo) (b := 3) (by omega) (by omega)
        have hhi4 := tmod_small (a := hi) (b := 4) (by omega) (by omega)
        have hl3 : lo % 3 < 3 := Nat.mod_lt _ (by omega)
        have hh4 : hi % 4 < 4 := Nat.mod_lt _ (by omega)
        have hlo3 : IntKind.i64.wrap (Int.tmod (lo : Int) 3) = ((lo % 3 : Nat) : Int) := hlo3
        have hhi4 : IntKind.i64.wrap (Int.tmod (hi : Int) 4) = ((hi % 4 : Nat) : Int) := hhi4
        have hwL : IntKind.i64.wrap (((S.length + 1 : Nat) : Int) - 1) = (S.length : Int) := by rw [wrap64 (by omega) (by omega)]; omega
        simp only [hlo3, hhi4, hwL]
        generalize lo % 3 = lo at *
        generalize hi % 4 = hi at *
        refine ⟨by omega, by omega, fun xs css tvs m' q => ∃ c : Nat, c ≤ S.length + 1 + 4 ∧ xs = [.bool (timesB (t.M S) lo hi S.length c), .int .i64 c] ∧ q = S.length + 1 + 4 - c, ⟨_, 0, by omega, by simp [timesB], rfl⟩, ?_⟩
        rintro tb z m7 q7 hm7 ⟨c, hck, hxs, hq7⟩
        simp only [List.cons.injEq, Value.bool.injEq, Value.int.injEq, true_and, and_true] at hxs
        obtain ⟨rfl, rfl⟩ := hxs
        have h37 := Mem.le_trans h36 hm7
        refine br_intro (fun hlt => ?_) (fun hge => ?_)
        · have hc2 : c < S.length + 1 + 4 := by have := of_decide_eq_true hlt; omega
          have hwi : IntKind.i64.wrap ((c : Int) + 1) = ((c + 1 : Nat) : Int) := by rw [wrap64 (by omega) (by omega)]; rfl
          simp only [hwi, Int.toNat_natCast, Nat.mul_one]
          obtain ⟨rb, ro, rx, rcc, hra, hrv, hrl⟩ := (hF.mono (Mem.le_trans hm6 hm7)).get (i := c) (by omega)
          rcases hrl with h | ⟨rb2, ro2, hra2, hrr⟩
          · exfalso
            have := congrArg List.length h
            rw [numsL_len] at this
            unfold powF at this
            rw [rowL_len] at this
            cases this
          have hpw : (numsL (powF (t.M S) (S.length + 1) c))[S.length]? = some (.int .i64 ((if powB (t.M S) c S.length then 1 else 0 : Nat) : Int)) := by
            rw [numsL, List.getElem?_map]
            unfold powF
            rw [rowL_get _ (by omega)]; rfl
          have hts := timesB_succ (R := t.M S) (lo := lo) (hi := hi) (n := S.length) (c := c)
          refine ⟨rb, ro, hra, ⟨by omega, by omega⟩, _, hrv, timesB (t.M S) lo hi S.length (c + 1), ?_, trivial, trivial, S.length + 1 + 4 - (c + 1), by omega, c + 1, by omega, rfl, rfl⟩
          rw [hts]
          generalize timesB (t.M S) lo hi S.length c = T1 at *
          refine br_intro (fun h => ⟨trivial, trivial, by rw [h]; rfl⟩) (fun h => chk_intro rfl ⟨rb2, ro2, hra2, ⟨by omega, ?_⟩, _, hrr S.length _ hpw, chk_intro rfl ?_⟩)
          · show (S.length : Int) < (((powF (t.M S) (S.length + 1) c).length : Nat) : Int)
            unfold powF
            rw [rowL_len]; omega
          rw [h]
          generalize powB (t.M S) c S.length = pb at *
          have e1 : decide ((c : Int) ≥ (lo : Int)) = decide (lo ≤ c) := decide_eq_decide.2 (by omega)
          have e2 : ((hi : Int) == 0) = decide (hi = 0) := by
            rw [Bool.eq_iff_iff]; simp
          have e3 : decide ((c : Int) ≤ (hi : Int)) = decide (c ≤ hi) := decide_eq_decide.2 (by omega)
          rw [e1, e2, e3]
          cases pb with
          | false => exact br_f rfl ⟨trivial, trivial, rfl⟩
          | true =>
            refine br_t rfl (br_intro (fun h => br_intro (fun h2 => ⟨trivial, trivial, by rw [h, h2]; rfl⟩) (fun h2 => ⟨trivial, trivial, by rw [h, h2]; simp⟩)) (fun h => ⟨trivial, trivial, by rw [h]; rfl⟩))
        · have hcc : c = S.length + 1 + 4 := by have := of_decide_eq_false hge; omega
          subst hcc
          refine ⟨fun xs css tvs m' => xs = [.int .i64 (if hi = 0 then -1 else (hi : Int))], ?_, ?_⟩
          · refine br_intro (fun h => ?_) (fun h => ?_)
            · have h : hi = 0 := by have := eq_of_beq h; omega
              exact ⟨trivial, trivial, by rw [if_pos h]⟩
            · have h : hi ≠ 0 := fun e => by subst e; simp at h
              exact ⟨trivial, trivial, by rw [if_neg h]⟩
          rintro z m8 hm8 hJ
          obtain rfl : z = (if hi = 0 then -1 else (hi : Int)) := by simpa using hJ
          clear hJ
          have h38 := Mem.le_trans h37 hm8
          have hr8 := hr.mono h38
          have hu8 := hr2.mono h38
          have hcl := check_clean ht
          have hcl2 := check_clean ht2
          have hboth : ∀ x ∈ [t, u], x.clean = true := by
            intro x hx
            simp at hx
            rcases hx with rfl | rfl
            · exact hcl
            · exact hcl2
          have hpair : ∀ (M : Mem) (b5 : Nat), m8.le M → (∀ j v, (Rx.cellsL [t, u])[j]? = some v → M b5 j = some v) → RepL M (some ⟨b5, 0, none⟩) [t, u] := fun M b5 hle h => repL_of (.inr ⟨b5, 0, rfl, fun j v hj => by rw [Nat.zero_add]; exact h j v hj⟩) (by
            intro x hx
            simp at hx
            rcases hx with rfl | rfl
            · exact hr8.mono hle
            · exact hu8.mono hle) (by simp)
          refine ⟨fun k _ _ => bif Nat.beq k 3 then TreeR (fun t' => ∃ a c, Join 4 a c T0 (flatL 4 0 [t, u]) t') else bif Nat.beq k 7 then TreeR (fun t' => ∃ a c, Join 3 a c T1 (flatL 3 1 [t, u]) t') else bif Nat.beq k 11 then TreeR (Timed t lo (if hi = 0 then -1 else (hi : Int))) else TreeR (fun t' => ∃ a c, Chkd (nodeT 6 0 0 a c [t]) t'), fun b5 hf5 => ⟨_, rfl, cx_Or [t, u] (some ⟨b5, 0, none⟩) 2 _ (hpair _ b5 (Mem.le_add hf5 _) (fun j v hj => by rw [Mem.add_same]; exact hj)) (by simp) hboth, tree_fits, tree_k fun w1 m9 hm9 hw1 hj1 b6 hf6 V hV1 hV2 hV3 => ?_⟩⟩
          refine ⟨_, rfl, cx_Seq [t, u] (some ⟨b6, 0, none⟩) 2 _ (hpair _ b6 hV1 (fun j v hj => hV3 _ _ _ (by rw [Mem.add_same]; exact hj))) (by simp) hboth, tree_fits, tree_k fun w2 m10 hm10 hw2 hj2 => ?_⟩
          have h10 : m8.le m10 := Mem.le_trans hV1 hm10
          refine ⟨_, rfl, cx_Times t lo _ m10 (hr8.mono h10) hcl, tree_fits, tree_k fun w3 m11 hm11 hw3 hj3 => ?_⟩
          refine ⟨_, rfl, cx_Capture t m11 (hr8.mono (Mem.le_trans h10 hm11)), tree_fits, tree_k fun w4 m12 hm12 hw4 hj4 b7 hf7 M hM1 hM2 hM3 hM4 hM5 hM6 hM7 hM8 => ?_⟩
          have h9M : m9.le M := hM3
          have h0M : m8.le M := hM1
          have hw1 := hw1.mono hM3
          have hw2 := hw2.mono hM5
          have hw3 := hw3.mono hM6
          have hw4 := hw4.mono hM7
          have hSz : S.length ≤ 512 := by omega
          have hS8 := (hS.mono h38).mono h0M
          have hrM := hr8.mono h0M
          have huM := hu8.mono h0M
          obtain ⟨ja1, jc1, hj1⟩ := hj1
          obtain ⟨ja2, jc2, hj2⟩ := hj2
          obtain ⟨ja4, jc4, hj4⟩ := hj4
          have hd1 := fun hw => want_or ht ht2 hj1 hw hSz
          have hd2 := fun hw => want_seq ht hj2 hw hSz
          have hd3 := fun hw => want_times ht hl3 hh4 hj3 hw hSz
          have hd4 := fun hw => want_group ht hj4 hw hSz
          generalize cutB (t.M S) (u.M S) S.length (S.length + 1) = ct at *
          generalize timesB (t.M S) lo hi S.length (S.length + 1 + 4) = tm at *
          have cn := fun (m' : Mem) (h : M.le m') => cx_matches13 t (slBase sa 0 sc 1) S (sc - 0) m' (hrM.mono h) ht hSz (hS8.mono h)
          have cu := fun (m' : Mem) (h : M.le m') => cx_matches13 u (slBase sa 0 sc 1) S (sc - 0) m' (huM.mono h) ht2 hSz (hS8.mono h)
          generalize T.matches t S = nm at *
          generalize T.matches u S = um at *
          refine ⟨fun xs css tvs m' q => ∃ i : Nat, i ≤ 4 ∧ xs = [.int .i64 i] ∧ q = 4 - i, ⟨_, 0, by omega, rfl, rfl⟩, ?_⟩
          rintro z m13 q13 hm13 ⟨i, hi4, hxs, hq13⟩
          obtain rfl : z = i := by simpa using hxs
          refine br_intro (fun hlt => ?_) (fun hge => ⟨m13, Mem.le_trans h03 (Mem.le_trans h38 (Mem.le_trans h0M hm13)), Mem.le_refl _, by trivial⟩)
          have hi2 : i < 4 := by have := of_decide_eq_true hlt; omega
          have hwi : IntKind.i64.wrap ((i : Int) + 1) = ((i + 1 : Nat) : Int) := by rw [wrap64 (by omega) (by omega)]; rfl
          rw [hwi]
          obtain ⟨w, want, hcs, hwr, hlk, hwd⟩ : ∃ (w : T) (want : Bool), List.take 8 (List.drop (Int.toNat (i : Int) * 8) (w1.cs ++ (w2.cs ++ (w3.cs ++ w4.cs)))) = w.cs ∧ Rep M w ∧ ([.bool (nm || um), .bool ct, .bool tm, .bool nm] : List Value)[Int.toNat (i : Int) * 1]? = some (.bool want) ∧ (w.check = 0 → T.matches w S = want) := by
            rcases (show i = 0 ∨ i = 1 ∨ i = 2 ∨ i = 3 by omega) with rfl | rfl | rfl | rfl
            · exact ⟨w1, _, rfl, hw1, rfl, hd1⟩
            · exact ⟨w2, _, rfl, hw2, rfl, hd2⟩
            · exact ⟨w3, _, rfl, hw3, rfl, hd3⟩
            · exact ⟨w4, _, rfl, hw4, rfl, hd4⟩
          have hcs : List.take 8 (List.drop (Int.toNat (i : Int) * 8) (X8_law13_DenoteParts w1.k w1.s0 w1.s1 w1.s2 w1.s3 w1.mn w1.mx w1.a w1.subs.length w1.c w2.k w2.s0 w2.s1 w2.s2 w2.s3 w2.mn w2.mx w2.a w2.subs.length w2.c w3.k w3.s0 w3.s1 w3.s2 w3.s3 w3.mn w3.mx w3.a w3.subs.length w3.c w4.k w4.s0 w4.s1 w4.s2 w4.s3 w4.mn w4.mx w4.a w4.subs.length w4.c)) = w.cs := hcs
          rw [hcs]
          refine ⟨⟨by omega, by omega⟩, chk_intro (Nat.ble_eq_true_of_le (by omega)) fun b8 => chk_intro rfl (chk_intro rfl ?_)⟩
          refine call_int (cx_Check false false w m13 (hwr.mono hm13)) fun m14 hm14 => br_intro (fun hbad => ⟨by trivial, by trivial, 4 - (i + 1), by omega, i + 1, by omega, rfl, rfl⟩) (fun hok => ?_)
          have hw0 : w.check = 0 := by simpa using hok
          have hwd := hwd hw0
          have hM14 := Mem.le_trans hm13 hm14
          have cw := fun (m' : Mem) (h : M.le m') => cx_matches13 w (slBase sa 0 sc 1) S (sc - 0) m' (hwr.mono h) hw0 hSz (hS8.mono h)
          rw [hwd] at cw
          refine ⟨fun k _ _ => bif Nat.beq k 6 then Ret (.bool um) else Ret (.bool nm), _, rfl, cn m14 hM14, (fun v _ _ e => by rw [e]; rfl), ?_⟩
          intro bA m15 hm15 hbA
          have hbA : Ret (.bool nm) (.bool bA) m15 [] := hbA
          have hbA : bA = nm := by simpa [Ret] using hbA
          subst hbA
          refine br_intro (fun hA => ?_) (fun hA => ?_)
          · refine ⟨_, rfl, cn m15 (Mem.le_trans hM14 hm15), (fun v _ _ e => by rw [e]; rfl), ?_⟩
            intro bB m16 hm16 hbB b9 hf9
            have hbB : Ret (.bool bA) (.bool bB) m16 [] := hbB
            have hbB : bB = bA := by simpa [Ret] using hbB
            subst hbB
            rw [hA, Bool.true_or] at hlk
            rw [hA]
            refine ⟨⟨by omega, by omega⟩, look_intro hlk fun N hN1 hN2 hN3 hN4 hN5 => ?_⟩
            refine call_bool (cw N (Mem.le_trans hM14 hN1)) fun m17 hm17 => chk_intro rfl (br_f (by cases want <;> rfl) ⟨by trivial, by trivial, 4 - (i + 1), by omega, i + 1, by omega, rfl, rfl⟩)
          · refine ⟨_, rfl, cu m15 (Mem.le_trans hM14 hm15), (fun v _ _ e => by rw [e]; rfl), ?_⟩
            intro bB m16 hm16 hbB
            have hbB : Ret (.bool um) (.bool bB) m16 [] := hbB
            have hbB : bB = um := by simpa [Ret] using hbB
            subst hbB
            refine ⟨_, rfl, cn m16 (Mem.le_trans (Mem.le_trans hM14 hm15) hm16), (fun v _ _ e => by rw [e]; rfl), ?_⟩
            intro bC m17 hm17 hbC b9 hf9
            have hbC : Ret (.bool bA) (.bool bC) m17 [] := hbC
            have hbC : bC = bA := by simpa [Ret] using hbC
            subst hbC
            rw [hA, Bool.false_or] at hlk
            rw [hA]
            refine ⟨⟨by omega, by omega⟩, look_intro hlk fun N hN1 hN2 hN3 hN4 hN5 => ?_⟩
            refine call_bool (cw N (Mem.le_trans hM14 hN1)) fun m18 hm18 => chk_intro rfl (br_f (by cases want <;> rfl) ⟨by trivial, by trivial, 4 - (i + 1), by omega, i + 1, by omega, rfl, rfl⟩)
end Go.Proofs.Ythiefodednaikaa

