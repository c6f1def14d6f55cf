/- Part of the proof: conditions and contracts of functions of this program. No condition of its own. -/
import Derived.Test.YtmggihkjgbnhbaaPVP
import Derived.Test.YtmggihkjgbnhbaaPC13X
import Derived.Test.YtmggihkjgbnhbaaMr
set_option linter.unusedVariables false
set_option linter.unusedSimpArgs false
set_option linter.unusedSectionVars false
namespace Go.Proofs.Ytmggihkjgbnhbaa
open Go Go.Eng Go.Rx Go.Proofs Go.RowKit
set_option maxRecDepth 100000
theorem rep_T0 (m : Mem) : Rep m T0 := rep_node_mk (k := 0) (mn := 0) (mx := 0) (a := none) (c := 0) (l := []) ⟨by simp, .inl rfl⟩ (by omega) (by omega) (by omega)
theorem rep_T1 (m : Mem) : Rep m T1 := rep_node_mk (k := 1) (mn := 0) (mx := 0) (a := none) (c := 0) (l := []) ⟨by simp, .inl rfl⟩ (by omega) (by omega) (by omega)
theorem cx_good (t : T) (m : Mem) (hr : Rep m t) (hc : t.clean = true) : CX Try.prog 35 #[t.v] m [] (Ret (.bool true)) := by
 apply cx_rx_good
 unfold VC_rx_good
 intro b m1 hm1 _
 refine ⟨true, call_bool (cx_same t T0 m1 (hr.mono hm1) (rep_T0 _)) fun m2 hm2 => br_intro (fun _ => ⟨by trivial, rfl⟩) (fun _ => ?_), ret_pure hm1 rfl⟩
 have h := cx_Clean t m2 (hr.mono (Mem.le_trans hm1 hm2))
 rw [hc] at h
 exact call_bool h fun m3 hm3 => ⟨by trivial, rfl⟩
theorem cx_checked (t : T) (m : Mem) (hr : Rep m t) : CX Try.prog 44 #[t.v] m [] (TreeR (Chkd t)) := by
 apply cx_rx_checked
 unfold VC_rx_checked
 intro b m1 hm1 _ b1
 refine call_bool (cx_Clean t m1 (hr.mono hm1)) fun m2 hm2 => br_intro (fun h => ?_) (fun h => ?_)
 ·exact ⟨m2, Mem.le_trans hm1 hm2, Mem.le_refl _, T0, rfl, rep_T0 _, .inr ⟨by simpa using h, rfl⟩, caps_T0⟩
 ·have hc : t.clean = true := by simpa using h
  refine call_any (cx_copied t m2 (hr.mono (Mem.le_trans hm1 hm2)) (clean_light hc)) tree_fits (tree_k fun t' m3 hm3 hr' ht' => ?_)
  exact ⟨m3, Mem.le_trans hm1 (Mem.le_trans hm2 hm3), Mem.le_refl _, t', rfl, hr', .inl ⟨hc, ht'.1⟩, ht'.2⟩
theorem cx_flat (k w : Int) (L : List T) (a : Option Addr) (c : Nat) (m : Mem) (hL : RepL m a L) (hl : L.length ≤ 1000) (hs : ∀ x ∈ L, x.subs.length ≤ 10000) : CX Try.prog 34 #[.int .u8 k, .int .u8 w, .slice a L.length c] m [] (fun v m' _ => ∃ a' c', v = .slice a' (flatL k w L).length c' ∧ RepL m' a' (flatL k w L)) := by
 apply cx_rx_flat
 unfold VC_rx_flat
 have hrow := row_of_repL hL
 have hreps := repL_reps hL
 have hfl : ∀ i, (flatL k w (L.take i)).length ≤ 10001000 := fun i => by
  have := flatL_len k w (L.take i) fun x hx => hs x (List.mem_of_mem_take hx)
  have h2 : (L.take i).length ≤ 1000 := by rw [List.length_take]; omega
  omega
 refine ⟨fun xs css tvs m' q => ∃ (i : Nat) (a : Option Addr) (c : Nat), i ≤ L.length ∧ xs = [.slice a (flatL k w (L.take i)).length c, .int .i64 i] ∧ tvs = [.slice a (flatL k w (L.take i)).length c] ∧ rowRd m' a (Rx.cellsL (flatL k w (L.take i))) ∧ q = L.length - i, ⟨_, 0, none, 0, by omega, rfl, rfl, .inl rfl, rfl⟩, ?_⟩
 rintro a1 n1 c1 z a2 n2 c2 m1 q hm1 ⟨i, a', c', hi, hxs, htv, hrow1, hq⟩
 simp only [List.cons.injEq, Value.slice.injEq, Value.int.injEq, true_and, and_true] at hxs htv
 obtain ⟨⟨rfl, rfl, rfl⟩, rfl⟩ := hxs
 obtain ⟨rfl, rfl, rfl⟩ := htv
 refine br_intro (fun hlt => ?_) (fun hge => ?_)
 ·have hlt' : i < L.length := by have := of_decide_eq_true hlt; omega
  obtain ⟨x, hx⟩ := at_some hlt'
  obtain ⟨b0, o0, ha0, hrd⟩ := row_get (hrow.mono hm1) hx
  have hxr := (hreps x (List.mem_of_getElem? hx)).mono hm1
  have hxs := hs x (List.mem_of_getElem? hx)
  have hw : IntKind.i64.wrap ((i : Int) + 1) = ((i + 1 : Nat) : Int) := by rw [wrap64 (by omega) (by omega)]; rfl
  have hstep := flatL_snoc k w (L.take i) x
  rw [← take_at hx] at hstep
  have hfi := hfl i
  simp only [hw, Int.toNat_natCast]
  refine ⟨b0, o0, ha0, ⟨by omega, by omega⟩, _, _, _, _, _, _, _, _, hrd, fun b3 => chk_intro rfl (chk_intro rfl (br_intro (fun hk => ?_) (fun hk => chk_intro rfl (br_intro (fun hw' => ?_) (fun hw' b4 hf4 => ?_)))))⟩
  ·have hk' : x.k = k := by simpa [RowKit.intOf] using hk
   have hf1 : flat1 k w x = x.subs := by unfold flat1; rw [if_pos hk']
   rw [hf1] at hstep
   refine chk_intro rfl ⟨.inl trivial, Rx.cellsL (flatL k w (L.take i)), Rx.cellsL x.subs, cellsL_len _, cellsL_len _, hrow1, row_of_repL hxr.subs, oneT _, ?_, ?_, fun a5 c5 m5 hm5 hrow5 => ⟨L.length - (i + 1), by omega, i + 1, a5, c5, by omega, ?_, ?_, ?_, rfl⟩⟩
   ·simp only [T.sl, slN]; omega
   ·simp only [T.sl, slN]; omega
   ·rw [hstep, List.length_append]; rfl
   ·rw [hstep, List.length_append]; rfl
   ·rw [hstep, cellsL_append]; exact hrow5
  ·have hk' : ¬ x.k = k := by simpa [RowKit.intOf] using hk
   have hw2 : x.k = w := by simpa [RowKit.intOf] using hw'
   have hf1 : flat1 k w x = [] := by unfold flat1; rw [if_neg hk', if_pos hw2]
   rw [hf1, List.append_nil] at hstep
   exact ⟨L.length - (i + 1), by omega, i + 1, a2, c2, by omega, by rw [hstep], by rw [hstep], by rw [hstep]; exact hrow1, rfl⟩
  ·have hk' : ¬ x.k = k := by simpa [RowKit.intOf] using hk
   have hw2 : ¬ x.k = w := by simpa [RowKit.intOf] using hw'
   have hf1 : flat1 k w x = [x] := by unfold flat1; rw [if_neg hk', if_neg hw2]
   rw [hf1] at hstep
   refine ⟨.inl trivial, Rx.cellsL (flatL k w (L.take i)), x.cs, cellsL_len _, rfl, hrow1.mono (Mem.le_add hf4 _), .inr ⟨b4, 0, rfl, fun j v hj => by rw [Nat.zero_add, Mem.add_same]; exact hj⟩, by have := oneT [x]; simpa [Rx.cellsL] using this, by omega, by omega, fun a5 c5 m5 hm5 hrow5 => ⟨L.length - (i + 1), by omega, i + 1, a5, c5, by omega, ?_, ?_, ?_, rfl⟩⟩
   ·rw [hstep, List.length_append]; rfl
   ·rw [hstep, List.length_append]; rfl
   ·rw [hstep, cellsL_snoc]; exact hrow5
 ·have hii : i = L.length := by have := of_decide_eq_false hge; omega
  subst hii
  rw [List.take_length] at hrow1 ⊢
  have hfi := hfl L.length
  rw [List.take_length] at hfi
  refine ⟨m1, hm1, Mem.le_refl _, a2, c2, rfl, repL_of hrow1 (fun t ht => ?_) (by omega)⟩
  simp only [flatL, List.mem_flatten, List.mem_map] at ht
  obtain ⟨_, ⟨x, hx, rfl⟩, ht⟩ := ht
  have hxr := (hreps x hx).mono hm1
  unfold flat1 at ht
  split at ht
  ·exact repL_reps hxr.subs t ht
  ·split at ht
   ·simp at ht
   ·simp at ht; subst ht; exact hxr
theorem cx_joined (k : Int) (hk : k = 3 ∨ k = 4) (a : Option Addr) (c : Nat) (l : List T) (u : T) (m : Mem) (hl : RepL m a l) (hu : Rep m u) (hll : l.length ≤ 1000000000) : CX Try.prog 33 #[.int .u8 k, .slice a l.length c, u.v] m [] (TreeR (Join k a c u l)) := by
 apply cx_rx_joined
 unfold VC_rx_joined
 intro b m1 hm1 _ b1
 have hrow := row_of_repL (hl.mono hm1)
 match l, hl, hll, hrow with
 | [], hl, hll, hrow => exact br_t rfl ⟨m1, hm1, Mem.le_refl _, u, rfl, hu.mono hm1, rfl⟩
 | [x], hl, hll, hrow =>
  refine br_f rfl (br_t rfl ?_)
  obtain ⟨b0, o0, ha0, hrd⟩ := row_get hrow (i := 0) (t := x) rfl
  refine ⟨b0, o0, ha0, ⟨by omega, by simp⟩, _, _, _, _, _, _, _, _, hrd, call_any (cx_checked x m1 ((repL_reps hl x (by simp)).mono hm1)) tree_fits (tree_k fun t' m2 hm2 hr' ht' => ?_)⟩
  exact ⟨m2, Mem.le_trans hm1 hm2, Mem.le_refl _, t', rfl, hr', ht'⟩
 | x :: y :: l, hl, hll, hrow =>
  refine br_f (by simp; omega) (br_f (by simp; omega) ?_)
  have hrn : Rep m1 (nodeT k 0 0 a c (x :: y :: l)) := rep_node_mk (hl.mono hm1) (by omega) (by omega) (by omega)
  refine call_any (cx_checked (nodeT k 0 0 a c (x :: y :: l)) m1 hrn) tree_fits (tree_k fun t' m2 hm2 hr' ht' => ?_)
  exact ⟨m2, Mem.le_trans hm1 hm2, Mem.le_refl _, t', rfl, hr', ht'⟩
theorem clean_subs {t : T} (h : t.clean = true) : t.subs.length ≤ 10000 := by
 have h1 := clean_light h
 rw [sz_eq] at h1
 have := len_szL t.subs
 omega
theorem cx_Or (L : List T) (a : Option Addr) (c : Nat) (m : Mem) (hL : RepL m a L) (hl : L.length ≤ 1000) (hc : ∀ x ∈ L, x.clean = true) : CX Try.prog 12 #[.slice a L.length c] m [] (TreeR fun t' => ∃ a c, Join 4 a c T0 (flatL 4 0 L) t') := by
 apply cx_rx_Or
 unfold VC_rx_Or
 intro b
 have hrow := row_of_repL hL
 have hreps := repL_reps hL
 refine ⟨fun xs css tvs m' q => ∃ i : Nat, i ≤ L.length ∧ xs = [.int .i64 i] ∧ q = L.length - i, ⟨_, 0, by omega, rfl, rfl⟩, ?_⟩
 rintro z cs m1 q hm1 ⟨i, hi, hxs, hq⟩
 obtain rfl : z = i := by simpa using hxs
 refine br_intro (fun hlt => ?_) (fun hge => ?_)
 ·have hlt' : i < L.length := by have := of_decide_eq_true hlt; omega
  obtain ⟨x, hx⟩ := at_some hlt'
  obtain ⟨b0, o0, ha0, hrd⟩ := row_get (hrow.mono hm1) hx
  have hxr := (hreps x (List.mem_of_getElem? hx)).mono hm1
  have hw : IntKind.i64.wrap ((i : Int) + 1) = ((i + 1 : Nat) : Int) := by rw [wrap64 (by omega) (by omega)]; rfl
  simp only [hw, Int.toNat_natCast]
  exact ⟨b0, o0, ha0, ⟨by omega, by omega⟩, _, _, _, _, _, _, _, _, hrd, fun b3 => chk_intro rfl (call_bool (cx_good x m1 hxr (hc x (List.mem_of_getElem? hx))) fun m2 hm2 => br_f rfl ⟨by trivial, L.length - (i + 1), by omega, i + 1, by omega, rfl, rfl⟩)⟩
 ·refine call_any (cx_flat 4 0 L a c m1 (hL.mono hm1) hl fun x hx => clean_subs (hc x hx)) (fun v _ _ ⟨a, c, e, _⟩ => by rw [e]; rfl) ?_
  rintro a2 n2 c2 m2 hm2 ⟨a', c', hv, hF⟩
  simp only [Value.slice.injEq] at hv
  obtain ⟨rfl, rfl, rfl⟩ := hv
  have hfl := flatL_len 4 0 L fun x hx => clean_subs (hc x hx)
  refine call_any (cx_joined 4 (.inr rfl) a2 c2 (flatL 4 0 L) T0 m2 hF (rep_T0 _) (by omega)) tree_fits (tree_k fun t' m3 hm3 hr' ht' => ?_)
  exact ⟨m3, Mem.le_trans hm1 (Mem.le_trans hm2 hm3), Mem.le_refl _, t', rfl, hr', a2, c2, ht'⟩
theorem cx_Seq (L : List T) (a : Option Addr) (c : Nat) (m : Mem) (hL : RepL m a L) (hl : L.length ≤ 1000) (hc : ∀ x ∈ L, x.clean = true) : CX Try.prog 11 #[.slice a L.length c] m [] (TreeR fun t' => ∃ a c, Join 3 a c T1 (flatL 3 1 L) t') := by
 apply cx_rx_Seq
 unfold VC_rx_Seq
 intro b
 have hrow := row_of_repL hL
 have hreps := repL_reps hL
 refine ⟨fun xs css tvs m' q => ∃ i : Nat, i ≤ L.length ∧ xs = [.int .i64 i] ∧ q = L.length - i, ⟨_, 0, by omega, rfl, rfl⟩, ?_⟩
 rintro z cs m1 q hm1 ⟨i, hi, hxs, hq⟩
 obtain rfl : z = i := by simpa using hxs
 refine br_intro (fun hlt => ?_) (fun hge => ?_)
 ·have hlt' : i < L.length := by have := of_decide_eq_true hlt; omega
  obtain ⟨x, hx⟩ := at_some hlt'
  obtain ⟨b0, o0, ha0, hrd⟩ := row_get (hrow.mono hm1) hx
  have hxr := (hreps x (List.mem_of_getElem? hx)).mono hm1
  have hxc := hc x (List.mem_of_getElem? hx)
  have hk := clean_k hxc
  have hcl := cx_Clean x m1 hxr
  rw [hxc] at hcl
  have hw : IntKind.i64.wrap ((i : Int) + 1) = ((i + 1 : Nat) : Int) := by rw [wrap64 (by omega) (by omega)]; rfl
  simp only [hw, Int.toNat_natCast]
  refine ⟨b0, o0, ha0, ⟨by omega, by omega⟩, _, _, _, _, _, _, _, _, hrd, fun b3 => chk_intro rfl ⟨false, ?_, br_f rfl ⟨by trivial, L.length - (i + 1), by omega, i + 1, by omega, rfl, rfl⟩⟩⟩
  refine chk_intro rfl (br_f (by simpa [RowKit.intOf] using hk) ?_)
  exact call_bool hcl fun m2 hm2 => ⟨by trivial, rfl⟩
 ·refine call_any (cx_flat 3 1 L a c m1 (hL.mono hm1) hl fun x hx => clean_subs (hc x hx)) (fun v _ _ ⟨a, c, e, _⟩ => by rw [e]; rfl) ?_
  rintro a2 n2 c2 m2 hm2 ⟨a', c', hv, hF⟩
  simp only [Value.slice.injEq] at hv
  obtain ⟨rfl, rfl, rfl⟩ := hv
  have hfl := flatL_len 3 1 L fun x hx => clean_subs (hc x hx)
  refine call_any (cx_joined 3 (.inl rfl) a2 c2 (flatL 3 1 L) T1 m2 hF (rep_T1 _) (by omega)) tree_fits (tree_k fun t' m3 hm3 hr' ht' => ?_)
  exact ⟨m3, Mem.le_trans hm1 (Mem.le_trans hm2 hm3), Mem.le_refl _, t', rfl, hr', a2, c2, ht'⟩
theorem cx_Capture (t : T) (m : Mem) (hr : Rep m t) : CX Try.prog 18 #[t.v] m [] (TreeR fun t' => ∃ a c, Chkd (nodeT 6 0 0 a c [t]) t') := by
 apply cx_rx_Capture
 unfold VC_rx_Capture
 intro b m1 hm1 _ b1 b2 hf2
 have hle := Mem.le_trans hm1 (Mem.le_add hf2 t.cs)
 have hL : RepL (m1.add b2 t.cs) (some ⟨b2, 0, none⟩) [t] := repL_one (fun j v hj => by rw [Nat.zero_add, Mem.add_same]; exact hj) (hr.mono hle)
 have hrn : Rep (m1.add b2 t.cs) (nodeT 6 0 0 (some ⟨b2, 0, none⟩) 1 [t]) := rep_node_mk hL (by omega) (by omega) (by omega)
 refine call_any (cx_checked (nodeT 6 0 0 (some ⟨b2, 0, none⟩) 1 [t]) (m1.add b2 t.cs) hrn) tree_fits (tree_k fun t' m2 hm2 hr' ht' => ?_)
 exact ⟨m2, Mem.le_trans hle hm2, Mem.le_refl _, t', rfl, hr', _, _, ht'⟩
set_option maxHeartbeats 1600000 in
theorem cx_Times (t : T) (lo hi : Int) (m : Mem) (hr : Rep m t) (hc : t.clean = true) : CX Try.prog 48 #[t.v, .int .i64 lo, .int .i64 hi] m [] (TreeR (Timed t lo hi)) := by
 apply cx_rx_Times
 unfold VC_rx_Times
 intro b m1 hm1 _ b1
 have hk := clean_k hc
 have hk' : (t.k == 0) = false := by simpa using hk
 have hbn := cx_bounds lo hi
 generalize hB : bounds lo hi = B at hbn
 have hz : ∃ z, (lo == 0 && hi == 0) = z := ⟨_, rfl⟩
 have ho : ∃ o, (lo == 1 && hi == 1) = o := ⟨_, rfl⟩
 obtain ⟨z, hz⟩ := hz
 obtain ⟨o, ho⟩ := ho
 have hzz : z = true → lo = 0 ∧ hi = 0 := fun h => by rw [h] at hz; simpa using hz
 have hoo : o = true → lo = 1 ∧ hi = 1 := fun h => by rw [h] at ho; simpa using ho
 refine ⟨z, o, ?_, !z && (!o && !B), ?_, br_intro (fun h => ?_) (fun h => ⟨false, ?_, br_f rfl ⟨z || t.k == 1, ?_, br_intro (fun h2 => ?_) (fun h2 => br_intro (fun h3 => ?_) (fun h3 b4 hf4 => ?_))⟩⟩)⟩
 ·rw [← hz, ← ho]
  refine br_intro (fun h => br_intro (fun h2 => ⟨by trivial, ?_⟩) (fun h2 => ⟨by trivial, ?_⟩)) (fun h => br_intro (fun h2 => ⟨by trivial, ?_⟩) (fun h2 => ⟨by trivial, ?_⟩)) <;> rw [h, h2] <;> rfl
 ·refine call_bool (cx_good t m1 (hr.mono hm1) hc) fun m2 hm2 => br_f rfl (br_intro (fun h => br_intro (fun h2 => ?_) (fun h2 => ?_)) (fun h => ?_))
  ·refine call_bool (hbn m2) fun m3 hm3 => ⟨by trivial, ?_⟩
   rw [h, h2]; rfl
  ·refine ⟨by trivial, ?_⟩
   rw [h, h2]; rfl
  ·refine ⟨by trivial, ?_⟩
   rw [h]; rfl
 ·exact ⟨m1, hm1, Mem.le_refl _, T0, rfl, rep_T0 _, .inl ⟨rfl, by
   cases z <;> cases o <;> cases B <;> simp_all⟩⟩
 ·exact br_f hk' ⟨by trivial, rfl⟩
 ·refine br_intro (fun h3 => ⟨by trivial, ?_⟩) (fun h3 => br_f hk' ⟨by trivial, ?_⟩)
  ·rw [h3]; rfl
  ·rw [h3]; rfl
 ·refine ⟨m1, hm1, Mem.le_refl _, T1, rfl, rep_T1 _, .inr (.inl ⟨rfl, ?_⟩)⟩
  cases z with
  | true => exact .inl (hzz rfl)
  | false =>
   right
   refine ⟨by simpa using h2, ?_⟩
   cases o with
   | true => exact .inl (hoo rfl)
   | false => right; simpa [hB] using h
 ·refine call_any (cx_copied t m1 (hr.mono hm1) (clean_light hc)) tree_fits (tree_k fun t' m2 hm2 hr' ht' => ?_)
  have := hoo (by simpa using h3)
  exact ⟨m2, Mem.le_trans hm1 hm2, Mem.le_refl _, t', rfl, hr', .inr (.inr (.inl ⟨this.1, this.2, ht'.1⟩))⟩
 ·have hle := Mem.le_trans hm1 (Mem.le_add hf4 t.cs)
  have hL : RepL (m1.add b4 t.cs) (some ⟨b4, 0, none⟩) [t] := repL_one (fun j v hj => by rw [Nat.zero_add, Mem.add_same]; exact hj) (hr.mono hle)
  have hBt : B = true := by
   rw [h3] at h
   have : z = false := by
    cases z with
    | true => simp at h2
    | false => rfl
   rw [this] at h
   simpa using h
  have hb := hB.trans hBt
  have hbb : 0 ≤ lo ∧ lo ≤ 16 ∧ -1 ≤ hi ∧ hi ≤ 16 := by
   unfold bounds at hb
   simp only [Bool.and_eq_true, Bool.not_eq_true', Bool.or_eq_false_iff, Bool.or_eq_true, decide_eq_false_iff_not, decide_eq_true_eq, beq_iff_eq] at hb
   omega
  have hrn : Rep (m1.add b4 t.cs) (nodeT 5 lo hi (some ⟨b4, 0, none⟩) 1 [t]) := rep_node_mk hL (by omega) (by omega) (by omega)
  refine call_any (cx_checked (nodeT 5 lo hi (some ⟨b4, 0, none⟩) 1 [t]) (m1.add b4 t.cs) hrn) tree_fits (tree_k fun t' m2 hm2 hr' ht' => ?_)
  exact ⟨m2, Mem.le_trans hle hm2, Mem.le_refl _, t', rfl, hr', .inr (.inr (.inr ⟨_, _, ht'⟩))⟩
end Go.Proofs.Ytmggihkjgbnhbaa

