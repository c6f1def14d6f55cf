/- Part of the proof: conditions and contracts of functions of this program. No condition of its own. -/
import Derived.Test.YthiefodednaikaaPVG
import Derived.Test.YthiefodednaikaaPC13J
import Derived.Test.YthiefodednaikaaMr
/- The statement DenoteWrong: the function returns true. -/
set_option linter.unusedVariables false
set_option linter.unusedSimpArgs false
set_option linter.unusedSectionVars false
namespace Go.Proofs.Ythiefodednaikaa
open Go Go.Eng Go.Rx Go.Proofs Go.RowKit
set_option maxRecDepth 100000

theorem repL_at {m M : Mem} {b : Nat} {l : List T} (hM : (m.add b (Rx.cellsL l)).le M) (hr : ∀ t ∈ l, Rep M t) (hl : l.length ≤ 1000000000000000) : RepL M (some ⟨b, 0, none⟩) l :=
  repL_of (.inr ⟨b, 0, rfl, fun j v hj => hM _ _ _ (by rw [Nat.zero_add, Mem.add_same]; exact hj)⟩) hr hl
theorem cx_Ends_no (t : T) (a : Option Addr) (len c : Nat) (i e : Int) (m : Mem) (hr : Rep m t) (hs : Says t len i e) (he : e ≠ 0) : CX Try.prog 14 #[t.v, .slice a len c, .int .i64 i] m [] (ListR e []) := by
  have h := cx_Ends t a (List.replicate len 0) c i m hr (fun h => absurd h (by rw [List.length_replicate, hs.one]; exact he))
  have e1 : T.list t (List.replicate len 0) i false = [] := by unfold T.list; rw [if_neg (by rw [List.length_replicate, hs.one]; exact he)]
  rw [e1, List.length_replicate, hs.one] at h; exact h
theorem cx_Begins_no (t : T) (a : Option Addr) (len c : Nat) (i e : Int) (m : Mem) (hr : Rep m t) (hs : Says t len i e) (he : e ≠ 0) : CX Try.prog 15 #[t.v, .slice a len c, .int .i64 i] m [] (ListR e []) := by
  have h := cx_Begins t a (List.replicate len 0) c i m hr (fun h => absurd h (by rw [List.length_replicate, hs.one]; exact he))
  have e1 : T.list t (List.replicate len 0) i true = [] := by unfold T.list; rw [if_neg (by rw [List.length_replicate, hs.one]; exact he)]
  rw [e1, List.length_replicate, hs.one] at h; exact h
theorem cx_Holds_no (t : T) (a : Option Addr) (len c : Nat) (i e : Int) (m : Mem) (hr : Rep m t) (hs : Says t len i e) (he : e ≠ 0) : CX Try.prog 16 #[Rg.v ⟨false, false, t⟩, .slice a len c, .int .i64 i] m [] (Ret (.tuple #[.bool false, .int .i64 e])) := by
  have h := cx_Holds ⟨false, false, t⟩ a (List.replicate len 0) c i m hr (fun h => absurd h (by rw [List.length_replicate, hs.rg]; exact he))
  have e1 : fromE ⟨false, false, t⟩ (List.replicate len 0) i = none := by unfold fromE; rw [if_neg (by rw [List.length_replicate, hs.rg]; exact he)]
  rw [e1, List.length_replicate, hs.rg] at h; exact h
theorem cx_From_no (t : T) (a : Option Addr) (len c : Nat) (i e : Int) (m : Mem) (hr : Rep m t) (hs : Says t len i e) (he : e ≠ 0) : CX Try.prog 17 #[Rg.v ⟨false, false, t⟩, .slice a len c, .int .i64 i] m [] (Ret (.tuple #[.int .i64 0, .bool false, .int .i64 e])) := by
  have h := cx_From ⟨false, false, t⟩ a (List.replicate len 0) c i m hr (fun h => absurd h (by rw [List.length_replicate, hs.rg]; exact he))
  have e1 : fromE ⟨false, false, t⟩ (List.replicate len 0) i = none := by unfold fromE; rw [if_neg (by rw [List.length_replicate, hs.rg]; exact he)]
  rw [e1, List.length_replicate, hs.rg] at h; exact h
theorem cx_Matches_no (t : T) (a : Option Addr) (len c : Nat) (e : Int) (m : Mem) (hr : Rep m t) (hs : Says t len 0 e) (he : e ≠ 0) : CX Try.prog 19 #[t.v, .slice a len c] m [] (Ret (.tuple #[.bool false, .int .i64 e])) := by
  have h := cx_Matches t a (List.replicate len 0) c m hr (fun h => absurd h (by rw [List.length_replicate, hs.one]; exact he))
  have e1 : T.matches t (List.replicate len 0) = false := by
    unfold T.matches
    rw [List.length_replicate, hs.one, show (e == 0) = false by simpa using he]; rfl
  rw [e1, List.length_replicate, hs.one] at h; exact h
theorem cx_Look_no (l : List Rg) (al : Option Addr) (cl : Nat) (a : Option Addr) (len c : Nat) (i e : Int) (m : Mem) (hl : l.length ≤ 64 → Rgs m al l) (hs : rulesW l len i = e) (he : e ≠ 0) : CX Try.prog 18 #[.slice al l.length cl, .slice a len c, .int .i64 i] m [] (Ret (.tuple #[.agg #[.int .i64 0, .int .i64 0, .int .i64 0], .bool false, .int .i64 e])) := by
  have h := cx_Look l al cl a (List.replicate len 0) c i m hl (fun h => absurd h (by rw [List.length_replicate, hs]; exact he))
  have e1 : lookE l (List.replicate len 0) i = none := by unfold lookE; rw [if_neg (by rw [List.length_replicate, hs]; exact he)]
  rw [e1, List.length_replicate, hs] at h; exact h
theorem cx_First_no (l : List Rg) (al : Option Addr) (cl : Nat) (a : Option Addr) (len c : Nat) (e : Int) (m : Mem) (hl : l.length ≤ 64 → Rgs m al l) (hs : rulesW l len 0 = e) (he : e ≠ 0) : CX Try.prog 20 #[.slice al l.length cl, .slice a len c] m [] (Ret (.tuple #[.agg #[.int .i64 0, .int .i64 0, .int .i64 0], .bool false, .int .i64 e])) := by
  have h := cx_First l al cl a (List.replicate len 0) c m hl (fun h => absurd h (by rw [List.length_replicate, hs]; exact he))
  have e1 : firstE l (List.replicate len 0) = none := by unfold firstE; rw [if_neg (by rw [List.length_replicate, hs]; exact he)]
  rw [e1, List.length_replicate, hs] at h; exact h
theorem many65 (t : T) (len : Nat) (i : Int) : rulesW (List.replicate 65 ⟨false, false, t⟩) len i = 5 := by
  unfold rulesW; rw [if_pos (by rw [List.length_replicate]; decide)]
theorem cx_Wrong (l : List (Nat × Nat × Nat)) (a : Option Addr) (c : Nat) (way : Nat) (hway : way < 256) (n : Int) (hn1 : -9223372036854775808 ≤ n) (hn2 : n ≤ 9223372036854775807) (m : Mem) (hl : Sm m a l) (hc : l.length ≤ c) : CX Try.prog 3 #[.slice a l.length c, .int .u8 way, .int .i64 n] m [] (Ret (.bool true)) := by
  apply cx_law13_DenoteWrong
  unfold VC_law13_DenoteWrong
  refine call_bool (cx_awake m) fun m1 hm1 => br_f rfl ?_
  refine call_any (cx_Made l a c m1 (hl.mono hm1) hc) tree_fits (tree_k fun t m2 hm2 hr ht b => ?_)
  have ht5 : Int.tmod (way : Int) 5 = ((way % 5 : Nat) : Int) := rfl
  simp only [ht5, Int.toNat_natCast]
  refine ⟨fun i _ _ => if i = 4 then TreeR (fun u => ∃ a c, u = nodeT 3 0 0 a c [t]) else TreeR (fun u => ∃ a c, u = nodeT 3 0 0 a c [T0, t]), fun b1 hf1 => ?_⟩
  refine ⟨TreeR (fun u => ∃ a c, u = nodeT 3 0 0 a c [t]), rfl, (cx_lcat (some ⟨b1, 0, none⟩) 1 [t] (m2.add b1 _) (repL_add hf1 (by intro x hx; simp at hx; subst hx; exact hr) (by simp))).mono (by rintro v m' css _ ⟨u, h1, h2, h3⟩; exact ⟨u, h1, h2, _, _, h3⟩), tree_fits, tree_k fun u1 m3 hm3 hr1 hu1 b2 hf2 V hV1 hV2 hV3 => ?_⟩
  refine ⟨TreeR (fun u => ∃ a c, u = nodeT 3 0 0 a c [T0, t]), rfl, (cx_lcat (some ⟨b2, 0, none⟩) 2 [T0, t] V (repL_at hV3 (by intro x hx; simp at hx; rcases hx with rfl | rfl; exact rep_T0 _; exact hr.mono hV1) (by simp))).mono (by rintro v m' css _ ⟨u, h1, h2, h3⟩; exact ⟨u, h1, h2, _, _, h3⟩), tree_fits, tree_k fun u2 m4 hm4 hr2 hu2 b3 hf3 V2 hW1 hW2 hW3 b4 hf4 => ?_⟩
  obtain ⟨a1, c1, rfl⟩ := hu1
  obtain ⟨a2, c2, rfl⟩ := hu2
  have hw5 : way % 5 < 5 := by omega
  refine ⟨by omega, ⟨by omega, by omega⟩, chk_intro (by rw [Nat.ble_eq]; omega) fun b5 => ?_⟩
  generalize hX : X1_law13_DenoteWrong _ _ _ _ _ _ _ _ _ _ _ _ _ _ _ _ _ _ _ _ _ = XX
  obtain ⟨bt, hbt, hbad, hbrep⟩ : ∃ bt : T, List.take 8 (List.drop (way % 5 * 8) XX) = bt.cs ∧ Bad bt ∧ ∀ M, m2.le M → m3.le M → m4.le M → (m2.add b3 t.cs).le M → Rep M bt := by
    rw [← hX]
    have h5 : way % 5 = 0 ∨ way % 5 = 1 ∨ way % 5 = 2 ∨ way % 5 = 3 ∨ way % 5 = 4 := by omega
    rcases h5 with e | e | e | e | e
    · rw [e]; exact ⟨.node 7 0 0 0 0 0 0 none 0 [], rfl, bad7, fun M _ _ _ _ => Rep_mk (by simp [T.subs]) (.inl rfl) (by constructor <;> decide)⟩
    · rw [e]; exact ⟨.node 2 0 0 0 0 0 0 none 0 [], rfl, bad2, fun M _ _ _ _ => Rep_mk (by simp [T.subs]) (.inl rfl) (by constructor <;> decide)⟩
    · rw [e]; exact ⟨nodeT 3 0 0 a1 c1 [t], rfl, bad_cat1 _ _ _, fun M _ h _ _ => hr1.mono h⟩
    · rw [e]; exact ⟨nodeT 3 0 0 a2 c2 [T0, t], rfl, bad_cat2 _ _ _, fun M _ _ h _ => hr2.mono h⟩
    · rw [e]; exact ⟨nodeT 5 3 2 (some ⟨b3, 0, none⟩) 1 [t], rfl, bad_rep _ _ _, fun M h _ _ h3 => rep_node_mk (repL_at (by rw [cells_one]; exact h3) (by intro x hx; simp at hx; subst hx; exact hr.mono h) (by simp)) (by omega) (by omega) (by omega)⟩
  simp only [hbt]
  refine chk_intro rfl fun M hM1 hM2 hM3 hM4 hM5 hM6 hM7 => ⟨by omega, fun b6 => chk_intro rfl (chk_intro rfl (chk_intro rfl (chk_intro rfl ⟨by omega, by omega, chk_intro rfl fun b7 hf7 M2 hK1 hK2 => ?_⟩)))⟩

  generalize hA : List.append (splice (splice (splice (splice _ _ _) _ _) _ _) _ _) (X2_law13_DenoteWrong _ _ _ _ _ _ _ _ _ _ _ _) = AA at hK2 ⊢
  have hAl : AA.length = 44 := by rw [← hA]; rfl
  have hbr : Rep M2 bt := hbrep M2 (Mem.le_trans hM1 hK1) (Mem.le_trans hM3 hK1) (Mem.le_trans hM5 hK1) (Mem.le_trans hM6 hK1)
  have hgr : Rep M2 t := hr.mono (Mem.le_trans hM1 hK1)
  have hAt : ∀ k, k < 4 → ∃ (tk : T) (len : Nat) (i e : Int), List.take 11 (List.drop (k * 11) AA) = tk.cs ++ [.slice (some ⟨b6, 0, none⟩) len 513, .int .i64 i, .int .i64 e] ∧ Asks k tk len i e ∧ Rep M2 tk := by
    intro k hk
    rw [← hA]
    have h5 : k = 0 ∨ k = 1 ∨ k = 2 ∨ k = 3 := by omega
    rcases h5 with rfl | rfl | rfl | rfl
    · exact ⟨bt, 513, -1, 130, rfl, ask0 hbad, hbr⟩
    · exact ⟨t, 513, -1, 3, rfl, ask1 ht, hgr⟩
    · exact ⟨t, 3, if (-1 : Int) < n then (-1 : Int) else n, 2, rfl, ask2 ht (by split <;> omega), hgr⟩
    · exact ⟨t, 3, if (4 : Int) > n then (4 : Int) else n, 2, rfl, ask3 ht (by split <;> omega), hgr⟩
  have hM02 : m.le M2 := Mem.le_trans hm1 (Mem.le_trans hm2 (Mem.le_trans hM1 hK1))
  refine ⟨fun xs css tvs m' q => ∃ k : Nat, k ≤ 4 ∧ xs = [.int .i64 k] ∧ q = 4 - k, ⟨4, 0, by omega, rfl, rfl⟩, ?_⟩
  rintro z mm q hmm ⟨k, hk, hz, hq⟩
  obtain rfl : z = k := by simpa using hz
  refine br_intro (fun hlt => ?_) (fun hge => ?_)
  · have hk4 : k < 4 := by have := of_decide_eq_true hlt; omega
    obtain ⟨tk, len, ix, e, hrow, hask, hrt2⟩ := hAt k hk4
    have hrt : Rep mm tk := hrt2.mono hmm
    have hlen := hask.len
    simp only [Int.toNat_natCast, hrow]
    refine ⟨⟨by omega, by omega⟩, chk_intro (by rw [Nat.ble_eq]; omega) fun b8 => chk_intro rfl (chk_intro rfl (chk_intro rfl fun b9 => chk_intro rfl (chk_intro rfl (look_intro rfl (look_intro rfl ?_)))))⟩
    refine call_any (cx_Ends_no tk (some ⟨b6, 0, none⟩) len 513 ix e mm hrt hask.here hask.no) ListR_fits ?_
    rintro a3 n3 c3 x3 m5 hm5 ⟨a3', c3', hv3, -⟩
    simp only [List.length_nil, Value.tuple.injEq, Array.mk.injEq, List.cons.injEq, Value.slice.injEq, Value.int.injEq, true_and, and_true] at hv3
    obtain ⟨⟨rfl, rfl, rfl⟩, rfl⟩ := hv3
    refine chk_intro rfl (look_intro rfl (look_intro rfl ?_))
    refine call_any (cx_Begins_no tk (some ⟨b6, 0, none⟩) len 513 ix x3 m5 (hrt.mono hm5) hask.here hask.no) ListR_fits ?_
    rintro a4 n4 c4 x4 m6 hm6 ⟨a4', c4', hv4, -⟩
    simp only [List.length_nil, Value.tuple.injEq, Array.mk.injEq, List.cons.injEq, Value.slice.injEq, Value.int.injEq, true_and, and_true] at hv4
    obtain ⟨⟨rfl, rfl, rfl⟩, rfl⟩ := hv4
    refine look_intro rfl (look_intro rfl ?_)
    have h06 := Mem.le_trans hm5 hm6
    refine call_any (cx_Holds_no tk (some ⟨b6, 0, none⟩) len 513 ix x4 m6 (hrt.mono h06) hask.here hask.no) (fun v _ _ e => by rw [e]; rfl) ?_
    intro bb10 e10 m7 hm7 hv10
    simp only [Value.tuple.injEq, Array.mk.injEq, List.cons.injEq, Value.bool.injEq, Value.int.injEq, true_and, and_true] at hv10
    obtain ⟨rfl, rfl⟩ := hv10
    refine look_intro rfl (look_intro rfl ?_)
    have h07 := Mem.le_trans h06 hm7
    refine call_any (cx_From_no tk (some ⟨b6, 0, none⟩) len 513 ix e10 m7 (hrt.mono h07) hask.here hask.no) (fun v _ _ e => by rw [e]; rfl) ?_
    intro i11 bb11 e11 m8 hm8 hv11
    simp only [Value.tuple.injEq, Array.mk.injEq, List.cons.injEq, Value.bool.injEq, Value.int.injEq, true_and, and_true] at hv11
    obtain ⟨rfl, rfl, rfl⟩ := hv11
    refine chk_intro rfl fun b12 hf12 => look_intro rfl (look_intro rfl ?_)
    have h08 := Mem.le_trans h07 hm8
    have hR12 : Rgs (m8.add b12 (Rg.cs ⟨false, false, tk⟩)) (some ⟨b12, 0, none⟩) [⟨false, false, tk⟩] := rgs_of (fun j v hj => by rw [Nat.zero_add, Mem.add_same]; exact hj) (by simp) (by intro r hr; simp at hr; subst hr; exact hrt.mono (Mem.le_trans h08 (Mem.le_add hf12 _)))
    refine call_any (cx_Look_no [⟨false, false, tk⟩] (some ⟨b12, 0, none⟩) 1 (some ⟨b6, 0, none⟩) len 513 ix e11 (m8.add b12 (Rg.cs ⟨false, false, tk⟩)) (fun _ => hR12) hask.here.all hask.no) (fun v _ _ e => by rw [e]; rfl) ?_
    intro i13 j13 k13 bb13 e13 m9 hm9 hv13
    simp only [Value.tuple.injEq, Value.agg.injEq, Array.mk.injEq, List.cons.injEq, Value.bool.injEq, Value.int.injEq, true_and, and_true] at hv13
    obtain ⟨⟨rfl, rfl, rfl⟩, rfl, rfl⟩ := hv13
    intro b14 b15 hf15
    have h09 := Mem.le_trans h08 (Mem.le_trans (Mem.le_add hf12 _) hm9)
    have hwk : IntKind.i64.wrap ((k : Int) + 1) = ((k + 1 : Nat) : Int) := by rw [wrap64 (by omega) (by omega)]; rfl
    simp only [hwk]
    refine ⟨fun xs css tvs m' q => ∃ j : Nat, j ≤ 5 ∧ xs = [.int .i64 j] ∧ q = 5 - j, ⟨5, 0, by omega, rfl, rfl⟩, ?_⟩
    rintro z2 m10 q2 hm10 ⟨j, hj, hz2, hq2⟩
    obtain rfl : z2 = j := by simpa using hz2
    have h10 := Mem.le_trans h09 (Mem.le_trans (Mem.le_add hf15 _) hm10)
    refine br_intro (fun hlt2 => ?_) (fun hge2 => ?_)
    · have hj5 : j < 5 := by have := of_decide_eq_true hlt2; omega
      have hwj : IntKind.i64.wrap ((j : Int) + 1) = ((j + 1 : Nat) : Int) := by rw [wrap64 (by omega) (by omega)]; rfl
      simp only [hwj, Int.toNat_natCast, Nat.mul_one]
      refine ⟨⟨by omega, by omega⟩, look_intro (v := .int .i64 e13) ?_ (look_intro rfl (chk_intro rfl (br_f (by simp [RowKit.intOf]) ⟨by trivial, 5 - (j + 1), by omega, j + 1, by omega, rfl, rfl⟩)))⟩
      have h5 : j = 0 ∨ j = 1 ∨ j = 2 ∨ j = 3 ∨ j = 4 := by omega
      rcases h5 with rfl | rfl | rfl | rfl | rfl <;> rfl
    refine ⟨false, br_f (by decide) (br_f rfl (br_f rfl (br_f rfl ⟨true, eq_hit _ _ _ _ _ _, by trivial, rfl⟩))), br_f rfl (br_intro (fun hk1 => ⟨by trivial, 4 - (k + 1), by omega, k + 1, by omega, rfl, by omega⟩) (fun hk1 => ?_))⟩
    have hz := hask.zero (by have := of_decide_eq_false hk1; omega)
    refine chk_intro rfl (look_intro rfl ?_)
    refine call_any (cx_Matches_no tk (some ⟨b6, 0, none⟩) len 513 e13 m10 (hrt.mono h10) hz hask.no) (fun v _ _ e => by rw [e]; rfl) ?_
    intro bb17 e17 m11 hm11 hv17
    simp only [Value.tuple.injEq, Array.mk.injEq, List.cons.injEq, Value.bool.injEq, Value.int.injEq, true_and, and_true] at hv17
    obtain ⟨rfl, rfl⟩ := hv17
    refine chk_intro rfl fun b18 hf18 => look_intro rfl ?_
    have h11 := Mem.le_trans h10 hm11
    have hR18 : Rgs (m11.add b18 (Rg.cs ⟨false, false, tk⟩)) (some ⟨b18, 0, none⟩) [⟨false, false, tk⟩] := rgs_of (fun j v hj => by rw [Nat.zero_add, Mem.add_same]; exact hj) (by simp) (by intro r hr; simp at hr; subst hr; exact hrt.mono (Mem.le_trans h11 (Mem.le_add hf18 _)))
    refine call_any (cx_First_no [⟨false, false, tk⟩] (some ⟨b18, 0, none⟩) 1 (some ⟨b6, 0, none⟩) len 513 e17 (m11.add b18 (Rg.cs ⟨false, false, tk⟩)) (fun _ => hR18) hz.all hask.no) (fun v _ _ e => by rw [e]; rfl) ?_
    intro i19 j19 k19 bb19 e19 m12 hm12 hv19
    simp only [Value.tuple.injEq, Value.agg.injEq, Array.mk.injEq, List.cons.injEq, Value.bool.injEq, Value.int.injEq, true_and, and_true] at hv19
    obtain ⟨⟨rfl, rfl, rfl⟩, rfl, rfl⟩ := hv19
    intro b20
    exact ⟨false, br_f rfl (br_f rfl (look_intro rfl (chk_intro rfl (br_f (by simp [RowKit.intOf]) (look_intro rfl (chk_intro rfl (br_f (by simp [RowKit.intOf]) ⟨true, eq_hit _ _ _ _ _ _, by trivial, rfl⟩))))))), br_f rfl ⟨by trivial, 4 - (k + 1), by omega, k + 1, by omega, rfl, by omega⟩⟩
  · refine ⟨by omega, fun b8 => ?_⟩
    refine call_any (cx_Look_no (List.replicate 65 ⟨false, false, T0⟩) (some ⟨b8, 0, none⟩) 65 (some ⟨b6, 0, none⟩) 513 513 (-1) 5 mm (fun h => absurd h (by rw [List.length_replicate]; decide)) (many65 _ _ _) (by decide)) (fun v _ _ e => by rw [e]; rfl) ?_
    intro i9 j9 k9 bb9 e9 m5 hm5 hv9
    simp only [Value.tuple.injEq, Value.agg.injEq, Array.mk.injEq, List.cons.injEq, Value.bool.injEq, Value.int.injEq, true_and, and_true] at hv9
    obtain ⟨⟨rfl, rfl, rfl⟩, rfl, rfl⟩ := hv9
    refine fun b10 => ⟨by omega, fun b11 => ?_⟩
    refine call_any (cx_First_no (List.replicate 65 ⟨false, false, T0⟩) (some ⟨b11, 0, none⟩) 65 (some ⟨b6, 0, none⟩) 513 513 5 m5 (fun h => absurd h (by rw [List.length_replicate]; decide)) (many65 _ _ _) (by decide)) (fun v _ _ e => by rw [e]; rfl) ?_
    intro i12 j12 k12 bb12 e12 m6 hm6 hv12
    simp only [Value.tuple.injEq, Value.agg.injEq, Array.mk.injEq, List.cons.injEq, Value.bool.injEq, Value.int.injEq, true_and, and_true] at hv12
    obtain ⟨⟨rfl, rfl, rfl⟩, rfl, rfl⟩ := hv12
    intro b13
    exact ⟨true, br_t rfl ⟨by trivial, rfl⟩, ret_pure (Mem.le_trans hM02 (Mem.le_trans hmm (Mem.le_trans hm5 hm6))) rfl⟩
end Go.Proofs.Ythiefodednaikaa

