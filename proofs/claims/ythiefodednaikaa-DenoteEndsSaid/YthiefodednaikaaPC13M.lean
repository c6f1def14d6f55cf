/- Part of the proof: conditions and contracts of functions of this program. No condition of its own. -/
import Derived.Test.YthiefodednaikaaPVK
import Derived.Test.YthiefodednaikaaPC13Y
import Derived.Test.YthiefodednaikaaMr
/- The statement DenoteEnds: the function returns true. -/
set_option linter.unusedVariables false
set_option linter.unusedSimpArgs false
set_option linter.unusedSectionVars false
namespace Go.Proofs.Ythiefodednaikaa
open Go Go.Eng Go.Rx Go.Proofs Go.RowKit
set_option maxRecDepth 100000

theorem cx_Ends_ok (t : T) (a : Option Addr) (s : List Nat) (c i : Nat) (m : Mem) (hr : Rep m t) (hc : t.check = 0) (hs : s.length ≤ 512) (hi : i ≤ s.length) (hb : Byt m a s) : CX Try.prog 14 #[t.v, .slice a s.length c, .int .i64 i] m [] (ListR 0 (endsL t s i)) := by
  have hw : t.wrong s.length i = 0 := by rw [wrong_good hc]; unfold limW; rw [if_neg (by omega), if_neg (by omega)]
  have h := cx_Ends t a s c i m hr (fun _ => hb)
  rw [hw] at h
  unfold T.list at h
  rw [if_pos hw] at h
  exact h
theorem cx_Begins_ok (t : T) (a : Option Addr) (s : List Nat) (c i : Nat) (m : Mem) (hr : Rep m t) (hc : t.check = 0) (hs : s.length ≤ 512) (hi : i ≤ s.length) (hb : Byt m a s) : CX Try.prog 15 #[t.v, .slice a s.length c, .int .i64 i] m [] (ListR 0 (begsL t s i)) := by
  have hw : t.wrong s.length i = 0 := by rw [wrong_good hc]; unfold limW; rw [if_neg (by omega), if_neg (by omega)]
  have h := cx_Begins t a s c i m hr (fun _ => hb)
  rw [hw] at h
  unfold T.list at h
  rw [if_pos hw] at h
  exact h
/-- Lists of integers, as slices in memory. -/
def Lists (m : Mem) (a : Option Addr) (E : List Str) (f : Nat → List Nat) (k : Nat) : Prop := rowRd m a (E.map Str.v) ∧ (∀ q ∈ E, rowRd m q.1 (numsL q.2.1)) ∧ E.map (fun q => q.2.1) = (List.range k).map f
theorem Lists.mono {m m' : Mem} {a E f k} (h : Lists m a E f k) (hm : m.le m') : Lists m' a E f k := ⟨h.1.mono hm, fun q hq => (h.2.1 q hq).mono hm, h.2.2⟩
theorem Lists.len {m : Mem} {a E f k} (h : Lists m a E f k) : E.length = k := by
  have := congrArg List.length h.2.2
  simpa using this
theorem Lists.get {m : Mem} {a E f k} (h : Lists m a E f k) {i : Nat} (hi : i < k) : ∃ b o x c, a = some ⟨b, o, none⟩ ∧ m b (o + i) = some (.slice x (f i).length c) ∧ rowRd m x (numsL (f i)) := by
  have hl := h.len
  obtain ⟨q, hq⟩ := at_some (l := E) (k := i) (by omega)
  have e : q.2.1 = f i := by
    have := congrArg (fun l => l[i]?) h.2.2
    simp [hq, hi] at this
    exact this
  have hr := h.2.1 q (List.mem_of_getElem? hq)
  rcases h.1 with h | ⟨b, o, h1, h2⟩
  · rw [show E = [] by simpa using h] at hq; simp at hq
  · refine ⟨b, o, q.1, q.2.2, h1, ?_, e ▸ hr⟩
    have := h2 i q.v (by rw [List.getElem?_map, hq]; rfl)
    rw [this, ← e]; rfl
theorem Lists.one {E : List Str} : ∀ u ∈ E.map Str.v, u.oneCell' = true := fun u hu => by
  obtain ⟨q, _, rfl⟩ := List.mem_map.1 hu; rfl
theorem nums_one (l : List Nat) : ∀ u ∈ numsL l, u.oneCell' = true := fun u hu => by
  obtain ⟨q, _, rfl⟩ := List.mem_map.1 hu; rfl
theorem nums_snoc (l : List Nat) (x : Nat) : numsL (l ++ [x]) = numsL l ++ [.int .i64 x] := by simp [numsL]
set_option maxHeartbeats 1600000 in
theorem cx_Ends13 (L : List (Nat × Nat × Nat)) (pa : Option Addr) (pc : Nat) (s : List Nat) (sa : Option Addr) (sc : Nat) (fr : List Nat) (fa : Option Addr) (fc : Nat) (bh : List Nat) (ba : Option Addr) (bc : Nat) (m : Mem) (hL : Sm m pa L) (hpc : L.length ≤ pc) (hs : Byt m sa s) (hsc : s.length ≤ sc) (hf : Byt m fa fr) (hfc : fr.length ≤ fc) (hb : Byt m ba bh) (hbc : bh.length ≤ bc) :
    CX Try.prog 8 #[.slice pa L.length pc, .slice sa s.length sc, .slice fa fr.length fc, .slice ba bh.length bc] m [] (Ret (.bool true)) := by
  apply cx_law13_DenoteEnds
  unfold VC_law13_DenoteEnds
  refine call_bool (cx_awake m) fun m1 hm1 => br_f rfl ?_
  refine call_any (cx_Made L pa pc m1 (hL.mono hm1) hpc) tree_fits (tree_k fun t m2 hm2 hr ht b => ?_)
  have hN3 : (if (14 : Int) < (s.length : Int) then (14 : Int) else (s.length : Int)) = ((min 14 s.length : Nat) : Int) := by split <;> omega
  have hN4 : (if (14 : Int) < (fr.length : Int) then (14 : Int) else (fr.length : Int)) = ((min 14 fr.length : Nat) : Int) := by split <;> omega
  have hN5 : (if (14 : Int) < (bh.length : Int) then (14 : Int) else (bh.length : Int)) = ((min 14 bh.length : Nat) : Int) := by split <;> omega
  simp only [hN3, hN4, hN5, Int.toNat_natCast, Nat.sub_zero]
  have h02 := Mem.le_trans hm1 hm2
  have e3 : (s.take 14).length = min 14 s.length := by simp
  have e4 : (fr.take 14).length = min 14 fr.length := by simp
  have e5 : (bh.take 14).length = min 14 bh.length := by simp
  have hS := (byt_take hs 14).mono h02
  have hF := (byt_take hf 14).mono h02
  have hB := (byt_take hb 14).mono h02
  rw [← e3, ← e4, ← e5]
  generalize s.take 14 = S at *
  generalize fr.take 14 = Fr at *
  generalize bh.take 14 = Bh at *
  have hSl : S.length ≤ 14 := by omega
  have hFl : Fr.length ≤ 14 := by omega
  have hBl : Bh.length ≤ 14 := by omega
  have hwN : IntKind.i64.wrap ((S.length : Int) + 1) = ((S.length + 1 : Nat) : Int) := by rw [wrap64 (by omega) (by omega)]; rfl
  have hgood := (check_good ht).1
  refine ⟨⟨by omega, by omega⟩, ⟨by omega, by omega⟩, ⟨by omega, by omega⟩, fun b1 hf1 => ?_⟩
  have hcat := cx_concat_strs [(fa, Fr, fc), (sa, S, sc), (ba, Bh, bc)] b1 3 m2 hf1 (by intro q hq; simp at hq; rcases hq with rfl | rfl | rfl; exact hF; exact hS; exact hB) (by simp [cat']; omega) (by simp)
  have hall : cat' [(fa, Fr, fc), (sa, S, sc), (ba, Bh, bc)] = Fr ++ S ++ Bh := by simp [cat']
  rw [hall] at hcat
  refine call_any hcat (fun v _ _ ⟨a, c, e, _⟩ => by rw [e]; rfl) ?_
  rintro a4 n8 c1 m3 hm3 ⟨a', c', hv3, hA⟩
  simp only [Value.slice.injEq] at hv3
  obtain ⟨rfl, rfl, rfl⟩ := hv3
  have h23 : m2.le m3 := Mem.le_trans (Mem.le_add hf1 _) hm3
  have hAl : (Fr ++ S ++ Bh).length ≤ 42 := by simp; omega
  have hFA : Fr.length + S.length ≤ (Fr ++ S ++ Bh).length := by simp
  have hin := fun i (hi : i ≤ S.length) => inner_ends (t := t) hgood (f := Fr) (s := S) (b := Bh) (by omega) hi
  generalize Fr ++ S ++ Bh = All at *
  refine ⟨fun xs css tvs m' q => ∃ (k : Nat) (E B : List Str) (ea : Option Addr) (ec : Nat) (ba : Option Addr) (bc : Nat), k ≤ S.length + 1 ∧ xs = [.slice ea k ec, .slice ba k bc, .int .i64 k] ∧ tvs = [.slice ea k ec, .slice ba k bc] ∧ Lists m' ea E (endsL t S) k ∧ Lists m' ba B (begsL t S) k ∧ q = S.length + 1 - k, ⟨_, 0, [], [], none, 0, none, 0, by omega, rfl, rfl, ⟨.inl rfl, by simp, rfl⟩, ⟨.inl rfl, by simp, rfl⟩, rfl⟩, ?_⟩
  rintro a7 n9 c2 a8 n10 c3 i0 a9 n12 c4 a10 n13 c5 m4 q hm4 ⟨k, E, B, ea, ec, ba', bc', hk, hxs, htv, hE, hB', hq⟩
  simp only [List.cons.injEq, Value.slice.injEq, Value.int.injEq, true_and, and_true] at hxs htv
  obtain ⟨⟨rfl, rfl, rfl⟩, ⟨rfl, rfl, rfl⟩, rfl⟩ := hxs
  obtain ⟨⟨rfl, rfl, rfl⟩, rfl, rfl, rfl⟩ := htv
  simp only [hwN]
  have h24 := Mem.le_trans h23 hm4
  refine br_intro (fun hlt => ?_) (fun hge => ?_)
  · have hk' : n13 ≤ S.length := by have := of_decide_eq_true hlt; omega
    refine call_any (cx_Ends_ok t sa S sc n13 m4 (hr.mono h24) ht (by omega) hk' (hS.mono h24)) ListR_fits ?_
    rintro a13 n15 c6 e16 m5 hm5 ⟨a', c', hv, hP⟩
    simp only [Value.tuple.injEq, Array.mk.injEq, List.cons.injEq, Value.slice.injEq, Value.int.injEq, true_and, and_true] at hv
    obtain ⟨⟨rfl, rfl, rfl⟩, rfl⟩ := hv
    have h25 := Mem.le_trans h24 hm5
    refine call_any (cx_Begins_ok t sa S sc n13 m5 (hr.mono h25) ht (by omega) hk' (hS.mono h25)) ListR_fits ?_
    rintro a16 n17 c7 e18 m6 hm6 ⟨a', c', hv, hQ⟩
    simp only [Value.tuple.injEq, Array.mk.injEq, List.cons.injEq, Value.slice.injEq, Value.int.injEq, true_and, and_true] at hv
    obtain ⟨⟨rfl, rfl, rfl⟩, rfl⟩ := hv
    have h26 := Mem.le_trans h25 hm6
    have h36 : m3.le m6 := Mem.le_trans hm4 (Mem.le_trans hm5 hm6)
    have hwF : IntKind.i64.wrap ((Fr.length : Int) + (n13 : Int)) = ((Fr.length + n13 : Nat) : Int) := by rw [wrap64 (by omega) (by omega)]; push_cast; rfl
    simp only [hwF]
    refine call_any (cx_Ends_ok t a4 All c1 (Fr.length + n13) m6 (hr.mono h26) ht (by omega) (by omega) (hA.mono h36)) ListR_fits ?_
    rintro a19 n19 c8 e20 m7 hm7 ⟨a', c', hv, hU⟩
    simp only [Value.tuple.injEq, Array.mk.injEq, List.cons.injEq, Value.slice.injEq, Value.int.injEq, true_and, and_true] at hv
    obtain ⟨⟨rfl, rfl, rfl⟩, rfl⟩ := hv
    have hP7 := hP.mono (Mem.le_trans hm6 hm7)
    have hQ7 := hQ.mono hm7
    have hPl : (endsL t S n13).length ≤ 513 := bits_len _
    have hQl : (begsL t S n13).length ≤ 513 := bits_len _
    have hUl : (endsL t All (Fr.length + n13)).length ≤ 513 := bits_len _
    refine ⟨false, br_f (by decide) (call_any (cx_IsSorted (endsL t S n13) a13 c6 m7 hP7 (by omega) (pw_step (bits_pw _))) (fun v _ _ e => by rw [e]; rfl) ?_), br_f rfl ?_⟩
    · intro b3 m8 hm8 hb3
      cases hb3
      refine br_f rfl (call_any (cx_IsSorted (begsL t S n13) a16 c7 m8 (hQ7.mono hm8) (by omega) (pw_step (bits_pw _))) (fun v _ _ e => by rw [e]; rfl) ?_)
      intro b4 m9 hm9 hb4
      cases hb4
      exact ⟨by trivial, by trivial, rfl⟩
    have hinU := hin n13 hk'
    have hgeU : ∀ x ∈ endsL t All (Fr.length + n13), Fr.length ≤ x ∧ x ≤ 42 := fun x hx => by
      have h := (ends_mem hgood (by omega) (by omega)).1 hx
      have := M_le hgood h
      have := M_len hgood h (by omega)
      omega
    generalize endsL t All (Fr.length + n13) = U at *
    refine ⟨fun xs css tvs m' q => ∃ (j : Nat) (a : Option Addr) (c : Nat), j ≤ U.length ∧ xs = [.slice a (inner Fr.length S.length (U.take j)).length c, .int .i64 j] ∧ tvs = [.slice a (inner Fr.length S.length (U.take j)).length c] ∧ rowRd m' a (numsL (inner Fr.length S.length (U.take j))) ∧ q = U.length - j, ⟨_, 0, none, 0, by omega, rfl, rfl, .inl rfl, rfl⟩, ?_⟩
    rintro a22 n21 c9 i22 a23 n23 c10 m8 q2 hm8 ⟨j, a', c', hj, hxs, htv, hrow, hq2⟩
    simp only [List.cons.injEq, Value.slice.injEq, Value.int.injEq, true_and, and_true] at hxs htv
    obtain ⟨⟨rfl, rfl, rfl⟩, rfl⟩ := hxs
    obtain ⟨rfl, rfl, rfl⟩ := htv
    have hil : (inner Fr.length S.length (U.take j)).length ≤ 513 := by
      unfold inner
      have := List.length_filter_le (fun n13 : Nat => decide ((n13 : Int) - Fr.length ≤ S.length)) (U.take j)
      simp at this ⊢
      omega
    refine br_intro (fun hlt2 => ?_) (fun hge2 => ?_)
    · have hj' : j < U.length := by have := of_decide_eq_true hlt2; omega
      obtain ⟨x, hx⟩ := at_some hj'
      have hxg := hgeU x (List.mem_of_getElem? hx)
      have hw : IntKind.i64.wrap ((j : Int) + 1) = ((j + 1 : Nat) : Int) := by rw [wrap64 (by omega) (by omega)]; rfl
      rcases hU.mono hm8 with h | ⟨bb, oo, h1, h2⟩
      · rw [show U = [] by simpa [numsL] using h] at hx; simp at hx
      simp only [hw, Int.toNat_natCast, Nat.mul_one]
      have hwx : IntKind.i64.wrap (RowKit.intOf (.int .i64 x) - (Fr.length : Int)) = (x : Int) - (Fr.length : Int) := wrap64 (by simp [RowKit.intOf]; omega) (by simp [RowKit.intOf]; omega)
      have hstep := inner_snoc Fr.length S.length (U.take j) x
      rw [← take_at hx] at hstep
      refine ⟨bb, oo, h1, ⟨by omega, by omega⟩, _, h2 j (.int .i64 x) (by rw [numsL, List.getElem?_map, hx]; rfl), chk_intro rfl ?_⟩
      simp only [hwx]
      refine br_intro (fun hle => fun b4 hf4 => ?_) (fun hle => ⟨by trivial, by trivial, U.length - (j + 1), by omega, j + 1, a23, c10, by omega, ?_, ?_, ?_, rfl⟩)
      · have hle' := of_decide_eq_true hle
        rw [if_pos hle'] at hstep
        have hxi : (x : Int) - (Fr.length : Int) = ((x - Fr.length : Nat) : Int) := by omega
        rw [hxi]
        refine ⟨.inl trivial, numsL (inner Fr.length S.length (U.take j)), [.int .i64 (x - Fr.length : Nat)], by simp [numsL], rfl, hrow.mono (Mem.le_add hf4 _), .inr ⟨b4, 0, rfl, fun j v hj => by rw [Nat.zero_add, Mem.add_same]; exact hj⟩, by intro u hu; simp at hu; subst hu; rfl, by omega, by omega, fun a5 c5 m9 hm9 hrow9 => ⟨by trivial, by trivial, U.length - (j + 1), by omega, j + 1, a5, c5, by omega, ?_, ?_, ?_, rfl⟩⟩
        · rw [hstep, List.length_append]; rfl
        · rw [hstep, List.length_append]; rfl
        · rw [hstep, nums_snoc]; exact hrow9
      · have hle' := of_decide_eq_false hle
        rw [if_neg hle', List.append_nil] at hstep
        rw [hstep]
      · have hle' := of_decide_eq_false hle
        rw [if_neg hle', List.append_nil] at hstep
        rw [hstep]
      · have hle' := of_decide_eq_false hle
        rw [if_neg hle', List.append_nil] at hstep
        rw [hstep]; exact hrow
    · have hj' : j = U.length := by have := of_decide_eq_false hge2; omega
      subst hj'
      rw [List.take_length, hinU] at hrow ⊢
      refine call_any (cx_EqualInts (endsL t S n13) (endsL t S n13) a23 a13 c10 c6 m8 hrow (hP7.mono hm8) (by omega)) (fun v _ _ e => by rw [e]; rfl) ?_
      intro b3 m9 hm9 hb3
      have hb3 : b3 = true := by unfold Ret at hb3; simpa using hb3
      subst hb3
      refine br_f rfl fun b4 hf4 => ?_
      have h49 : m4.le m9 := Mem.le_trans hm5 (Mem.le_trans hm6 (Mem.le_trans hm7 (Mem.le_trans hm8 hm9)))
      have hEl := hE.len
      have hBl' := hB'.len
      have hE9 := hE.mono h49
      have hB9 := hB'.mono h49
      have hP9 := hP7.mono (Mem.le_trans hm8 hm9)
      have hQ9 := hQ7.mono (Mem.le_trans hm8 hm9)
      have hle4 := Mem.le_add hf4 [.slice a13 (endsL t S n13).length c6]
      refine ⟨.inl trivial, E.map Str.v, [.slice a13 (endsL t S n13).length c6], by simp [hEl], rfl, hE9.1.mono hle4, .inr ⟨b4, 0, rfl, fun j v hj => by rw [Nat.zero_add, Mem.add_same]; exact hj⟩, by intro u hu; simp at hu; subst hu; rfl, by omega, by omega, fun a5 c5 m10 hm10 hrow10 b5 hf5 => ?_⟩
      have h9 : m9.le m10 := Mem.le_trans hle4 hm10
      have hle5 := Mem.le_add hf5 [.slice a16 (begsL t S n13).length c7]
      refine ⟨.inl trivial, B.map Str.v, [.slice a16 (begsL t S n13).length c7], by simp [hBl'], rfl, (hB9.1.mono h9).mono hle5, .inr ⟨b5, 0, rfl, fun j v hj => by rw [Nat.zero_add, Mem.add_same]; exact hj⟩, by intro u hu; simp at hu; subst hu; rfl, by omega, by omega, fun a6 c6' m11 hm11 hrow11 => ?_⟩
      have h10 : m10.le m11 := Mem.le_trans hle5 hm11
      have hw : IntKind.i64.wrap ((n13 : Int) + 1) = ((n13 + 1 : Nat) : Int) := by rw [wrap64 (by omega) (by omega)]; rfl
      rw [hw]
      refine ⟨by trivial, S.length + 1 - (n13 + 1), by omega, n13 + 1, E ++ [(a13, endsL t S n13, c6)], B ++ [(a16, begsL t S n13, c7)], a5, c5, a6, c6', by omega, rfl, rfl, ⟨?_, ?_, ?_⟩, ⟨?_, ?_, ?_⟩, rfl⟩
      · rw [List.map_append]; exact hrow10.mono h10
      · intro q hq
        rcases List.mem_append.1 hq with hq | hq
        · exact (hE9.2.1 q hq).mono (Mem.le_trans h9 h10)
        · simp at hq; subst hq; exact hP9.mono (Mem.le_trans h9 h10)
      · rw [List.map_append, hE.2.2, List.range_succ, List.map_append]; rfl
      · rw [List.map_append]; exact hrow11
      · intro q hq
        rcases List.mem_append.1 hq with hq | hq
        · exact (hB9.2.1 q hq).mono (Mem.le_trans h9 h10)
        · simp at hq; subst hq; exact hQ9.mono (Mem.le_trans h9 h10)
      · rw [List.map_append, hB'.2.2, List.range_succ, List.map_append]; rfl
  · have hk' : n13 = S.length + 1 := by have := of_decide_eq_false hge; omega
    subst hk'
    refine ⟨fun xs css tvs m' q => ∃ i : Nat, i ≤ S.length + 1 ∧ xs = [.int .i64 i] ∧ q = S.length + 1 - i, ⟨_, 0, by omega, rfl, rfl⟩, ?_⟩
    rintro z1 m5 q1 hm5 ⟨i, hi, hxs, hq1⟩
    obtain rfl : z1 = i := by simpa using hxs
    refine br_intro (fun hlt1 => ?_) (fun hge1 => ⟨m5, Mem.le_trans h02 (Mem.le_trans h24 hm5), Mem.le_refl _, by trivial⟩)
    have hi' : i ≤ S.length := by have := of_decide_eq_true hlt1; omega
    have hwi : IntKind.i64.wrap ((i : Int) + 1) = ((i + 1 : Nat) : Int) := by rw [wrap64 (by omega) (by omega)]; rfl
    rw [hwi]
    refine ⟨fun xs css tvs m' q => ∃ j : Nat, j ≤ S.length + 1 ∧ xs = [.int .i64 j] ∧ q = S.length + 1 - j, ⟨_, 0, by omega, rfl, rfl⟩, ?_⟩
    rintro z2 m6 q2 hm6 ⟨j, hj, hxs2, hq2⟩
    obtain rfl : z2 = j := by simpa using hxs2
    refine br_intro (fun hlt2 => ?_) (fun hge2 => ⟨by trivial, by trivial, S.length + 1 - (i + 1), by omega, i + 1, by omega, rfl, rfl⟩)
    have hj' : j ≤ S.length := by have := of_decide_eq_true hlt2; omega
    have hwj : IntKind.i64.wrap ((j : Int) + 1) = ((j + 1 : Nat) : Int) := by rw [wrap64 (by omega) (by omega)]; rfl
    rw [hwj]
    have h46 := Mem.le_trans hm5 hm6
    have h26 := Mem.le_trans h24 h46
    obtain ⟨eb, eo, ex, ecc, hea, hev, hel⟩ := (hE.mono h46).get (i := i) (by omega)
    obtain ⟨bb, bo, bx, bcc, hba, hbv, hbl⟩ := (hB'.mono h46).get (i := j) (by omega)
    have dec : Decidable (t.M S i j) := Classical.propDecidable _
    have hm1' : decide (j ∈ endsL t S i) = decide (t.M S i j) := decide_eq_decide.2 (ends_mem hgood (by omega) hi')
    have hm2' : decide (i ∈ begsL t S j) = decide (t.M S i j) := decide_eq_decide.2 (begs_mem hgood (by omega) hj')
    have c1 := cx_Contains (endsL t S i) ex ecc j m6 hel (Nat.le_trans (bits_len _) (by omega))
    rw [hm1'] at c1
    simp only [Int.toNat_natCast, Nat.mul_one]
    refine ⟨eb, eo, hea, ⟨by omega, by omega⟩, _, hev, call_bool c1 fun m7 hm7 => ?_⟩
    have c2 := cx_Contains (begsL t S j) bx bcc i m7 (hbl.mono hm7) (Nat.le_trans (bits_len _) (by omega))
    rw [hm2'] at c2
    have hmin : (if (j : Int) < (i : Int) then (j : Int) else (i : Int)) = ((min j i : Nat) : Int) := by split <;> omega
    simp only [hmin, Int.toNat_natCast]
    have hM : i ≤ j → (T.matches t ((S.drop (min j i)).take (j - min j i)) = decide (t.M S i j)) := fun hij => by
      rw [show min j i = i by omega]
      rw [Bool.eq_iff_iff, matches_iff ht (by simp; omega), decide_eq_true_iff]
      exact sub_M hgood hij (by omega)
    have hM0 : ¬ i ≤ j → decide (t.M S i j) = false := fun hij => decide_eq_false fun h => hij (M_le hgood h)
    generalize decide (t.M S i j) = is at *
    refine ⟨fun _ _ _ => Ret (.bool is), bb, bo, hba, ⟨by omega, by omega⟩, _, hm7 _ _ _ hbv, Ret (.bool is), rfl, c2, (fun v _ _ e => by rw [e]; rfl), ?_⟩
    intro b5 m8 hm8 hb5
    cases hb5
    refine br_f (by cases is <;> rfl) (br_intro (fun hij => ?_) (fun hij M hM1 hM2 hM3 => br_f (by rw [hM0 (fun h => absurd (of_decide_eq_false hij) (by omega))]; rfl) ⟨by trivial, by trivial, S.length + 1 - (j + 1), by omega, j + 1, by omega, rfl, rfl⟩))
    have hij' : i ≤ j := by have := of_decide_eq_true hij; omega
    have h28 := Mem.le_trans h26 (Mem.le_trans hm7 hm8)
    have c3 := cx_matches13 t (slBase (slBase sa 0 sc 1) (min j i) sc 1) ((S.drop (min j i)).take (j - min j i)) (sc - min j i) m8 (hr.mono h28) ht (by simp; omega) (byt_drop (hS.mono h28) (min j i) j sc (by omega) (by omega) (by omega))
    rw [hM hij', show ((S.drop (min j i)).take (j - min j i)).length = j - min j i by simp; omega] at c3
    refine ⟨⟨by omega, by omega⟩, ⟨by omega, by omega⟩, Ret (.bool is), rfl, c3, (fun v _ _ e => by rw [e]; rfl), ?_⟩
    intro b6 m9 hm9 hb6 M hM1 hM2 hM3
    cases hb6
    exact br_f (by cases is <;> rfl) ⟨by trivial, by trivial, S.length + 1 - (j + 1), by omega, j + 1, by omega, rfl, rfl⟩
end Go.Proofs.Ythiefodednaikaa

