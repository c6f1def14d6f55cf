/- Part of the proof: conditions and contracts of functions of this program. No condition of its own. -/
import Derived.Test.YthiefodednaikaaPVJ
import Derived.Test.YthiefodednaikaaPC13U
import Derived.Test.YthiefodednaikaaMr
/- The statement DenoteHolds: the function returns true. -/
set_option linter.unusedVariables false
set_option linter.unusedSimpArgs false
set_option linter.unusedSectionVars false
namespace Go.Proofs.Ythiefodednaikaa
open Go Go.Eng Go.Rx Go.Proofs Go.RowKit
set_option maxRecDepth 100000

/-- Matches, where nothing is refused. -/
theorem matches_iff {t : T} (hc : t.check = 0) {s : List Nat} (hs : s.length ≤ 512) : T.matches t s = true ↔ t.M s 0 s.length := by
  have hg := (check_good hc).1
  have hw : t.wrong s.length 0 = 0 := by rw [wrong_good hc]; unfold limW; rw [if_neg (by omega), if_neg (by omega)]
  unfold T.matches
  rw [hw]
  have := lead_fwd hg hs (i := 0) (j := s.length) (by omega)
  rw [Nat.pow_zero] at this
  simp only [beq_self_eq_true, Bool.true_and]
  exact this
theorem cx_matches13 (t : T) (a : Option Addr) (s : List Nat) (c : Nat) (m : Mem) (hr : Rep m t) (hc : t.check = 0) (hs : s.length ≤ 512) (hb : Byt m a s) : CX Try.prog 24 #[t.v, .slice a s.length c] m [] (Ret (.bool (T.matches t s))) := by
  apply cx_law13_matches
  unfold VC_law13_matches
  intro b m1 hm1 _
  have hw : t.wrong s.length 0 = 0 := by rw [wrong_good hc]; unfold limW; rw [if_neg (by omega), if_neg (by omega)]
  have h := cx_Matches t a s c m1 (hr.mono hm1) (fun _ => hb.mono hm1)
  rw [hw] at h
  refine call_any h (fun v _ _ e => by rw [e]; rfl) ?_
  intro bo e m2 hm2 hv
  simp only [Value.tuple.injEq, Array.mk.injEq, List.cons.injEq, Value.bool.injEq, Value.int.injEq, true_and, and_true] at hv
  obtain ⟨rfl, rfl⟩ := hv
  refine ⟨T.matches t s, br_intro (fun h => ⟨by trivial, one_bool (by rw [h]; rfl)⟩) (fun h => ⟨by trivial, one_bool (by rw [h])⟩), ret_pure (Mem.le_trans hm1 hm2) rfl⟩
/-- A part of a string, as it lies in memory. -/
theorem byt_drop {m : Mem} {a : Option Addr} {s : List Nat} (h : Byt m a s) (i n c : Nat) (hc : s.length ≤ c) (hn : n ≤ s.length) (hi : i ≤ n) : Byt m (slBase a i c 1) ((s.drop i).take (n - i)) := by
  refine ⟨?_, fun x hx => h.2 x (List.mem_of_mem_drop (List.mem_of_mem_take hx))⟩
  rcases h.1 with h | ⟨b, o, h1, h2⟩
  · subst h; left; simp
  · by_cases hz : n - i = 0
    · left; rw [hz]; simp
    · right
      have hs : slBase a i c 1 = some ⟨b, o + i, none⟩ := by
        subst h1
        unfold slBase
        cases i with
        | zero => rfl
        | succ i =>
          have e1 : Nat.beq (i + 1) 0 = false := rfl
          have e2 : Nat.beq c (i + 1) = false := by
            cases hb : Nat.beq c (i + 1) with
            | false => rfl
            | true => have := Nat.eq_of_beq_eq_true hb; omega
          rw [e1, e2]
          show some (Addr.add _ ((i + 1) * 1)) = _
          rw [addr_add, Nat.mul_one]
      refine ⟨b, o + i, hs, fun j v hj => ?_⟩
      rw [List.getElem?_map] at hj
      obtain ⟨x, hx, rfl⟩ := Option.map_eq_some_iff.1 hj
      rw [List.getElem?_take] at hx
      split at hx
      · rw [List.getElem?_drop] at hx
        rw [Nat.add_assoc]
        exact h2 (i + j) _ (by rw [List.getElem?_map, hx]; rfl)
      · cases hx
theorem cx_From_ok (r : Rg) (a : Option Addr) (s : List Nat) (c n : Nat) (m : Mem) (hr : Rep m r.t) (hc : r.t.check = 0) (hs : s.length ≤ 512) (hn : n ≤ s.length) (hb : Byt m a s) : CX Try.prog 17 #[r.v, .slice a s.length c, .int .i64 n] m [] (Ret (.tuple (fromV (r.from s n) ++ [Value.int .i64 0]).toArray)) := by
  have h := cx_From r a s c n m hr (fun _ => hb)
  have hw : Rg.wrong r s.length n = 0 := by unfold Rg.wrong; rw [if_pos hc, wrong_good hc]; unfold limW; rw [if_neg (by omega), if_neg (by omega)]
  unfold fromE at h
  rw [if_pos hw, hw] at h
  exact h
theorem cx_Holds_ok (r : Rg) (a : Option Addr) (s : List Nat) (c n : Nat) (m : Mem) (hr : Rep m r.t) (hc : r.t.check = 0) (hs : s.length ≤ 512) (hn : n ≤ s.length) (hb : Byt m a s) : CX Try.prog 16 #[r.v, .slice a s.length c, .int .i64 n] m [] (Ret (.tuple #[.bool (r.from s n).isSome, .int .i64 0])) := by
  have h := cx_Holds r a s c n m hr (fun _ => hb)
  have hw : Rg.wrong r s.length n = 0 := by unfold Rg.wrong; rw [if_pos hc, wrong_good hc]; unfold limW; rw [if_neg (by omega), if_neg (by omega)]
  unfold fromE at h
  rw [if_pos hw, hw] at h
  exact h
theorem fromV_eq (o : Option Nat) : fromV o = [.int .i64 ((o.getD 0 : Nat) : Int), .bool o.isSome] := by cases o <;> rfl
/-- What the loop has found behind the indices above one. -/
def Found (r : Rg) (s : List Nat) (n : Nat) (z : Int) (i : Int) : Prop := (z = -1 ∧ ∀ j : Nat, i < (j : Int) → j ≤ n → ¬ Beg r s n j) ∨ ∃ k : Nat, z = k ∧ i < (k : Int) ∧ k ≤ n ∧ Beg r s n k ∧ ∀ j : Nat, i < (j : Int) → j < k → ¬ Beg r s n j
set_option maxHeartbeats 1600000 in
theorem cx_Holds13 (L : List (Nat × Nat × Nat)) (pa : Option Addr) (pc : Nat) (bg en : Bool) (s : List Nat) (sa : Option Addr) (sc : Nat) (fr : List Nat) (fa : Option Addr) (fc : Nat) (bh : List Nat) (ba : Option Addr) (bc : Nat) (at' : Nat) (hat : at' < 256) (m : Mem) (hL : Sm m pa L) (hpc : L.length ≤ pc) (hs : Byt m sa s) (hsc : s.length ≤ sc) (hf : Byt m fa fr) (hfc : fr.length ≤ fc) (hb : Byt m ba bh) (hbc : bh.length ≤ bc) :
    CX Try.prog 6 #[.slice pa L.length pc, .bool bg, .bool en, .slice sa s.length sc, .slice fa fr.length fc, .slice ba bh.length bc, .int .u8 at'] m [] (Ret (.bool true)) := by
  apply cx_law13_DenoteHolds
  unfold VC_law13_DenoteHolds
  refine call_bool (cx_awake m) fun m1 hm1 => br_f rfl ?_
  refine call_any (cx_Made L pa pc m1 (hL.mono hm1) hpc) tree_fits (tree_k fun t m2 hm2 hr ht b => ?_)
  have hN3 : (if (20 : Int) < (s.length : Int) then (20 : Int) else (s.length : Int)) = ((min 20 s.length : Nat) : Int) := by split <;> omega
  have hN4 : (if (20 : Int) < (fr.length : Int) then (20 : Int) else (fr.length : Int)) = ((min 20 fr.length : Nat) : Int) := by split <;> omega
  have hN5 : (if (20 : Int) < (bh.length : Int) then (20 : Int) else (bh.length : Int)) = ((min 20 bh.length : Nat) : Int) := by split <;> omega
  simp only [hN3, hN4, hN5, Int.toNat_natCast, Nat.sub_zero]
  have h02 := Mem.le_trans hm1 hm2
  have e3 : (s.take 20).length = min 20 s.length := by simp
  have e4 : (fr.take 20).length = min 20 fr.length := by simp
  have e5 : (bh.take 20).length = min 20 bh.length := by simp
  have hS := (byt_take hs 20).mono h02
  have hF := (byt_take hf 20).mono h02
  have hB := (byt_take hb 20).mono h02
  rw [← e3, ← e4, ← e5]
  generalize s.take 20 = S at *
  generalize fr.take 20 = Fr at *
  generalize bh.take 20 = Bh at *
  have hSl : S.length ≤ 20 := by omega
  have hFl : Fr.length ≤ 20 := by omega
  have hBl : Bh.length ≤ 20 := by omega
  have hwN : IntKind.i64.wrap ((S.length : Int) + 1) = ((S.length + 1 : Nat) : Int) := by rw [wrap64 (by omega) (by omega)]; rfl
  have hwa : IntKind.i64.wrap (at' : Int) = (at' : Int) := wrap64 (by omega) (by omega)
  have hmod : Int.tmod (at' : Int) ((S.length + 1 : Nat) : Int) = ((at' % (S.length + 1) : Nat) : Int) := rfl
  have hnn : at' % (S.length + 1) < S.length + 1 := Nat.mod_lt _ (by omega)
  simp only [hwN, hwa, hmod]
  generalize at' % (S.length + 1) = nn at *
  simp only [Int.toNat_natCast]
  have hgood := (check_good ht).1
  generalize hR : (⟨bg, en, t⟩ : Rg) = r
  have hrt : r.t = t := by rw [← hR]
  have hrb : r.bg = bg := by rw [← hR]
  have hre : r.en = en := by rw [← hR]
  refine ⟨⟨by omega, by omega⟩, ⟨by omega, by omega⟩, ⟨by omega, by omega⟩, by omega, fun xs css tvs m' q => ∃ (z : Int) (i : Int), xs = [.int .i64 z, .int .i64 i] ∧ -1 ≤ i ∧ i ≤ nn ∧ Found r S nn z i ∧ q = (i + 1).toNat, ⟨nn + 1, -1, nn, rfl, by omega, by omega, .inl ⟨rfl, fun j h1 h2 => by omega⟩, by omega⟩, ?_⟩
  rintro z0 i0 m3 q hm3 ⟨z, i, hxs, hi1, hi2, hfound, hq⟩
  simp only [List.cons.injEq, Value.int.injEq, true_and, and_true] at hxs
  obtain ⟨rfl, rfl⟩ := hxs
  refine br_intro (fun hlt => ?_) (fun hge => ?_)
  · have hi0 : 0 ≤ i0 := of_decide_eq_true hlt
    obtain ⟨k, rfl⟩ : ∃ k : Nat, i0 = k := ⟨i0.toNat, by omega⟩
    have hwk : IntKind.i64.wrap ((k : Int) - 1) = (k : Int) - 1 := wrap64 (by omega) (by omega)
    simp only [hwk, Int.toNat_natCast]
    have hkn : k ≤ nn := by omega
    have hsubl : ((S.drop k).take (nn - k)).length = nn - k := by simp; omega
    have hcx := cx_matches13 t (slBase (slBase sa 0 sc 1) k (sc - 0) 1) ((S.drop k).take (nn - k)) (sc - 0 - k) m3 (hr.mono hm3) ht (by omega) (byt_drop (hS.mono hm3) k nn (sc - 0) (by omega) (by omega) hkn)
    rw [hsubl] at hcx
    have hM : T.matches t ((S.drop k).take (nn - k)) = true ↔ t.M S k nn := by
      rw [matches_iff ht (by omega)]
      exact sub_M hgood hkn (by omega)
    generalize T.matches t ((S.drop k).take (nn - k)) = bm at *
    refine ⟨fun _ _ _ => Ret (.bool bm), ⟨by omega, by omega⟩, ⟨by omega, by omega⟩, Ret (.bool bm), rfl, hcx, fun v _ _ e => by rw [e]; rfl, fun b1 m4 hm4 hb1 => ?_⟩
    cases hb1
    have hBk : Beg r S nn k ↔ (t.M S k nn ∧ (k = 0 ∨ bg = false)) := by unfold Beg; rw [hrt, hrb]
    have found1 : Beg r S nn k → Found r S nn k ((k : Int) - 1) := fun h => .inr ⟨k, rfl, by omega, hkn, h, fun j h1 h2 => by omega⟩
    have found2 : ¬ Beg r S nn k → Found r S nn z0 ((k : Int) - 1) := fun h => by
      rcases hfound with ⟨h1, h2⟩ | ⟨k', h1, h2, h3, h4, h5⟩
      · refine .inl ⟨h1, fun j hj1 hj2 => ?_⟩
        by_cases e : j = k
        · subst e; exact h
        · exact h2 j (by omega) hj2
      · refine .inr ⟨k', h1, by omega, h3, h4, fun j hj1 hj2 => ?_⟩
        by_cases e : j = k
        · subst e; exact h
        · exact h5 j (by omega) hj2
    cases bm with
    | false =>
      have hN : ¬ Beg r S nn k := fun h => by have := hM.2 (hBk.1 h).1; cases this
      repeat refine br_f rfl ?_
      intro M _ _
      exact ⟨by trivial, k, by omega, z0, (k : Int) - 1, rfl, by omega, by omega, found2 hN, by omega⟩
    | true =>
      have hMk := hM.1 rfl
      by_cases hk0 : k = 0
      · subst hk0
        have hB0 : Beg r S nn 0 := hBk.2 ⟨hMk, .inl rfl⟩
        have hz : (((0 : Nat) : Int) == 0) = true := rfl
        repeat first | refine br_t rfl ?_ | refine br_t hz ?_
        intro M _ _
        exact ⟨by trivial, 0, by omega, ((0 : Nat) : Int), ((0 : Nat) : Int) - 1, rfl, by omega, by omega, found1 hB0, by omega⟩
      · have hz : ((k : Int) == 0) = false := by simp; omega
        repeat first | refine br_f hz ?_ | refine br_t rfl ?_
        intro M _ _
        cases bg with
        | false => exact br_t rfl ⟨by trivial, k, by omega, (k : Int), (k : Int) - 1, rfl, by omega, by omega, found1 (hBk.2 ⟨hMk, .inr rfl⟩), by omega⟩
        | true => exact br_f rfl ⟨by trivial, k, by omega, z0, (k : Int) - 1, rfl, by omega, by omega, found2 (fun h => by rcases (hBk.1 h).2 with h | h; exact hk0 h; cases h), by omega⟩
  · have hi1' : i0 = -1 := by have := of_decide_eq_false hge; omega
    subst hi1'
    subst hR
    generalize ho : Rg.from S nn ⟨bg, en, t⟩ = o
    generalize hhd : (decide (z0 ≥ 0) && (!en || ((nn : Int) == (S.length : Int)))) = hd
    have hopen : open' ⟨bg, en, t⟩ S nn ↔ (!en || ((nn : Int) == (S.length : Int))) = true := by
      unfold open'
      cases en <;> simp <;> omega
    have hsome : ∀ i, o = some i → z0 = i := fun i hi => by
      rw [hi] at ho
      obtain ⟨_, h2, h3⟩ := from_some hgood (by omega) (by omega) ho
      have hin := M_le hgood h2.1
      rcases hfound with ⟨e, h⟩ | ⟨k, e, _, hk, hb, hmin⟩
      · exact absurd h2 (h i (by omega) hin)
      · by_cases hlt : i < k
        · exact absurd h2 (hmin i (by omega) hlt)
        · by_cases hgt : k < i
          · exact absurd hb (h3 k hgt)
          · rw [e]; omega
    have hoh : o.isSome = hd := by
      rw [← hhd, Bool.eq_iff_iff, ← ho, from_isSome hgood (by omega) (by omega), Bool.and_eq_true, hopen]
      constructor
      · rintro ⟨h1, i, h2⟩
        refine ⟨?_, h1⟩
        have hin := M_le hgood h2.1
        rcases hfound with ⟨e, h⟩ | ⟨k, e, _, hk, hb, hmin⟩
        · exact absurd h2 (h i (by omega) hin)
        · exact decide_eq_true (by omega)
      · rintro ⟨h1, h2⟩
        refine ⟨h2, ?_⟩
        have := of_decide_eq_true h1
        rcases hfound with ⟨e, h⟩ | ⟨k, e, _, hk, hb, hmin⟩
        · omega
        · exact ⟨k, hb⟩
    refine ⟨hd, br_intro (fun h => br_intro (fun h' => ⟨by trivial, one_bool ?_⟩) (fun h' => ⟨by trivial, one_bool ?_⟩)) (fun h => ⟨by trivial, one_bool ?_⟩), ?_⟩
    · rw [← hhd, h, h']; rfl
    · rw [← hhd, h, h']; rfl
    · rw [← hhd, h]; rfl
    have c1 := cx_From_ok ⟨bg, en, t⟩ sa S (sc - 0) nn m3 (hr.mono hm3) ht (by omega) (by omega) (hS.mono hm3)
    rw [ho, fromV_eq] at c1
    refine call_any c1 (fun v _ _ e => by rw [e]; rfl) ?_
    intro v1 v2 v3 m4 hm4 hv4
    simp only [List.cons_append, List.nil_append, Value.tuple.injEq, Array.mk.injEq, List.cons.injEq, Value.bool.injEq, Value.int.injEq, true_and, and_true] at hv4
    obtain ⟨rfl, rfl, rfl⟩ := hv4
    have c2 := cx_Holds_ok ⟨bg, en, t⟩ sa S (sc - 0) nn m4 (hr.mono (Mem.le_trans hm3 hm4)) ht (by omega) (by omega) (hS.mono (Mem.le_trans hm3 hm4))
    rw [ho] at c2
    refine call_any c2 (fun v _ _ e => by rw [e]; rfl) ?_
    intro v5 v6 m5 hm5 hv5
    simp only [Value.tuple.injEq, Array.mk.injEq, List.cons.injEq, Value.bool.injEq, Value.int.injEq, true_and, and_true] at hv5
    obtain ⟨rfl, rfl⟩ := hv5
    have h25 : m2.le m5 := Mem.le_trans hm3 (Mem.le_trans hm4 hm5)
    refine ⟨false, br_f (by decide) (br_f (by rw [hoh]; simp) (br_f (by rw [hoh]; simp) ?_)), br_f rfl ?_⟩
    · cases o with
      | none => exact br_f rfl (br_t rfl ⟨by trivial, rfl⟩)
      | some i =>
        have := hsome i rfl
        exact br_t rfl (br_f (by simp [this]) (br_f rfl ⟨by trivial, rfl⟩))
    have hwF : IntKind.i64.wrap ((Fr.length : Int) + (nn : Int)) = ((Fr.length + nn : Nat) : Int) := by rw [wrap64 (by omega) (by omega)]; push_cast; rfl
    simp only [hwF]
    generalize how : Rg.from (Fr ++ S) (Fr.length + nn) ⟨bg, en, t⟩ = ow
    generalize hom : Rg.from (S ++ Bh) nn ⟨bg, en, t⟩ = om
    have hwith : bg = false → hd = true → ow.isSome = true := fun hb0 hh => by
      rw [← hoh, ← ho, from_isSome hgood (by omega) (by omega)] at hh
      obtain ⟨h1, i, h2⟩ := hh
      rw [← how, from_isSome hgood (by simp; omega) (by simp; omega)]
      refine ⟨?_, Fr.length + i, ?_, .inr hb0⟩
      · rcases h1 with h1 | h1
        · exact .inl h1
        · right; simp; omega
      · have hin := M_le hgood h2.1
        refine (M_same hgood (by omega) hin fun p hp => ?_).1 h2.1
        rw [List.getElem?_append_right (by omega)]
        congr 1; omega
    have hbeg : ∀ i, Beg ⟨bg, en, t⟩ (S ++ Bh) nn i ↔ Beg ⟨bg, en, t⟩ S nn i := fun i => by
      unfold Beg
      have key : ∀ {A B : List Nat}, (∀ p, p < nn → A[p]? = B[p]?) → t.M A i nn → t.M B i nn := fun hAB h => by
        have hin := M_le hgood h
        exact (M_same hgood (by omega) hin fun p hp => hAB (i + p) (by omega)).1 h
      have e : ∀ p, p < nn → (S ++ Bh)[p]? = S[p]? := fun p hp => List.getElem?_append_left (by omega)
      constructor
      · rintro ⟨h1, h2⟩; exact ⟨key e h1, h2⟩
      · rintro ⟨h1, h2⟩; exact ⟨key (fun p hp => (e p hp).symm) h1, h2⟩
    have hmore0 : en = true → 0 < Bh.length → om.isSome = false := fun h1 h2 => by
      rw [← hom, from_closed (by simp; omega) (by unfold open'; simp [h1]; omega)]; rfl
    have hmore1 : (en = false ∨ Bh.length = 0) → om.isSome = hd := fun h => by
      rw [← hoh, ← ho, ← hom, Bool.eq_iff_iff, from_isSome hgood (by simp; omega) (by simp; omega), from_isSome hgood (by omega) (by omega)]
      have e1 : open' ⟨bg, en, t⟩ (S ++ Bh) nn ↔ open' ⟨bg, en, t⟩ S nn := by
        unfold open'
        rcases h with h | h
        · simp [h]
        · simp [h]
      rw [e1]
      constructor
      · rintro ⟨a, i, b⟩; exact ⟨a, i, (hbeg i).1 b⟩
      · rintro ⟨a, i, b⟩; exact ⟨a, i, (hbeg i).2 b⟩
    have bytes_one : ∀ l : List Nat, ∀ u ∈ l.map (fun c : Nat => Value.int .u8 c), u.oneCell' = true := fun l u hu => by
      obtain ⟨c, _, rfl⟩ := List.mem_map.1 hu; rfl
    have byt_row : ∀ {m : Mem} {a : Option Addr} {l : List Nat}, Byt m a l → rowRd m a (l.map fun c : Nat => Value.int .u8 c) := fun h => by
      rcases h.1 with h | ⟨b, o, h1, h2⟩
      · subst h; exact .inl rfl
      · exact .inr ⟨b, o, h1, h2⟩
    have row_byt : ∀ {m : Mem} {a : Option Addr} {l : List Nat}, rowRd m a (l.map fun c : Nat => Value.int .u8 c) → (∀ c ∈ l, c < 256) → Byt m a l := fun h k => by
      refine ⟨?_, k⟩
      rcases h with h | h
      · left; simpa using h
      · exact .inr h
    have part : ∀ {m : Mem} {b : Nat} {a a' : Option Addr} {l l' : List Nat} {c c' : Nat}, Byt m a l → Byt m a' l' → m.free b → Lies (m.add b [.slice a l.length c, .slice a' l'.length c']) (some ⟨b, 0, none⟩) 1 [⟨a, l.length, c, l.map fun c : Nat => Value.int .u8 c⟩, ⟨a', l'.length, c', l'.map fun c : Nat => Value.int .u8 c⟩] := fun h h' hfr => by
      refine ⟨fun i q hi => ⟨_, 0, rfl, ?_⟩, fun q hq => ?_⟩
      · rw [Nat.zero_add, Mem.add_same]
        match i, hi with
        | 0, hi => simp at hi; subst hi; rfl
        | 1, hi => simp at hi; subst hi; rfl
      · simp at hq
        rcases hq with rfl | rfl
        · exact ⟨byt_row (h.mono (Mem.le_add hfr _)), by simp, bytes_one _⟩
        · exact ⟨byt_row (h'.mono (Mem.le_add hfr _)), by simp, bytes_one _⟩
    refine ⟨fun i _ _ => if i = 4 then (fun v m' _ => ∃ a c, v = .slice a (Fr ++ S).length c ∧ Byt m' a (Fr ++ S)) else Ret (.tuple #[.bool ow.isSome, .int .i64 0]), fun b5 hf5 => ?_⟩
    have hS5 := hS.mono h25
    have hF5 := hF.mono h25
    refine ⟨fun v m' _ => ∃ a c, v = .slice a (Fr ++ S).length c ∧ Byt m' a (Fr ++ S), rfl, (cx_concat_by [⟨fa, Fr.length, fc - 0, Fr.map fun c : Nat => Value.int .u8 c⟩, ⟨sa, S.length, sc - 0, S.map fun c : Nat => Value.int .u8 c⟩] (some ⟨b5, 0, none⟩) 2 (m5.add b5 [.slice fa Fr.length (fc - 0), .slice sa S.length (sc - 0)]) (part hF5 hS5 hf5) (by simp [sumN]; omega) (by simp)).mono ?_, (fun v _ _ ⟨a, c, e, _⟩ => by rw [e]; rfl), ?_⟩
    · rintro v m' css _ ⟨a, c, e, hrow⟩
      refine ⟨a, c, by rw [e]; simp [sumN], row_byt (by simpa [allX] using hrow) fun x hx => ?_⟩
      rcases List.mem_append.1 hx with hx | hx
      · exact hF.2 x hx
      · exact hS.2 x hx
    rintro a10 n14 c10 m6 hm6 ⟨a', c', hv6, hbyt6⟩
    simp only [Value.slice.injEq] at hv6
    obtain ⟨rfl, rfl, rfl⟩ := hv6
    have h56 : m5.le m6 := Mem.le_trans (Mem.le_add hf5 _) hm6
    have c3 := cx_Holds_ok ⟨bg, en, t⟩ a10 (Fr ++ S) c10 (Fr.length + nn) m6 (hr.mono (Mem.le_trans h25 h56)) ht (by simp; omega) (by simp; omega) hbyt6
    rw [how] at c3
    refine ⟨Ret (.tuple #[.bool ow.isSome, .int .i64 0]), rfl, c3, (fun v _ _ e => by rw [e]; rfl), ?_⟩
    intro v7 v8 m7 hm7 hv7 M hMa hMb hMc hMd
    simp only [Value.tuple.injEq, Array.mk.injEq, List.cons.injEq, Value.bool.injEq, Value.int.injEq, true_and, and_true] at hv7
    obtain ⟨rfl, rfl⟩ := hv7
    have h2M : m2.le M := Mem.le_trans h25 hMa
    refine ⟨fun i _ _ => if i = 4 then (fun v m' _ => ∃ a c, v = .slice a (S ++ Bh).length c ∧ Byt m' a (S ++ Bh)) else Ret (.tuple #[.bool om.isSome, .int .i64 0]), fun b7 hf7 => ?_⟩
    refine ⟨fun v m' _ => ∃ a c, v = .slice a (S ++ Bh).length c ∧ Byt m' a (S ++ Bh), rfl, (cx_concat_by [⟨sa, S.length, sc - 0, S.map fun c : Nat => Value.int .u8 c⟩, ⟨ba, Bh.length, bc - 0, Bh.map fun c : Nat => Value.int .u8 c⟩] (some ⟨b7, 0, none⟩) 2 (M.add b7 [.slice sa S.length (sc - 0), .slice ba Bh.length (bc - 0)]) (part (hS.mono h2M) (hB.mono h2M) hf7) (by simp [sumN]; omega) (by simp)).mono ?_, (fun v _ _ ⟨a, c, e, _⟩ => by rw [e]; rfl), ?_⟩
    · rintro v m' css _ ⟨a, c, e, hrow⟩
      refine ⟨a, c, by rw [e]; simp [sumN], row_byt (by simpa [allX] using hrow) fun x hx => ?_⟩
      rcases List.mem_append.1 hx with hx | hx
      · exact hS.2 x hx
      · exact hB.2 x hx
    rintro a20 n16 c20 m8 hm8 ⟨a', c', hv8, hbyt8⟩
    simp only [Value.slice.injEq] at hv8
    obtain ⟨rfl, rfl, rfl⟩ := hv8
    have hM8 : M.le m8 := Mem.le_trans (Mem.le_add hf7 _) hm8
    have c4 := cx_Holds_ok ⟨bg, en, t⟩ a20 (S ++ Bh) c20 nn m8 (hr.mono (Mem.le_trans h2M hM8)) ht (by simp; omega) (by simp; omega) hbyt8
    rw [hom] at c4
    refine ⟨Ret (.tuple #[.bool om.isSome, .int .i64 0]), rfl, c4, (fun v _ _ e => by rw [e]; rfl), ?_⟩
    intro v9 v10 m9 hm9 hv9 M1 hMe hMf hMg hMh
    simp only [Value.tuple.injEq, Array.mk.injEq, List.cons.injEq, Value.bool.injEq, Value.int.injEq, true_and, and_true] at hv9
    obtain ⟨rfl, rfl⟩ := hv9
    refine ⟨true, br_t (by decide) ?_, ret_pure (Mem.le_trans h02 (Mem.le_trans h2M hMe)) rfl⟩
    generalize ow.isSome = w at *
    generalize om.isSome = q9 at *
    clear c1 c2 c3 c4
    have hw' : bg = true ∨ hd = false ∨ w = true := by
      cases bg with
      | true => exact .inl rfl
      | false => cases hd with
        | false => exact .inr (.inl rfl)
        | true => exact .inr (.inr (hwith rfl rfl))
    by_cases hb0 : Bh.length = 0
    · have e1 : decide ((Bh.length : Int) > 0) = false := decide_eq_false (by omega)
      have e2 : ((Bh.length : Int) == 0) = true := by rw [hb0]; rfl
      have hq := hmore1 (.inr hb0)
      subst hq
      rw [e1, e2]
      cases bg <;> cases en <;> cases q9 <;> cases w <;> first | (simp [br]; done) | (exfalso; simp at hw'; done)
    · have e1 : decide ((Bh.length : Int) > 0) = true := decide_eq_true (by omega)
      have e2 : ((Bh.length : Int) == 0) = false := by rw [beq_eq_false_iff_ne]; omega
      rw [e1, e2]
      cases en with
      | true =>
        have hq := hmore0 rfl (by omega)
        subst hq
        cases bg <;> cases hd <;> cases w <;> first | (simp [br]; done) | (exfalso; simp at hw'; done)
      | false =>
        have hq := hmore1 (.inl rfl)
        subst hq
        cases bg <;> cases q9 <;> cases w <;> first | (simp [br]; done) | (exfalso; simp at hw'; done)
end Go.Proofs.Ythiefodednaikaa

