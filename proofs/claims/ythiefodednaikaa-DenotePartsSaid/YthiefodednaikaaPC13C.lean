/- Part of the proof: conditions and contracts of functions of this program. No condition of its own. -/
import Derived.Test.YthiefodednaikaaPVB
import Derived.Test.YthiefodednaikaaPC13B
import Derived.Test.YthiefodednaikaaMr
/- Contracts of package denote: sets of indices; of package sets: is a byte in. -/
set_option linter.unusedVariables false
set_option linter.unusedSimpArgs false
namespace Go.Proofs.Ythiefodednaikaa
open Go Go.Eng Go.Rx Go.Proofs Go.RowKit
set_option maxRecDepth 100000

theorem tdivN (i : Nat) : Int.tdiv (i : Int) 64 = ((i / 64 : Nat) : Int) := rfl
theorem tmodN (i : Nat) : Int.tmod (i : Int) 64 = ((i % 64 : Nat) : Int) := rfl
theorem cx_at (i : Nat) (h : i < 576) (m : Mem) : CX Try.prog 54 #[.int .i64 i] m [] (Ret (plV (2 ^ i))) := by
  apply cx_denote_at
  unfold VC_denote_at
  intro b b2
  have hq : IntKind.i64.wrap (Int.tdiv (i : Int) 64) = ((i / 64 : Nat) : Int) := by rw [tdivN]; exact wrap64 (by omega) (by omega)
  have hr : IntKind.u64.wrap (1 * 2 ^ min (Int.toNat (Int.tmod (i : Int) 64)) 64) = ((2 ^ (i % 64) : Nat) : Int) := by
    rw [tmodN, Int.toNat_natCast, Nat.min_eq_left (by omega), Int.one_mul]
    have := wrapU (2 ^ (i % 64)) (by
      have : 2 ^ (i % 64) < 2 ^ 64 := Nat.pow_lt_pow_right (by omega) (by omega)
      exact this)
    rw [← this]; push_cast; rfl
  have hs := pl_at (q := i / 64) (r := i % 64) (by omega) (by omega)
  rw [show 64 * (i / 64) + i % 64 = i by omega] at hs
  simp only [hq, hr, Int.toNat_natCast, Nat.zero_add, Nat.mul_one, hs]
  refine ⟨by omega, by omega, by rw [tmodN]; omega, ⟨by omega, by omega⟩, chk_intro (by rw [Nat.ble_eq]; omega) (chk_intro rfl (ret_pure (Mem.le_refl _) rfl))⟩
theorem cx_phas (f i : Nat) (h : i < 576) (b : Nat) (m : Mem) (hb : m.reads b 0 (plL f)) : CX Try.prog 55 #[.pointer (some ⟨b, 0, none⟩), .int .i64 i] m [] (Ret (.bool (f.testBit i))) := by
  apply cx_denote_places_has
  unfold VC_denote_places_has
  have hq : IntKind.i64.wrap (Int.tdiv (i : Int) 64) = ((i / 64 : Nat) : Int) := by rw [tdivN]; exact wrap64 (by omega) (by omega)
  simp only [hq, Int.toNat_natCast, Nat.zero_add, Nat.mul_one]
  have hbit : (wdN f (i / 64)).testBit (i % 64) = f.testBit i := by
    rw [wdN_bit, show 64 * (i / 64) + i % 64 = i by omega]; simp; omega
  refine ⟨by omega, ⟨by omega, by omega⟩, _, (by have := hb (i / 64) _ (plL_get (by omega)); simpa using this), by omega, chk_intro rfl ⟨by rw [tmodN]; omega, ret_pure (Mem.le_refl _) ?_⟩⟩
  rw [tmodN, Int.toNat_natCast, Nat.min_eq_left (by omega)]
  show Value.bool (IntKind.u64.wrap _ == 1) = _
  simp only [intOf]
  rw [bit_word _ _ (wdN_lt _ _), hbit]
theorem cx_or (f g : Nat) (m : Mem) : CX Try.prog 104 #[plV f, plV g] m [] (Ret (plV (f ||| g))) := by
  apply cx_denote_places_or
  unfold VC_denote_places_or
  intro b b1 m1 hm1 _ b2
  refine ⟨fun xs css _ m' q => ∃ k : Nat, k ≤ 9 ∧ xs = [.int .i64 k] ∧ css = [orL f g k] ∧ m1.le m' ∧ q = 9 - k, ⟨9, 0, by omega, rfl, rfl, Mem.le_refl _, rfl⟩, ?_⟩
  rintro n cs m2 q hm2 ⟨k, hk, hn, hcs, _, hq⟩
  obtain rfl : n = k := by simpa using hn
  obtain rfl : cs = orL f g k := by simpa using hcs
  refine br_intro (fun hlt => ?_) (fun hge => ?_)
  · have hlt' : k < 9 := by have := of_decide_eq_true hlt; omega
    have h1 := orL_get (f := f) (g := g) (k := k) hlt'
    rw [if_neg (by omega)] at h1
    have h2 := plL_get (f := g) hlt'
    simp only [Int.toNat_natCast, Nat.zero_add, Nat.mul_one]
    refine ⟨⟨by omega, by omega⟩, look_intro h1 ⟨⟨by omega, by omega⟩, look_intro h2 (chk_intro rfl ⟨⟨by omega, by omega⟩, chk_intro (by rw [Nat.ble_eq]; simp [orL]; omega) ⟨by trivial, 9 - (k + 1), by omega, k + 1, by omega, ?_, ?_, Mem.le_trans (by assumption) (Mem.le_refl _), rfl⟩⟩)⟩⟩
    · rw [wrap64 (by omega) (by omega)]; rfl
    · show [splice _ _ [Value.int .u64 (IntKind.u64.wrap _)]] = _
      simp only [intOf]
      rw [or_words _ _ (wdN_lt _ _) (wdN_lt _ _), orL_step hlt']
  · have : k = 9 := by have := of_decide_eq_false hge; omega
    subst this
    exact chk_intro (by rfl) (ret_pure (Mem.le_trans hm1 hm2) rfl)

theorem bits_take (f k : Nat) (h : k ≤ 513) : (bitsOf f).take (((List.range k).filter fun i => f.testBit i).length) = (List.range k).filter fun i => f.testBit i := by
  have e : List.range 513 = List.range k ++ (List.range 513).drop k := by
    have := (List.take_append_drop k (List.range 513)).symm
    rwa [List.take_range, Nat.min_eq_left h] at this
  unfold bitsOf
  conv => lhs; rw [e, List.filter_append]
  rw [List.take_left']
  rfl
theorem bits_at (f k : Nat) (h : k < 513) (hb : f.testBit k = true) : (bitsOf f)[((List.range k).filter fun i => f.testBit i).length]? = some k := by
  have h1 := bits_take f (k + 1) (by omega)
  have e : (List.range (k + 1)).filter (fun i => f.testBit i) = (List.range k).filter (fun i => f.testBit i) ++ [k] := by
    rw [List.range_succ, List.filter_append]; simp [hb]
  rw [e] at h1
  have h2 := congrArg (fun l => l[((List.range k).filter fun i => f.testBit i).length]?) h1
  simpa [List.getElem?_take] using h2
theorem ix_all1 (f : Nat) (b c : Nat) (m : Mem) (hb : m.reads b 0 (plL f)) (hc : m.reads c 0 [.pointer (some ⟨b, 0, none⟩)]) : IX Try.prog 98 [] [.pointer (some ⟨c, 0, none⟩)] m ((bitsOf f).map fun i => [.int .i64 (i : Nat)]) := by
  apply ix_denote_places_all_1 0 [] [] c 0
  unfold VC_denote_places_all_1
  intro l
  refine ⟨fun xs _ _ m' q => ∃ k : Nat, k ≤ 513 ∧ xs = [.int .i64 (((List.range k).filter fun i => f.testBit i).length : Nat), .int .i64 k] ∧ m.le m' ∧ q = 513 - k, ⟨513, 0, by omega, rfl, Mem.le_refl _, rfl⟩, ?_⟩
  rintro y n m1 q hm1 ⟨k, hk, hxs, _, hq⟩
  simp only [List.cons.injEq, Value.int.injEq, true_and, and_true] at hxs
  obtain ⟨rfl, rfl⟩ := hxs
  have hstep : ((List.range (k + 1)).filter fun i => f.testBit i).length = ((List.range k).filter fun i => f.testBit i).length + (if f.testBit k then 1 else 0) := by
    rw [List.range_succ, List.filter_append, List.length_append]; simp [List.filter_cons]; split <;> simp
  refine br_intro (fun hlt => ?_) (fun hge => ?_)
  · have hlt' : k < 513 := by have := of_decide_eq_true hlt; omega
    refine ⟨_, hm1 _ _ _ (hc 0 _ rfl), call_bool (cx_phas f k (by omega) b m1 (hb.mono hm1)) fun m2 hm2 => br_intro (fun h => ?_) (fun h => ?_)⟩
    · refine ⟨⟨rfl, by omega, ?_⟩, ⟨513 - (k + 1), by omega, k + 1, by omega, ?_, Mem.le_trans hm1 hm2, rfl⟩, .inr rfl⟩
      · rw [Int.toNat_natCast]
        show ((bitsOf f).map fun i => [Value.int .i64 (i : Nat)])[((List.range k).filter fun i => f.testBit i).length]? = _
        rw [List.getElem?_map, bits_at f k hlt' h]; rfl
      · rw [hstep, if_pos h, wrap64 (by omega) (by omega)]; rfl
    · refine ⟨513 - (k + 1), by omega, k + 1, by omega, ?_, Mem.le_trans hm1 hm2, rfl⟩
      rw [hstep, if_neg (by simp [h]), wrap64 (by omega) (by omega)]; rfl
  · have : k = 513 := by have := of_decide_eq_false hge; omega
    subst this
    left
    simp [bitsOf]
theorem cx_all (f b : Nat) (m : Mem) (hb : m.reads b 0 (plL f)) : CX Try.prog 82 #[.pointer (some ⟨b, 0, none⟩)] m [] (fun v m' _ => ∃ c, v = .func (.func 98) #[] #[.pointer (some ⟨c, 0, none⟩)] ∧ m'.reads c 0 [.pointer (some ⟨b, 0, none⟩)]) := by
  apply cx_denote_places_all
  unfold VC_denote_places_all
  intro c m1 hm1 hc
  exact ⟨m1, hm1, Mem.le_refl _, c, rfl, hc⟩

theorem sh6 : ∀ c : Nat, c < 256 → IntKind.u8.wrap ((BitVec.ofInt 8 (c : Int) &&& BitVec.ofInt 8 63).toNat : Int) = ((c % 64 : Nat) : Int) ∧ Int.fdiv (c : Int) (2 ^ 6) = ((c / 64 : Nat) : Int) := by decide
theorem cx_sHas (t : T) (c : Nat) (hc : c < 256) (m : Mem) (hr : Rep m t) : CX Try.prog 119 #[.agg #[.int .u64 t.s0, .int .u64 t.s1, .int .u64 t.s2, .int .u64 t.s3], .int .u8 c] m [] (Ret (.bool (t.hasB c))) := by
  apply cx_sets_Has
  unfold VC_sets_Has
  intro b m1 hm1 _
  obtain ⟨h1, h2⟩ := sh6 c hc
  simp only [h1, h2, Int.toNat_natCast, Nat.zero_add, Nat.mul_one]
  have hok := Rep_ok hr
  have hw : ∃ w : Int, [Value.int .u64 t.s0, .int .u64 t.s1, .int .u64 t.s2, .int .u64 t.s3][c / 64]? = some (.int .u64 w) ∧ 0 ≤ w ∧ w < 18446744073709551616 ∧ t.hasB c = w.toNat.testBit (c % 64) := by
    have : c / 64 = 0 ∨ c / 64 = 1 ∨ c / 64 = 2 ∨ c / 64 = 3 := by omega
    unfold T.hasB
    rcases this with e | e | e | e
    · exact ⟨t.s0, by rw [e]; rfl, hok.s0.1, hok.s0.2, by simp [e]⟩
    · exact ⟨t.s1, by rw [e]; rfl, hok.s1.1, hok.s1.2, by simp [e]⟩
    · exact ⟨t.s2, by rw [e]; rfl, hok.s2.1, hok.s2.2, by simp [e]⟩
    · exact ⟨t.s3, by rw [e]; rfl, hok.s3.1, hok.s3.2, by simp [e]⟩
  obtain ⟨w, hw1, hw2, hw3, hw4⟩ := hw
  refine ⟨by omega, ⟨by omega, by omega⟩, look_intro hw1 (chk_intro rfl ⟨by omega, ret_pure hm1 ?_⟩)⟩
  rw [hw4, Nat.min_eq_left (by omega)]
  obtain ⟨n, rfl⟩ : ∃ n : Nat, w = n := ⟨w.toNat, by omega⟩
  show Value.bool (IntKind.u64.wrap _ == 1) = _
  simp only [intOf]
  rw [bit_word _ _ (by omega)]
  simp
end Go.Proofs.Ythiefodednaikaa

