/- Part of the proof: conditions and contracts of functions of this program. No condition of its own. -/
import Derived.Test.YtmggihkjgbnhbaaPC15O
import Derived.Test.YtmggihkjgbnhbaaMr
/- Contract: FactorBest. -/
set_option linter.unusedVariables false
set_option linter.unusedSimpArgs false
set_option linter.unusedSectionVars false
namespace Go.Proofs.Ytmggihkjgbnhbaa
open Go Go.Eng Go.Rx Go.Proofs Go.RowKit
set_option maxRecDepth 100000

theorem row_new {m M : Mem} {b : Nat} {l : List Int} (h : (m.add b (intsL l)).le M) : rowRd M (some ⟨b, 0, none⟩) (intsL l) :=
  rowRd.mono (.inr ⟨b, 0, rfl, fun j v hj => by rw [Nat.zero_add, Mem.add_same]; exact hj⟩) h
set_option maxHeartbeats 1600000 in
theorem cx_FactorBest (l : List Nat) (a : Option Addr) (c : Nat) (m : Mem) (hl : Byt m a l) (hc : l.length ≤ c) : CX Try.prog 6 #[.slice a l.length c] m [] (Ret (.bool true)) := by
  apply cx_law15_FactorBest
  unfold VC_law15_FactorBest
  refine call_bool (cx_awake15 m) fun m1 hm1 => br_f rfl ?_
  refine call_any (cx_law_made l a c m1 (hl.mono hm1) hc) tree_fits (tree_k fun t m2 hm2 hr ho => ?_)
  intro b
  have hrg := ok_rgt ho
  have hz := (fits_iff ho.fits).2.2
  have hcl := cuts_len (t := t) (n := 59) hz
  have hall := bestE_all t
  refine call_any (cx_CutsOk t m2 hr hrg ho.caps (by omega)) cutsE_fits ?_
  rintro sa sn sc n9 m3 hm3 ⟨sa', sc', hv, hrow⟩
  cases hv
  have hr3 := hr.mono hm3
  refine call_any (cx_BestOk t m3 hr3 hrg ho.caps) bestOk_fits ?_
  rintro k1 k2 k3 k4 k5 b5 k6 m4 hm4 hv
  simp only [BestOk, C4.v, Value.tuple.injEq, Value.agg.injEq, Array.mk.injEq, List.cons.injEq, Value.int.injEq, Value.bool.injEq, true_and, and_true] at hv
  obtain ⟨⟨rfl, rfl, rfl, rfl⟩, rfl, rfl, rfl⟩ := hv
  intro b2
  have hr4 := hr3.mono hm4
  have hm14 := Mem.le_trans hm1 (Mem.le_trans hm2 (Mem.le_trans hm3 hm4))
  have hrow4 := hrow.mono hm4
  refine ⟨false, br_f rfl (br_intro (fun h => ?_) (fun h => ⟨by trivial, one_bool (decide_eq_false (by omega))⟩)), br_f rfl ?_⟩
  · have h0 := of_decide_eq_true h
    have hmem : (bestE t).c ∈ t.cuts := by rcases hall.is with h | h; omega; exact h.2
    refine call_bool (cx_ContainsC t.cuts sa sc (bestE t).c m4 hrow4 (by omega)) fun m5 hm5 => br_f (by rw [decide_eq_true hmem]; rfl) ⟨by trivial, one_bool (decide_eq_false (by omega))⟩
  refine ⟨fun xs css tvs m' q => ∃ i : Nat, i ≤ t.cuts.length ∧ xs = [.int .i64 i] ∧ q = t.cuts.length - i, ⟨_, 0, by omega, rfl, rfl⟩, ?_⟩
  rintro z m5 q hm5 ⟨i, hi, hxs, hq⟩
  obtain rfl : z = i := by simpa using hxs
  refine br_intro (fun hlt => ?_) (fun hge => ret_pure (Mem.le_trans hm14 hm5) (by simp [Ret]))
  have hlt' : i < t.cuts.length := by have := of_decide_eq_true hlt; omega
  obtain ⟨k, hk⟩ := at_some hlt'
  have hkm := List.mem_of_getElem? hk
  have hrow5 := hrow4.mono hm5
  obtain ⟨b0, o0, ha0, hrd⟩ := row_getC hrow5 hk
  have hw : IntKind.i64.wrap ((i : Int) + 1) = ((i + 1 : Nat) : Int) := by rw [wrap64 (by omega) (by omega)]; rfl
  have hbd := cuts_bd hkm
  have hka := hall.all k hkm
  simp only [Int.toNat_natCast]
  refine ⟨b0, o0, ha0, ⟨by omega, by omega⟩, _, _, _, _, hrd, fun b4 => chk_intro rfl (call_any (cx_GainOk t k m5 (hr4.mono hm5) hrg ho.caps hkm) gainOk_fits ?_)⟩
  rintro g e m6 hm6 hv
  simp only [GainOk, Value.tuple.injEq, Array.mk.injEq, List.cons.injEq, Value.int.injEq, true_and, and_true] at hv
  obtain ⟨rfl, rfl⟩ := hv
  have hwd : IntKind.i64.wrap ((k.t : Int) - (k.f : Int)) = (k.t : Int) - k.f := wrap64 (by omega) (by omega)
  have hwt : IntKind.i64.wrap (0 - (k.t : Int)) = -(k.t : Int) := by rw [wrap64 (by omega) (by omega)]; omega
  refine ⟨false, br_f rfl (br_f (decide_eq_false (by omega)) (chk_intro rfl (br_f (decide_eq_false (show ¬ ((k.n : Nat) : Int) < 1 by omega)) (chk_intro rfl (br_f (decide_eq_false (show ¬ IntKind.i64.wrap ((k.t : Int) - (k.f : Int)) < 2 by rw [hwd]; omega)) (chk_intro rfl (br_f (decide_eq_false (show ¬ ((k.f : Nat) : Int) < 0 by omega)) (chk_intro rfl ⟨by trivial, one_bool (decide_eq_false (show ¬ ((k.a : Nat) : Int) < 0 by omega))⟩)))))))), br_f rfl ?_⟩
  have hwn : 0 < (bestE t).g → (((bestE t).c.t : Nat) : Int) ≤ 60 := fun h => by
    have hmem : (bestE t).c ∈ t.cuts := by rcases hall.is with h | h; omega; exact h.2
    have := cuts_bd hmem
    omega
  refine ⟨fun _ _ _ => Ret (.int .i64 (-1)), br_intro (fun hp => ?_) (fun hp => ?_)⟩
  · have hp : 0 < i := by have := of_decide_eq_true hp; omega
    have hw1 : IntKind.i64.wrap ((i : Int) - 1) = ((i - 1 : Nat) : Int) := by rw [wrap64 (by omega) (by omega)]; omega
    obtain ⟨k', hk'⟩ := at_some (l := t.cuts) (k := i - 1) (by omega)
    have hlt := pairwise_at (cuts_sorted t) hk' (by rw [show i - 1 + 1 = i by omega]; exact hk)
    obtain ⟨b1, o1, ha1, hrd1⟩ := row_getC (hrow5.mono hm6) hk'
    simp only [hw1, Int.toNat_natCast]
    refine ⟨b1, o1, ha1, ⟨by omega, by omega⟩, _, hrd1 0 _ rfl, b1, o1, ha1, ⟨by omega, by omega⟩, _, hrd1 1 _ rfl, b1, o1, ha1, ⟨by omega, by omega⟩, _, hrd1 2 _ rfl, chk_intro rfl ?_⟩
    intro b10 hf10
    refine chk_intro rfl ?_
    intro b11 hf11 V hV1 hV2 hV3
    have hcm := cx_Compare [(k'.a : Int), k'.f, k'.t] [(k.a : Int), k.f, k.t] (some ⟨b10, 0, none⟩) (some ⟨b11, 0, none⟩) 3 3 V (row_new hV2) (row_new hV3) (by simp)
    rw [cmpI_lt (by unfold LtC at hlt; omega)] at hcm
    refine ⟨_, rfl, hcm, (fun v _ _ e => by rw [e]; rfl), ?_⟩
    intro n m7 hm7 hn M hM1 hM2 hM3 hM4
    obtain rfl : n = -1 := by simpa [Ret] using hn
    refine br_f rfl (br_intro (fun h => ?_) (fun h => ⟨by trivial, t.cuts.length - (i + 1), by omega, i + 1, by omega, by rw [hw], rfl⟩))
    have h0 := of_decide_eq_true h
    have hwn := hwn h0
    have hwb : IntKind.i64.wrap (0 - ((bestE t).c.t : Int)) = -((bestE t).c.t : Int) := by rw [wrap64 (by omega) (by omega)]; omega
    refine br_intro (fun he => ⟨_, eq_cut _ _ _ _ _ _ _ _, br_intro (fun hne => chk_intro rfl (chk_intro rfl ?_)) (fun hne => ⟨by trivial, t.cuts.length - (i + 1), by omega, i + 1, by omega, by rw [hw], rfl⟩)⟩) (fun he => ⟨by trivial, t.cuts.length - (i + 1), by omega, i + 1, by omega, by rw [hw], rfl⟩)
    have hle := hka.2 h0 (by simpa using he)
    intro b13 hf13 b14 hf14
    have hcm := cx_Compare [(k.a : Int), k.f, -(k.t : Int)] [((bestE t).c.a : Int), (bestE t).c.f, -((bestE t).c.t : Int)] (some ⟨b13, 0, none⟩) (some ⟨b14, 0, none⟩) 3 3 ((M.add b13 (intsL [(k.a : Int), k.f, -(k.t : Int)])).add b14 (intsL [((bestE t).c.a : Int), (bestE t).c.f, -((bestE t).c.t : Int)])) (row_new (by rw [← hwt]; exact Mem.le_add hf14 _)) (row_new (Mem.le_refl _)) (by simp)
    rw [← hwt, ← hwb] at hcm
    refine call_any hcm (fun v _ _ e => by rw [e]; rfl) ?_
    intro n2 m8 hm8 hn2
    obtain rfl : n2 = _ := by simpa [Ret] using hn2
    refine br_f (decide_eq_false ?_) ⟨by trivial, t.cuts.length - (i + 1), by omega, i + 1, by omega, by rw [hw], rfl⟩
    rw [show IntKind.i64.wrap (-(k.t : Int)) = -(k.t : Int) from wrap64 (by omega) (by omega), show IntKind.i64.wrap (-((bestE t).c.t : Int)) = -((bestE t).c.t : Int) from wrap64 (by omega) (by omega)]
    exact Int.not_lt.2 (cmpI_ge (by unfold LeB at hle; omega))
  · intro V hV1 hV2 hV3 M hM1 hM2 hM3 hM4
    refine br_intro (fun h => ?_) (fun h => ⟨by trivial, t.cuts.length - (i + 1), by omega, i + 1, by omega, by rw [hw], rfl⟩)
    have h0 := of_decide_eq_true h
    have hwn := hwn h0
    have hwb : IntKind.i64.wrap (0 - ((bestE t).c.t : Int)) = -((bestE t).c.t : Int) := by rw [wrap64 (by omega) (by omega)]; omega
    refine br_intro (fun he => ⟨_, eq_cut _ _ _ _ _ _ _ _, br_intro (fun hne => chk_intro rfl (chk_intro rfl ?_)) (fun hne => ⟨by trivial, t.cuts.length - (i + 1), by omega, i + 1, by omega, by rw [hw], rfl⟩)⟩) (fun he => ⟨by trivial, t.cuts.length - (i + 1), by omega, i + 1, by omega, by rw [hw], rfl⟩)
    have hle := hka.2 h0 (by simpa using he)
    intro b13 hf13 b14 hf14
    have hcm := cx_Compare [(k.a : Int), k.f, -(k.t : Int)] [((bestE t).c.a : Int), (bestE t).c.f, -((bestE t).c.t : Int)] (some ⟨b13, 0, none⟩) (some ⟨b14, 0, none⟩) 3 3 ((M.add b13 (intsL [(k.a : Int), k.f, -(k.t : Int)])).add b14 (intsL [((bestE t).c.a : Int), (bestE t).c.f, -((bestE t).c.t : Int)])) (row_new (by rw [← hwt]; exact Mem.le_add hf14 _)) (row_new (Mem.le_refl _)) (by simp)
    rw [← hwt, ← hwb] at hcm
    refine call_any hcm (fun v _ _ e => by rw [e]; rfl) ?_
    intro n2 m8 hm8 hn2
    obtain rfl : n2 = _ := by simpa [Ret] using hn2
    refine br_f (decide_eq_false ?_) ⟨by trivial, t.cuts.length - (i + 1), by omega, i + 1, by omega, by rw [hw], rfl⟩
    rw [show IntKind.i64.wrap (-(k.t : Int)) = -(k.t : Int) from wrap64 (by omega) (by omega), show IntKind.i64.wrap (-((bestE t).c.t : Int)) = -((bestE t).c.t : Int) from wrap64 (by omega) (by omega)]
    exact Int.not_lt.2 (cmpI_ge (by unfold LeB at hle; omega))
end Go.Proofs.Ytmggihkjgbnhbaa

