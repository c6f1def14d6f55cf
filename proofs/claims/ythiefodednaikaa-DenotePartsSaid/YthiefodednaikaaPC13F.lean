/- Part of the proof: conditions and contracts of functions of this program. No condition of its own. -/
import Derived.Test.YthiefodednaikaaPC13E
/- Contracts of package denote: rules. -/
set_option linter.unusedVariables false
set_option linter.unusedSimpArgs false
set_option linter.unusedSectionVars false
namespace Go.Proofs.Ythiefodednaikaa
open Go Go.Eng Go.Rx Go.Proofs Go.RowKit
set_option maxRecDepth 100000

theorem Rgs.get {m : Mem} {a l} (h : Rgs m a l) {i : Nat} {r : Rg} (hi : l[i]? = some r) : (∃ b o, a = some ⟨b, o, none⟩ ∧ m.reads b (o + i * 10) r.cs) ∧ Rep m r.t := by
  refine ⟨?_, h.2.2 r (List.mem_of_getElem? hi)⟩
  rcases h.2.1 with h | ⟨b, o, h1, h2⟩
  · subst h; simp at hi
  · exact ⟨b, o, h1, h2 i r hi⟩
theorem cx_rules (l : List Rg) (al : Option Addr) (cl : Nat) (a : Option Addr) (len c : Nat) (n : Int) (m : Mem) (hl : l.length ≤ 64 → Rgs m al l) : CX Try.prog 50 #[.slice al l.length cl, .slice a len c, .int .i64 n] m [] (Ret (.int .i64 (rulesW l len n))) := by
  apply cx_denote_rules
  unfold VC_denote_rules
  refine br_intro (fun h => ret_pure (Mem.le_refl _) ?_) (fun h => ?_)
  · unfold rulesW; rw [if_pos (of_decide_eq_true h)]
  have hll : ¬ ((l.length : Int) > 64) := of_decide_eq_false h
  refine ⟨fun xs css _ m' q => ∃ k : Nat, k ≤ l.length ∧ xs = [.int .i64 k] ∧ (l.take k).all (fun r => r.t.check == 0) = true ∧ m.le m' ∧ q = l.length - k, ⟨_, 0, by omega, rfl, rfl, Mem.le_refl _, rfl⟩, ?_⟩
  rintro z m1 q hm1 ⟨k, hk, hz, hall, _, hq⟩
  obtain rfl : z = k := by simpa using hz
  refine br_intro (fun hlt => ?_) (fun hge => ?_)
  · have hlt' : k < l.length := by have := of_decide_eq_true hlt; omega
    obtain ⟨r, hr⟩ := at_some hlt'
    obtain ⟨⟨b, o, ha, hv⟩, hrep⟩ := Rgs.get ((hl (by omega)).mono hm1) hr
    have hw : IntKind.i64.wrap ((k : Int) + 1) = ((k + 1 : Nat) : Int) := by rw [wrap64 (by omega) (by omega)]; rfl
    simp only [hw, Int.toNat_natCast]
    refine ⟨b, o, ha, ⟨by omega, by omega⟩, _, _, _, _, _, _, _, _, _, _, hv, fun b2 => chk_intro rfl (call_int (cx_Check r.bg r.en r.t m1 hrep) fun m2 hm2 => br_intro (fun hc => ret_pure (Mem.le_trans hm1 hm2) ?_) (fun hc => ⟨l.length - (k + 1), by omega, k + 1, by omega, rfl, ?_, Mem.le_trans hm1 hm2, rfl⟩))⟩
    · unfold rulesW
      rw [if_neg hll, if_neg]
      intro hall2
      rw [List.all_eq_true] at hall2
      have := hall2 r (List.mem_of_getElem? hr)
      rw [this] at hc; cases hc
    · rw [take_at hr, List.all_append, hall]
      simp at hc
      simp [hc]
  · have : k = l.length := by have := of_decide_eq_false hge; omega
    subst this
    rw [List.take_length] at hall
    refine call_int (cx_dright T1 a len c n m1 (rep_T1 m1)) fun m2 hm2 => ret_pure (Mem.le_trans hm1 hm2) ?_
    unfold rulesW
    rw [if_neg hll, if_pos hall]
theorem lookS_two (n : Nat) (o : Option (Nat × Nat)) : ∃ x y z b, lookV n o = [.agg #[.int .i64 x, .int .i64 y, .int .i64 z], .bool b] := by cases o <;> exact ⟨_, _, _, _, rfl⟩
theorem cx_look (l : List Rg) (al : Option Addr) (cl : Nat) (a : Option Addr) (s : List Nat) (c n : Nat) (m : Mem) (hw : ∀ r ∈ l, r.t.walks) (hs : s.length ≤ 512) (hn : n ≤ s.length) (hl : Rgs m al l) (hb : Byt m a s) : CX Try.prog 51 #[.slice al l.length cl, .slice a s.length c, .int .i64 n] m [] (Ret (.tuple (lookV n (lookS s n l 0)).toArray)) := by
  have hlen := hl.1
  apply cx_denote_look
  unfold VC_denote_look
  intro b
  generalize hG : lookS s n l 0 = G
  refine ⟨fun xs css _ m' q => ∃ k : Nat, k ≤ l.length ∧ xs = [.int .i64 k] ∧ lookS s n (l.drop k) k = G ∧ m.le m' ∧ q = l.length - k, ⟨_, 0, by omega, rfl, hG, Mem.le_refl _, rfl⟩, ?_⟩
  rintro z cs m1 q hm1 ⟨k, hk, hz, hgo, _, hq⟩
  obtain rfl : z = k := by simpa using hz
  refine br_intro (fun hlt => ?_) (fun hge => ?_)
  · have hlt' : k < l.length := by have := of_decide_eq_true hlt; omega
    obtain ⟨r, hr⟩ := at_some hlt'
    obtain ⟨⟨b1, o, ha, hv⟩, hrep⟩ := Rgs.get (hl.mono hm1) hr
    have hwr : IntKind.i64.wrap ((k : Int) + 1) = ((k + 1 : Nat) : Int) := by rw [wrap64 (by omega) (by omega)]; rfl
    simp only [hwr, Int.toNat_natCast]
    rw [drop_at hr] at hgo
    unfold lookS at hgo
    refine ⟨b1, o, ha, ⟨by omega, by omega⟩, _, _, _, _, _, _, _, _, _, _, hv, fun b2 => chk_intro rfl (call_any (cx_from r a s c n m1 (hw r (List.mem_of_getElem? hr)) hs hn hrep (hb.mono hm1)) (fun v _ _ e => by rw [e]; obtain ⟨i, b, e⟩ := from_two (r.from s n); rw [e]; rfl) ?_)⟩
    intro i bb m2 hm2 e
    cases hF : r.from s n with
    | none =>
      rw [hF] at e hgo
      have := congrArg Array.toList ((Value.tuple.injEq _ _).mp e)
      simp [fromV] at this
      obtain ⟨rfl, rfl⟩ := this
      exact br_val (x := false) rfl ⟨by trivial, l.length - (k + 1), by omega, k + 1, by omega, rfl, hgo, Mem.le_trans hm1 hm2, rfl⟩
    | some j =>
      rw [hF] at e hgo
      have := congrArg Array.toList ((Value.tuple.injEq _ _).mp e)
      simp [fromV] at this
      obtain ⟨rfl, rfl⟩ := this
      refine br_val (x := true) rfl (ret_pure (Mem.le_trans hm1 hm2) ?_)
      rw [← hgo]; rfl
  · have : k = l.length := by have := of_decide_eq_false hge; omega
    subst this
    rw [List.drop_length] at hgo
    refine ret_pure hm1 ?_
    rw [← hgo]; rfl
theorem rulesW_64 {l : List Rg} {len : Nat} {n : Int} (h : rulesW l len n = 0) : l.length ≤ 64 := by
  unfold rulesW at h
  split at h
  · exact absurd h (by decide)
  · omega
theorem rulesW_0 {l : List Rg} {len : Nat} {n : Int} (h : rulesW l len n = 0) : (∀ r ∈ l, r.t.walks) ∧ len ≤ 512 ∧ 0 ≤ n ∧ n ≤ len := by
  unfold rulesW at h
  split at h
  · exact absurd h (by decide)
  · split at h
    · rename_i hall
      refine ⟨fun r hr => walks_of_check ?_, (wrong_0 h).2⟩
      simpa using List.all_eq_true.1 hall r hr
    · exact absurd h (by decide)
def lookE (l : List Rg) (s : List Nat) (n : Int) : Option (Nat × Nat) := if rulesW l s.length n = 0 then lookS s n.toNat l 0 else none
theorem cx_Look (l : List Rg) (al : Option Addr) (cl : Nat) (a : Option Addr) (s : List Nat) (c : Nat) (n : Int) (m : Mem) (hl : l.length ≤ 64 → Rgs m al l) (hb : rulesW l s.length n = 0 → Byt m a s) : CX Try.prog 18 #[.slice al l.length cl, .slice a s.length c, .int .i64 n] m [] (Ret (.tuple (lookV n.toNat (lookE l s n) ++ [Value.int .i64 (rulesW l s.length n)]).toArray)) := by
  apply cx_denote_Look
  unfold VC_denote_Look
  intro b
  refine call_int (cx_rules l al cl a s.length c n m hl) fun m1 hm1 => br_intro (fun h => ret_pure hm1 ?_) (fun h => ?_)
  · unfold lookE; rw [if_neg (by simpa using h)]; rfl
  · have h' : rulesW l s.length n = 0 := by simpa using h
    obtain ⟨hw, hs, hi0, hi1⟩ := rulesW_0 h'
    obtain ⟨k, rfl⟩ : ∃ k : Nat, n = k := ⟨n.toNat, by omega⟩
    have hE : lookE l s (k : Int) = lookS s k l 0 := by unfold lookE; rw [if_pos h']; rfl
    rw [hE, h', Int.toNat_natCast]
    refine call_any (cx_look l al cl a s c k m1 hw hs (by omega) ((hl (rulesW_64 h')).mono hm1) ((hb h').mono hm1)) (fun v _ _ e => by rw [e]; obtain ⟨x, y, z, b, e⟩ := lookS_two k (lookS s k l 0); rw [e]; rfl) ?_
    intro x y z bb m2 hm2 e b2
    refine ret_pure (Mem.le_trans hm1 hm2) ?_
    have e' : lookV k (lookS s k l 0) = [.agg #[.int .i64 x, .int .i64 y, .int .i64 z], .bool bb] := by
      have := (Value.tuple.injEq _ _).mp e
      simpa using (congrArg Array.toList this).symm
    rw [e']; rfl
def firstE (l : List Rg) (s : List Nat) : Option (Nat × Nat × Nat) := if rulesW l s.length 0 = 0 then firstS l s (s.length + 1) 0 else none
theorem cx_First (l : List Rg) (al : Option Addr) (cl : Nat) (a : Option Addr) (s : List Nat) (c : Nat) (m : Mem) (hl : l.length ≤ 64 → Rgs m al l) (hb : rulesW l s.length 0 = 0 → Byt m a s) : CX Try.prog 20 #[.slice al l.length cl, .slice a s.length c] m [] (Ret (.tuple (firstV (firstE l s) ++ [Value.int .i64 (rulesW l s.length 0)]).toArray)) := by
  apply cx_denote_First
  unfold VC_denote_First
  intro b
  refine call_int (cx_rules l al cl a s.length c 0 m hl) fun m1 hm1 => br_intro (fun h => ret_pure hm1 ?_) (fun h => ?_)
  · unfold firstE; rw [if_neg (by simpa using h)]; rfl
  · have h' : rulesW l s.length 0 = 0 := by simpa using h
    obtain ⟨hw, hs, hi0, hi1⟩ := rulesW_0 h'
    have hE : firstE l s = firstS l s (s.length + 1) 0 := by unfold firstE; rw [if_pos h']
    rw [hE, h']
    have hwl : IntKind.i64.wrap ((s.length : Int) + 1) = ((s.length + 1 : Nat) : Int) := by rw [wrap64 (by omega) (by omega)]; rfl
    generalize hG : firstS l s (s.length + 1) 0 = G
    refine ⟨fun xs css _ m' q => ∃ k : Nat, k ≤ s.length + 1 ∧ xs = [.int .i64 k] ∧ firstS l s (s.length + 1 - k) k = G ∧ m1.le m' ∧ q = s.length + 1 - k, ⟨_, 0, by omega, rfl, hG, Mem.le_refl _, rfl⟩, ?_⟩
    rintro z cs m2 q hm2 ⟨k, hk, hz, hgo, _, hq⟩
    obtain rfl : z = k := by simpa using hz
    simp only [hwl]
    refine br_intro (fun hlt => ?_) (fun hge => ?_)
    · have hlt' : k < s.length + 1 := by have := of_decide_eq_true hlt; omega
      have hwr : IntKind.i64.wrap ((k : Int) + 1) = ((k + 1 : Nat) : Int) := by rw [wrap64 (by omega) (by omega)]; rfl
      simp only [hwr]
      rw [show s.length + 1 - k = (s.length + 1 - (k + 1)) + 1 by omega] at hgo
      unfold firstS at hgo
      refine call_any (cx_look l al cl a s c k m2 hw hs (by omega) ((hl (rulesW_64 h')).mono (Mem.le_trans hm1 hm2)) ((hb h').mono (Mem.le_trans hm1 hm2))) (fun v _ _ e => by rw [e]; obtain ⟨x, y, z, b, e⟩ := lookS_two k (lookS s k l 0); rw [e]; rfl) ?_
      intro x y z bb m3 hm3 e b2
      cases hF : lookS s k l 0 with
      | none =>
        rw [hF] at e hgo
        have := congrArg Array.toList ((Value.tuple.injEq _ _).mp e)
        simp [lookV] at this
        obtain ⟨_, rfl⟩ := this
        exact br_val (x := false) rfl ⟨by trivial, s.length + 1 - (k + 1), by omega, k + 1, by omega, rfl, by rw [← hgo], Mem.le_trans hm2 hm3, rfl⟩
      | some p =>
        obtain ⟨j, i⟩ := p
        rw [hF] at e hgo
        have := congrArg Array.toList ((Value.tuple.injEq _ _).mp e)
        simp [lookV] at this
        obtain ⟨⟨rfl, rfl, rfl⟩, rfl⟩ := this
        refine br_val (x := true) rfl (ret_pure (Mem.le_trans hm1 (Mem.le_trans hm2 hm3)) ?_)
        rw [← hgo]; rfl
    · have : k = s.length + 1 := by have := of_decide_eq_false hge; omega
      subst this
      rw [Nat.sub_self] at hgo
      unfold firstS at hgo
      refine ret_pure (Mem.le_trans hm1 hm2) ?_
      rw [← hgo]; rfl
theorem cx_EqualInts (x y : List Nat) (ax ay : Option Addr) (cx cy : Nat) (m : Mem) (hx : rowRd m ax (numsL x)) (hy : rowRd m ay (numsL y)) (hlen : x.length ≤ 1000000000000000) : CX Try.prog 28 #[.slice ax x.length cx, .slice ay y.length cy] m [] (Ret (.bool (x == y))) := by
  apply cx_slices_Equal_int_int
  unfold VC_slices_Equal_int_int
  refine br_intro (fun h => ret_pure (Mem.le_refl _) ?_) (fun h => ?_)
  · have : ¬ x = y := fun e => by subst e; simp at h
    rw [show (x == y) = false by simpa using this]
  have hl : x.length = y.length := by
    simp only [Bool.not_eq_false', beq_iff_eq] at h
    omega
  refine ⟨fun xs css _ m' q => ∃ k : Nat, k ≤ x.length ∧ xs = [.int .i64 k] ∧ x.take k = y.take k ∧ m.le m' ∧ q = x.length - k, ⟨_, 0, by omega, rfl, rfl, Mem.le_refl _, rfl⟩, ?_⟩
  rintro z m1 q hm1 ⟨k, hk, hz, hgo, _, hq⟩
  obtain rfl : z = k := by simpa using hz
  refine br_intro (fun hlt => ?_) (fun hge => ?_)
  · have hlt' : k < x.length := by have := of_decide_eq_true hlt; omega
    obtain ⟨u, hu⟩ := at_some hlt'
    obtain ⟨v, hv⟩ := at_some (l := y) (k := k) (by omega)
    have hwr : IntKind.i64.wrap ((k : Int) + 1) = ((k + 1 : Nat) : Int) := by rw [wrap64 (by omega) (by omega)]; rfl
    rcases hx.mono hm1 with hx | ⟨b, o, h1, h2⟩
    · rw [show x = [] by simpa [numsL] using hx] at hlt'; simp at hlt'
    rcases hy.mono hm1 with hy | ⟨b', o', h1', h2'⟩
    · rw [hl, show y = [] by simpa [numsL] using hy] at hlt'; simp at hlt'
    simp only [hwr, Int.toNat_natCast, Nat.mul_one]
    refine ⟨b, o, h1, ⟨by omega, by omega⟩, _, h2 k (.int .i64 u) (by rw [numsL, List.getElem?_map, hu]; rfl), b', o', h1', ⟨by omega, by omega⟩, _, h2' k (.int .i64 v) (by rw [numsL, List.getElem?_map, hv]; rfl), chk_intro rfl (br_intro (fun hc => ret_pure hm1 ?_) (fun hc => ⟨x.length - (k + 1), by omega, k + 1, by omega, rfl, ?_, hm1, rfl⟩))⟩
    · have : ¬ x = y := fun e => by
        subst e
        rw [hu] at hv; cases hv
        simp at hc
      rw [show (x == y) = false by simpa using this]
    · have : u = v := by
        have := hc
        simp [RowKit.intOf] at this
        omega
      rw [take_at hu, take_at hv, hgo, this]
  · have : k = x.length := by have := of_decide_eq_false hge; omega
    subst this
    rw [List.take_length, hl, List.take_length] at hgo
    refine ret_pure hm1 ?_
    rw [hgo]; simp
end Go.Proofs.Ythiefodednaikaa

