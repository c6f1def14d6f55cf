/- Part of the proof: conditions and contracts of functions of this program. No condition of its own. -/
import Derived.Test.YtmggihkjgbnhbaaPC15G
import Derived.Test.YtmggihkjgbnhbaaPVLA
/- Contracts of the law's small functions: a byte's Class, what fits, what is put on the stack. -/
set_option linter.unusedVariables false
set_option linter.unusedSimpArgs false
set_option linter.unusedSectionVars false
namespace Go.Proofs.Ytmggihkjgbnhbaa
open Go Go.Eng Go.Rx Go.Proofs Go.RowKit
set_option maxRecDepth 100000

theorem bit8 : ∀ c : Fin 256, IntKind.u64.wrap (((BitVec.ofInt 64 0 ||| BitVec.ofInt 64 (IntKind.u64.wrap (1 * 2 ^ min (IntKind.u8.wrap ((BitVec.ofInt 8 (c.val : Int) &&& BitVec.ofInt 8 63).toNat : Int)).toNat 64))).toNat : Nat) : Int) = ((2 ^ (c.val % 64) : Nat) : Int) := by decide +kernel
theorem bit8' {c : Nat} (hc : c < 256) : IntKind.u64.wrap (((BitVec.ofInt 64 0 ||| BitVec.ofInt 64 (IntKind.u64.wrap (1 * 2 ^ min (IntKind.u8.wrap ((BitVec.ofInt 8 (c : Int) &&& BitVec.ofInt 8 63).toNat : Int)).toNat 64))).toNat : Nat) : Int) = ((2 ^ (c % 64) : Nat) : Int) := bit8 ⟨c, hc⟩
theorem shift8 : ∀ c : Fin 256, (0 : Int) ≤ IntKind.u8.wrap ((BitVec.ofInt 8 (c.val : Int) &&& BitVec.ofInt 8 63).toNat : Int) ∧ Int.fdiv (c.val : Int) (2 ^ 6) = ((c.val / 64 : Nat) : Int) := by decide +kernel
def setV (t : T) : Value := .agg (setCs t).toArray
theorem cx_setsOf1 (c : Nat) (hc : c < 256) (b o k : Nat) (m : Mem) (h : m b o = some (.int .u8 (c : Nat))) : CX Try.prog 17 #[.slice (some ⟨b, o, none⟩) 1 k] m [] (Ret (setV (letterT c))) := by
  apply cx_sets_Of
  unfold VC_sets_Of
  intro b1 b2
  have hs := shift8 ⟨c, hc⟩
  simp only at hs
  refine ⟨fun xs css tvs m' q => (xs = [.int .i64 0] ∧ css = [[.int .u64 0, .int .u64 0, .int .u64 0, .int .u64 0]] ∧ q = 1) ∨ (xs = [.int .i64 1] ∧ css = [setCs (letterT c)] ∧ q = 0), ⟨1, .inl ⟨rfl, rfl, rfl⟩⟩, ?_⟩
  rintro n cs m1 q hm1 (⟨hx, hcs, hq⟩ | ⟨hx, hcs, hq⟩)
  · obtain rfl : n = 0 := by simpa using hx
    obtain rfl : cs = _ := by simpa using hcs
    refine br_t rfl ⟨b, o, rfl, ⟨by omega, by omega⟩, .int .u8 (c : Nat), ?_, chk_intro rfl ⟨by decide, ?_, ?_⟩⟩
    · have := hm1 _ _ _ h
      simpa using this
    · show inRange (Int.fdiv (c : Int) (2 ^ 6)) 4
      rw [hs.2]
      exact ⟨by omega, by omega⟩
    · show Eng.look _ (0 + (Int.fdiv (c : Int) (2 ^ 6)).toNat * 1) _
      rw [hs.2, Int.toNat_natCast, Nat.mul_one, Nat.zero_add]
      have hj : c / 64 = 0 ∨ c / 64 = 1 ∨ c / 64 = 2 ∨ c / 64 = 3 := by omega
      have hget : ([.int .u64 0, .int .u64 0, .int .u64 0, .int .u64 0] : List Value)[c / 64]? = some (.int .u64 0) := by
        rcases hj with e | e | e | e <;> rw [e] <;> rfl
      refine look_intro hget (chk_intro rfl ⟨hs.1, chk_intro rfl ⟨?_, chk_intro ?_ ⟨by trivial, 0, by omega, .inr ⟨?_, ?_, rfl⟩⟩⟩⟩)
      · show inRange (Int.fdiv (c : Int) (2 ^ 6)) 4
        rw [hs.2]
        exact ⟨by omega, by omega⟩
      · show Nat.ble (0 + (Int.fdiv (c : Int) (2 ^ 6)).toNat * 1 + 1) 4 = true
        rw [hs.2]
        rw [Nat.ble_eq]
        omega
      · rw [wrap64 (by omega) (by omega)]; rfl
      · show [splice _ (0 + (Int.fdiv (c : Int) (2 ^ 6)).toNat * 1) [.int .u64 (IntKind.u64.wrap (((BitVec.ofInt 64 0 ||| BitVec.ofInt 64 (IntKind.u64.wrap (1 * 2 ^ min (IntKind.u8.wrap ((BitVec.ofInt 8 (c : Int) &&& BitVec.ofInt 8 63).toNat : Int)).toNat 64))).toNat : Nat) : Int))]] = _
        rw [hs.2, bit8' hc, Int.toNat_natCast, Nat.mul_one, Nat.zero_add]
        unfold setCs letterT T.s0 T.s1 T.s2 T.s3 wordI
        rcases hj with e | e | e | e <;> simp [e, splice]
  · obtain rfl : n = 1 := by simpa using hx
    obtain rfl : cs = _ := by simpa using hcs
    exact br_f rfl (chk_intro rfl (ret_pure hm1 rfl))
/-- The Class of the bytes a to c. -/
def classT : T := .node 2 0 60129542144 0 0 0 0 none 0 []
def rngC (k : Nat) : Int := ((2 ^ k - 1 : Nat) : Int) * 8589934592
theorem cx_Range_ac (m : Mem) : CX Try.prog 46 #[.int .u8 97, .int .u8 99] m [] (Ret (setV classT)) := by
  apply cx_sets_Range
  unfold VC_sets_Range
  intro b1 b2
  refine ⟨fun xs css tvs m' q => ∃ k : Nat, k ≤ 3 ∧ xs = [.int .i64 (97 + k : Nat)] ∧ css = [[.int .u64 0, .int .u64 (rngC k), .int .u64 0, .int .u64 0]] ∧ q = 3 - k, ⟨3, 0, by omega, rfl, rfl, rfl⟩, ?_⟩
  rintro n cs m1 q hm1 ⟨k, hk, hx, hcs, hq⟩
  obtain rfl : n = ((97 + k : Nat) : Int) := by simpa using hx
  obtain rfl : cs = _ := by simpa using hcs
  have hkk : k = 0 ∨ k = 1 ∨ k = 2 ∨ k = 3 := by omega
  rcases hkk with rfl | rfl | rfl | rfl
  · refine br_t rfl ⟨by decide, ⟨by decide, by decide⟩, look_intro (v := .int .u64 (rngC 0)) rfl ⟨by decide, chk_intro rfl ⟨⟨by decide, by decide⟩, chk_intro rfl ⟨by trivial, 2, by omega, 1, by omega, rfl, rfl, rfl⟩⟩⟩⟩
  · refine br_t rfl ⟨by decide, ⟨by decide, by decide⟩, look_intro (v := .int .u64 (rngC 1)) rfl ⟨by decide, chk_intro rfl ⟨⟨by decide, by decide⟩, chk_intro rfl ⟨by trivial, 1, by omega, 2, by omega, rfl, rfl, rfl⟩⟩⟩⟩
  · refine br_t rfl ⟨by decide, ⟨by decide, by decide⟩, look_intro (v := .int .u64 (rngC 2)) rfl ⟨by decide, chk_intro rfl ⟨⟨by decide, by decide⟩, chk_intro rfl ⟨by trivial, 0, by omega, 3, by omega, rfl, rfl, rfl⟩⟩⟩⟩
  · exact br_f rfl (chk_intro rfl (ret_pure hm1 rfl))
theorem cx_rxOf (a b c d : Int) (hz : ¬ (a = 0 ∧ b = 0 ∧ c = 0 ∧ d = 0)) (m : Mem) (hr : Rep m (.node 2 a b c d 0 0 none 0 [])) : CX Try.prog 45 #[.agg #[.int .u64 a, .int .u64 b, .int .u64 c, .int .u64 d]] m [] (TreeR fun t => t = .node 2 a b c d 0 0 none 0 []) := by
  apply cx_rx_Of
  unfold VC_rx_Of
  intro b1 m1 hm1 _ b2
  refine ⟨_, eq_set _ _ _ _ _ _ _ _, br_f ?_ ⟨m1, hm1, Mem.le_refl _, _, rfl, hr.mono hm1, rfl⟩⟩
  cases h : (a == 0 && b == 0 && c == 0 && d == 0) with
  | false => rfl
  | true => simp only [Bool.and_eq_true, beq_iff_eq] at h; exact absurd ⟨h.1.1.1, h.1.1.2, h.1.2, h.2⟩ hz
theorem letter_nz (c : Nat) (hc : c < 256) : ¬ (wordI c 0 = 0 ∧ wordI c 1 = 0 ∧ wordI c 2 = 0 ∧ wordI c 3 = 0) := by
  rintro ⟨h0, h1, h2, h3⟩
  have hp : (0 : Int) < ((2 ^ (c % 64) : Nat) : Int) := by
    have : 0 < 2 ^ (c % 64) := Nat.two_pow_pos _
    omega
  have hj : c / 64 = 0 ∨ c / 64 = 1 ∨ c / 64 = 2 ∨ c / 64 = 3 := by omega
  unfold wordI at h0 h1 h2 h3
  rcases hj with e | e | e | e
  · rw [if_pos e] at h0; omega
  · rw [if_pos e] at h1; omega
  · rw [if_pos e] at h2; omega
  · rw [if_pos e] at h3; omega
theorem cx_Byte (c : Nat) (hc : c < 256) (m : Mem) : CX Try.prog 31 #[.int .u8 (c : Nat)] m [] (TreeR fun t => t = letterT c) := by
  apply cx_rx_Byte
  unfold VC_rx_Byte
  intro b0 b1 hf
  refine call_any (cx_setsOf1 c hc b1 0 1 _ (Mem.le_refl _ _ _ _ (by rw [Mem.add_same]; rfl))) (fun v _ _ e => by rw [e]; rfl) ?_
  rintro n1 n2 n3 n4 m1 hm1 hv
  simp only [Ret, setV, setCs, Value.agg.injEq, Array.mk.injEq, List.cons.injEq, Value.int.injEq, true_and, and_true] at hv
  obtain ⟨rfl, rfl, rfl, rfl⟩ := hv
  refine call_any (cx_rxOf _ _ _ _ (letter_nz c hc) m1 (rep_letter c m1)) tree_fits (tree_k fun t' m2 hm2 hr' ht' => ?_)
  subst ht'
  exact ⟨m2, Mem.le_trans (Mem.le_add hf _) (Mem.le_trans hm1 hm2), Mem.le_refl _, _, rfl, hr', rfl⟩
def fitsB (t : T) : Bool := decide (t.check = 0) && decide (t.size ≤ 60)
theorem cx_fits (t : T) (m : Mem) (hr : Rep m t) : CX Try.prog 49 #[t.v] m [] (Ret (.bool (fitsB t))) := by
  apply cx_law15_fits
  unfold VC_law15_fits
  intro b m1 hm1 _
  refine ⟨fitsB t, call_int (cx_Check false false t m1 (hr.mono hm1)) fun m2 hm2 => br_intro (fun h => ?_) (fun h => ?_), ret_pure hm1 rfl⟩
  · refine call_int (cx_Size t m2 (hr.mono (Mem.le_trans hm1 hm2))) fun m3 hm3 => ⟨by trivial, one_bool ?_⟩
    unfold fitsB
    rw [decide_eq_true (show t.check = 0 from by simpa using h), Bool.true_and]
  · refine ⟨by trivial, one_bool ?_⟩
    unfold fitsB
    rw [decide_eq_false (show ¬ t.check = 0 from by simpa using h), Bool.false_and]
def putL (L : List T) (t : T) (O : List T) : List T := if fitsB t then L ++ [t] else L ++ O
theorem cs_one (t : T) : ∀ u ∈ t.cs, u.oneCell' = true := by
  intro u hu
  simp only [T.cs, List.mem_cons, List.not_mem_nil, or_false] at hu
  rcases hu with rfl | rfl | rfl | rfl | rfl | rfl | rfl | rfl <;> rfl
theorem cellsL_one (L : List T) : ∀ u ∈ Rx.cellsL L, u.oneCell' = true := by
  intro u hu
  simp only [Rx.cellsL, List.mem_flatten, List.mem_map] at hu
  obtain ⟨_, ⟨t, _, rfl⟩, hu⟩ := hu
  exact cs_one t u hu
theorem cxt_put (L : List T) (a : Option Addr) (c : Nat) (t : T) (O : List T) (a2 : Option Addr) (c2 : Nat) (m : Mem) (hL : RepL m a L) (hc : L.length ≤ c) (hl : L.length ≤ 1000) (hr : Rep m t) (hO : RepL m a2 O) (ho : 1 ≤ O.length) (ho2 : O.length ≤ 1000) :
    CXT Try.prog 47 #[.slice a L.length c, t.v, .slice a2 O.length c2] m 8 (ListT (putL L t O)) := by
  apply cxt_law15_put
  unfold VC_law15_put
  intro b m1 hm1 _
  refine ⟨⟨by omega, by omega⟩, ⟨by omega, by omega⟩, call_bool (cx_fits t m1 (hr.mono hm1)) fun m2 hm2 => br_intro (fun h => ?_) (fun h => ?_)⟩
  · intro b3 hf
    have hle := Mem.le_trans hm1 (Mem.le_trans hm2 (Mem.le_add hf t.cs))
    refine ⟨.inr (by show L.length - 0 < L.length - 0 + 1; omega), Rx.cellsL L, t.cs, ?_, rfl, row_of_repL (hL.mono hle), .inr ⟨b3, 0, rfl, ?_⟩, cs_one t, ?_, ?_, ?_⟩
    · rw [cellsL_len]; rfl
    · intro j v hj; rw [Nat.zero_add, Mem.add_same]; exact hj
    · show (L.length - 0 + 1) * 80 ≤ 140737488355328; omega
    · show L.length - 0 + 1 ≤ 9223372036854775807; omega
    · intro a' c' m4 hm4 hrow htf
      refine ⟨rfl, ?_⟩
      have hp : putL L t O = L ++ [t] := by unfold putL; rw [if_pos h]
      rw [hp]
      refine ⟨a', c', by simp, repL_of ?_ ?_ (by rw [List.length_append]; simp; omega), ?_⟩
      · rw [cellsL_append, cells_one]; exact hrow
      · intro x hx
        rcases List.mem_append.1 hx with hx | hx
        · exact (repL_reps hL x hx).mono (Mem.le_trans hle hm4)
        · rw [List.mem_singleton] at hx; subst hx; exact hr.mono (Mem.le_trans hle hm4)
      · have h1 : L.length - 0 + 1 ≤ c' := htf.1
        rw [List.length_append]; simp; omega
  · have hle := Mem.le_trans hm1 hm2
    refine ⟨.inr (by show L.length - 0 < L.length - 0 + O.length; omega), Rx.cellsL L, Rx.cellsL O, ?_, cellsL_len O, row_of_repL (hL.mono hle), row_of_repL (hO.mono hle), cellsL_one O, ?_, ?_, ?_⟩
    · rw [cellsL_len]; rfl
    · show (L.length - 0 + O.length) * 80 ≤ 140737488355328; omega
    · show L.length - 0 + O.length ≤ 9223372036854775807; omega
    · intro a' c' m4 hm4 hrow htf
      refine ⟨rfl, ?_⟩
      have hp : putL L t O = L ++ O := by unfold putL; rw [if_neg (by rw [h]; simp)]
      rw [hp]
      refine ⟨a', c', by simp, repL_of ?_ ?_ (by rw [List.length_append]; omega), ?_⟩
      · rw [cellsL_append]; exact hrow
      · intro x hx
        rcases List.mem_append.1 hx with hx | hx
        · exact (repL_reps hL x hx).mono (Mem.le_trans hle hm4)
        · exact (repL_reps hO x hx).mono (Mem.le_trans hle hm4)
      · have h1 : L.length - 0 + O.length ≤ c' := htf.1
        rw [List.length_append]; omega
end Go.Proofs.Ytmggihkjgbnhbaa

