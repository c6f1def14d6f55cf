/- Part of the proof: conditions and contracts of functions of this program. No condition of its own. -/
import Derived.Test.YtmggihkjgbnhbaaPC15G
import Derived.Test.YtmggihkjgbnhbaaPVLA
set_option linter.unusedVariables false
set_option linter.unusedSimpArgs false
set_option linter.unusedSectionVars false
namespace Go.Proofs.Ytmggihkjgbnhbaa
open Go Go.Eng Go.Rx Go.Proofs Go.RowKit
set_option maxRecDepth 100000
theorem bit8 : ∀ c : Fin 256, IntKind.u64.wrap (((BitVec.ofInt 64 0 ||| BitVec.ofInt 64 (IntKind.u64.wrap (1 * 2 ^ min (IntKind.u8.wrap ((BitVec.ofInt 8 (c.val : Int) &&& BitVec.ofInt 8 63).toNat : Int)).toNat 64))).toNat : Nat) : Int) = ((2 ^ (c.val % 64) : Nat) : Int) := by decide +kernel
theorem bit8' {c : Nat} (hc : c < 256) : IntKind.u64.wrap (((BitVec.ofInt 64 0 ||| BitVec.ofInt 64 (IntKind.u64.wrap (1 * 2 ^ min (IntKind.u8.wrap ((BitVec.ofInt 8 (c : Int) &&& BitVec.ofInt 8 63).toNat : Int)).toNat 64))).toNat : Nat) : Int) = ((2 ^ (c % 64) : Nat) : Int) := bit8 ⟨c, hc⟩
theorem shift8 : ∀ c : Fin 256, (0 : Int) ≤ IntKind.u8.wrap ((BitVec.ofInt 8 (c.val : Int) &&& BitVec.ofInt 8 63).toNat : Int) ∧ Int.fdiv (c.val : Int) (2 ^ 6) = ((c.val / 64 : Nat) : Int) := by decide +kernel
def setV (t : T) : Value := .agg (setCs t).toArray
theorem cx_setsOf1 (c : Nat) (hc : c < 256) (b o k : Nat) (m : Mem) (h : m b o = some (.int .u8 (c : Nat))) : CX Try.prog 17 #[.slice (some ⟨b, o, none⟩) 1 k] m [] (Ret (setV (letterT c))) := by
 apply cx_sets_Of
 unfold VC_sets_Of
 intro b1 b2
 have hs := shift8 ⟨c, hc⟩
 simp only at hs
 refine ⟨fun xs css tvs m' q => (xs = [.int .i64 0] ∧ css = [[.int .u64 0, .int .u64 0, .int .u64 0, .int .u64 0]] ∧ q = 1) ∨ (xs = [.int .i64 1] ∧ css = [setCs (letterT c)] ∧ q = 0), ⟨1, .inl ⟨rfl, rfl, rfl⟩⟩, ?_⟩
 rintro n cs m1 q hm1 (⟨hx, hcs, hq⟩ | ⟨hx, hcs, hq⟩)
 ·obtain rfl : n = 0 := by simpa using hx
  obtain rfl : cs = _ := by simpa using hcs
  refine br_t rfl ⟨b, o, rfl, ⟨by omega, by omega⟩, .int .u8 (c : Nat), ?_, chk_intro rfl ⟨by decide, ?_, ?_⟩⟩
  ·have := hm1 _ _ _ h
   simpa using this
  ·show inRange (Int.fdiv (c : Int) (2 ^ 6)) 4
   rw [hs.2]
   exact ⟨by omega, by omega⟩
  ·show Eng.look _ (0 + (Int.fdiv (c : Int) (2 ^ 6)).toNat * 1) _
   rw [hs.2, Int.toNat_natCast, Nat.mul_one, Nat.zero_add]
   have hj : c / 64 = 0 ∨ c / 64 = 1 ∨ c / 64 = 2 ∨ c / 64 = 3 := by omega
   have hget : ([.int .u64 0, .int .u64 0, .int .u64 0, .int .u64 0] : List Value)[c / 64]? = some (.int .u64 0) := by
    rcases hj with e | e | e | e <;> rw [e] <;> rfl
   refine look_intro hget (chk_intro rfl ⟨hs.1, chk_intro rfl ⟨?_, chk_intro ?_ ⟨by trivial, 0, by omega, .inr ⟨?_, ?_, rfl⟩⟩⟩⟩)
   ·show inRange (Int.fdiv (c : Int) (2 ^ 6)) 4
    rw [hs.2]
    exact ⟨by omega, by omega⟩
   ·show Nat.ble (0 + (Int.fdiv (c : Int) (2 ^ 6)).toNat * 1 + 1) 4 = true
    rw [hs.2]
    rw [Nat.ble_eq]
    omega
   ·rw [wrap64 (by omega) (by omega)]; rfl
   ·show [splice _ (0 + (Int.fdiv (c : Int) (2 ^ 6)).toNat * 1) [.int .u64 (IntKind.u64.wrap (((BitVec.ofInt 64 0 ||| BitVec.ofInt 64 (IntKind.u64.wrap (1 * 2 ^ min (IntKind.u8.wrap ((BitVec.ofInt 8 (c : Int) &&& BitVec.ofInt 8 63).toNat : Int)).toNat 64))).toNat : Nat) : Int))]] = _
    rw [hs.2, bit8' hc, Int.toNat_natCast, Nat.mul_one, Nat.zero_add]
    unfold setCs letterT T.s0 T.s1 T.s2 T.s3 wordI
    rcases hj with e | e | e | e <;> simp [e, splice]
 ·obtain rfl : n = 1 := by simpa using hx
  obtain rfl : cs = _ := by simpa using hcs
  exact br_f rfl (chk_intro rfl (ret_pure hm1 rfl))
theorem cx_rxOf (a b c d : Int) (hz : ¬ (a = 0 ∧ b = 0 ∧ c = 0 ∧ d = 0)) (m : Mem) (hr : Rep m (.node 2 a b c d 0 0 none 0 [])) : CX Try.prog 45 #[.agg #[.int .u64 a, .int .u64 b, .int .u64 c, .int .u64 d]] m [] (TreeR fun t => t = .node 2 a b c d 0 0 none 0 []) := by
 apply cx_rx_Of
 unfold VC_rx_Of
 intro b1 m1 hm1 _ b2
 refine ⟨_, eq_set _ _ _ _ _ _ _ _, br_f ?_ ⟨m1, hm1, Mem.le_refl _, _, rfl, hr.mono hm1, rfl⟩⟩
 cases h : (a == 0 && b == 0 && c == 0 && d == 0) with
 | false => rfl
 | true => simp only [Bool.and_eq_true, beq_iff_eq] at h; exact absurd ⟨h.1.1.1, h.1.1.2, h.1.2, h.2⟩ hz
theorem letter_nz (c : Nat) (hc : c < 256) : ¬ (wordI c 0 = 0 ∧ wordI c 1 = 0 ∧ wordI c 2 = 0 ∧ wordI c 3 = 0) := by
 rintro ⟨h0, h1, h2, h3⟩
 have hp : (0 : Int) < ((2 ^ (c % 64) : Nat) : Int) := by
  have : 0 < 2 ^ (c % 64) := Nat.two_pow_pos _
  omega
 have hj : c / 64 = 0 ∨ c / 64 = 1 ∨ c / 64 = 2 ∨ c / 64 = 3 := by omega
 unfold wordI at h0 h1 h2 h3
 rcases hj with e | e | e | e
 ·rw [if_pos e] at h0; omega
 ·rw [if_pos e] at h1; omega
 ·rw [if_pos e] at h2; omega
 ·rw [if_pos e] at h3; omega
theorem cx_Byte (c : Nat) (hc : c < 256) (m : Mem) : CX Try.prog 31 #[.int .u8 (c : Nat)] m [] (TreeR fun t => t = letterT c) := by
 apply cx_rx_Byte
 unfold VC_rx_Byte
 intro b0 b1 hf
 refine call_any (cx_setsOf1 c hc b1 0 1 _ (Mem.le_refl _ _ _ _ (by rw [Mem.add_same]; rfl))) (fun v _ _ e => by rw [e]; rfl) ?_
 rintro n1 n2 n3 n4 m1 hm1 hv
 simp only [Ret, setV, setCs, Value.agg.injEq, Array.mk.injEq, List.cons.injEq, Value.int.injEq, true_and, and_true] at hv
 obtain ⟨rfl, rfl, rfl, rfl⟩ := hv
 refine call_any (cx_rxOf _ _ _ _ (letter_nz c hc) m1 (rep_letter c m1)) tree_fits (tree_k fun t' m2 hm2 hr' ht' => ?_)
 subst ht'
 exact ⟨m2, Mem.le_trans (Mem.le_add hf _) (Mem.le_trans hm1 hm2), Mem.le_refl _, _, rfl, hr', rfl⟩
def fitsB (t : T) : Bool := decide (t.check = 0) && decide (t.size ≤ 60)
theorem cs_one (t : T) : ∀ u ∈ t.cs, u.oneCell' = true := by
 intro u hu
 simp only [T.cs, List.mem_cons, List.not_mem_nil, or_false] at hu
 rcases hu with rfl | rfl | rfl | rfl | rfl | rfl | rfl | rfl <;> rfl
end Go.Proofs.Ytmggihkjgbnhbaa

