/- Part of the proof: conditions and contracts of functions of this program. No condition of its own. -/
import Derived.Test.YtplacemlpkhmfaaPVD
import Derived.Test.YtplacemlpkhmfaaPC13F
import Derived.Test.YtplacemlpkhmfaaMr
set_option linter.unusedVariables false
set_option linter.unusedSimpArgs false
set_option linter.unusedSectionVars false
namespace Go.Proofs.Ytplacemlpkhmfaa
open Go Go.Eng Go.Rx Go.Proofs Go.RowKit
set_option maxRecDepth 100000
theorem wrap8 {n : Int} (h1 : 0 ≤ n) (h2 : n < 256) : IntKind.u8.wrap n = n := by
 unfold IntKind.wrap
 simp only [IntKind.bits, IntKind.signed, Bool.false_and, Bool.false_eq_true, if_false]
 have e : (2 : Int) ^ 8 = 256 := by decide
 rw [e]; omega
theorem cx_group (t : T) (m : Mem) (hr : Rep m t) : CX Try.prog 66 #[t.v] m [] (TreeR (fun u => ∃ a c, u = nodeT 6 0 0 a c [t])) := by
 apply cx_law08_group
 unfold VC_law08_group
 intro b m1 hm1 _ b1 b2 hf
 have hle := Mem.le_add hf t.cs
 refine ret_all (Mem.le_trans hm1 hle) ⟨nodeT 6 0 0 (some ⟨b2, 0, none⟩) 1 [t], rfl, rep_node_mk (repL_one ?_ (hr.mono (Mem.le_trans hm1 hle))) (by omega) (by omega) (by omega), _, _, rfl⟩
 intro j v hj
 rw [Nat.zero_add, Mem.add_same]; exact hj
theorem cx_rep (t : T) (mn mx : Int) (h1 : -9223372036854775808 ≤ mn ∧ mn ≤ 9223372036854775807) (h2 : -9223372036854775808 ≤ mx ∧ mx ≤ 9223372036854775807) (m : Mem) (hr : Rep m t) : CX Try.prog 67 #[t.v, .int .i64 mn, .int .i64 mx] m [] (TreeR (fun u => ∃ a c, u = nodeT 5 mn mx a c [t])) := by
 apply cx_law08_rep
 unfold VC_law08_rep
 intro b m1 hm1 _ b1 b2 hf
 have hle := Mem.le_add hf t.cs
 refine ret_all (Mem.le_trans hm1 hle) ⟨nodeT 5 mn mx (some ⟨b2, 0, none⟩) 1 [t], rfl, rep_node_mk (repL_one ?_ (hr.mono (Mem.le_trans hm1 hle))) (by omega) h1 h2, _, _, rfl⟩
 intro j v hj
 rw [Nat.zero_add, Mem.add_same]; exact hj
def bytesN (s : ByteArray) : List Nat := s.data.toList.map fun b => b.toNat
theorem bytesN_len (s : ByteArray) : (bytesN s).length = s.size := by unfold bytesN; rw [List.length_map, Array.length_toList]; rfl
theorem bytesN_lt (s : ByteArray) : ∀ c ∈ bytesN s, c < 256 := by
 intro c hc
 unfold bytesN at hc
 obtain ⟨b, _, rfl⟩ := List.mem_map.1 hc
 exact b.toBitVec.isLt
theorem strAt_eq {s : ByteArray} {k c : Nat} (h : (bytesN s)[k]? = some c) : strAt s k = (c : Int) := by
 unfold bytesN at h
 rw [List.getElem?_map] at h
 obtain ⟨b, hb, rfl⟩ := Option.map_eq_some_iff.1 h
 unfold strAt
 rw [List.getD_eq_getElem?_getD, hb]; rfl
theorem cx_lclass (s : ByteArray) (hs : (bytesN s).length ≤ 100000) (m : Mem) : CX Try.prog 63 #[.string s] m [] (TreeR (fun t => t = classT (bytesN s))) := by
 apply cx_law08_class
 unfold VC_law08_class
 intro b b1
 have hlen := bytesN_len s
 refine ⟨fun xs css tvs m' q => ∃ k : Nat, k ≤ s.size ∧ xs = [.int .i64 k] ∧ css = [setsL ((bytesN s).take k)] ∧ q = s.size - k, ⟨_, 0, by omega, rfl, rfl, rfl⟩, ?_⟩
 rintro n cs m1 q hm1 ⟨k, hk, hn, hcs, hq⟩
 obtain rfl : n = k := by simpa using hn
 obtain rfl : cs = setsL ((bytesN s).take k) := by simpa using hcs
 refine br_intro (fun hlt => ?_) (fun hge => ?_)
 ·have hlt' : k < s.size := by have := of_decide_eq_true hlt; omega
  obtain ⟨c, hc⟩ := at_some (l := bytesN s) (k := k) (by omega)
  have hc256 := bytesN_lt s c (List.mem_of_getElem? hc)
  have hw : IntKind.i64.wrap ((k : Int) + 1) = ((k + 1 : Nat) : Int) := by rw [wrap64 (by omega) (by omega)]; rfl
  have hq8 : IntKind.u8.wrap (Int.tdiv (c : Int) 64) = ((c / 64 : Nat) : Int) := by rw [tdivN]; exact wrap8 (by omega) (by omega)
  have hr : IntKind.u64.wrap (1 * 2 ^ min (Int.toNat (Int.tmod (c : Int) 64)) 64) = ((2 ^ (c % 64) : Nat) : Int) := by
   rw [tmodN, Int.toNat_natCast, Nat.min_eq_left (by omega), Int.one_mul]
   have := wrapU (2 ^ (c % 64)) (by
    have : 2 ^ (c % 64) < 2 ^ 64 := Nat.pow_lt_pow_right (by omega) (by omega)
    exact this)
   rw [← this]; push_cast; rfl
  have h2 : (2 : Nat) ^ (c % 64) < 18446744073709551616 := by
   have : (2 : Nat) ^ (c % 64) < 2 ^ 64 := Nat.pow_lt_pow_right (by omega) (by omega)
   exact this
  have hj : c / 64 < 4 := by omega
  simp only [hw, Int.toNat_natCast, strAt_eq hc, hq8, hr, Nat.zero_add, Nat.mul_one]
  refine ⟨⟨by omega, by omega⟩, by omega, ⟨by omega, by omega⟩, look_intro (setsL_get _ hj) ⟨⟨by omega, by omega⟩, by omega, by rw [tmodN]; omega, chk_intro rfl ⟨⟨by omega, by omega⟩, chk_intro (by rw [Nat.ble_eq]; show c / 64 + 1 ≤ 4; omega) ⟨by trivial, s.size - (k + 1), by omega, k + 1, by omega, rfl, ?_, rfl⟩⟩⟩⟩
  simp only [intOf]
  rw [or_words _ _ (setW_lt _ _) h2, setsL_step _ rfl hj, take_at hc]
 ·have : k = s.size := by have := of_decide_eq_false hge; omega
  subst this
  rw [← hlen, List.take_length]
  exact chk_intro rfl (chk_intro rfl (ret_pure hm1 ⟨classT (bytesN s), rfl, rep_class _ m, rfl⟩))
theorem cx_letters (n : Nat) (hn : n < 256) (m : Mem) : CX Try.prog 64 #[.int .u8 n] m [] (fun v _ _ => ∃ s, v = .string s ∧ bytesN s = lettersB n) := by
 apply cx_law08_letters
 unfold VC_law08_letters
 intro b hf
 have ht : Int.tmod (n : Int) 12 = ((n % 12 : Nat) : Int) := rfl
 simp only [ht, Int.toNat_natCast, Nat.mul_one]
 refine ⟨by omega, ⟨by omega, by omega⟩, ?_⟩
 have h : n % 12 = 0 ∨ n % 12 = 1 ∨ n % 12 = 2 ∨ n % 12 = 3 ∨ n % 12 = 4 ∨ n % 12 = 5 ∨ n % 12 = 6 ∨ n % 12 = 7 ∨ n % 12 = 8 ∨ n % 12 = 9 ∨ n % 12 = 10 ∨ n % 12 = 11 := by omega
 unfold lettersB
 rcases h with e | e | e | e | e | e | e | e | e | e | e | e <;>
 ·rw [e]
  refine look_intro rfl ?_
  exact ⟨_, Mem.le_add hf _, Mem.le_refl _, _, rfl, rfl⟩
end Go.Proofs.Ytplacemlpkhmfaa

