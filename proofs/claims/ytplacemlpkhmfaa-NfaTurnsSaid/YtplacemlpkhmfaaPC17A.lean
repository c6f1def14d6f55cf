/- Part of the proof: conditions and contracts of functions of this program. No condition of its own. -/
import Derived.Test.YtplacemlpkhmfaaPVNA
import Derived.Test.YtplacemlpkhmfaaMc
import Derived.Test.YtplacemlpkhmfaaMr
set_option linter.unusedVariables false
set_option linter.unusedSimpArgs false
namespace Go.Proofs.Ytplacemlpkhmfaa
open Go Go.Eng Go.Rx Go.Proofs Go.RowKit
set_option maxRecDepth 100000
theorem tdivN (i : Nat) : Int.tdiv (i : Int) 64 = ((i / 64 : Nat) : Int) := rfl
theorem tmodN (i : Nat) : Int.tmod (i : Int) 64 = ((i % 64 : Nat) : Int) := rfl
theorem cx_bhas (f i : Nat) (h : i < 448) (b o : Nat) (m : Mem) (hb : m.reads b o (bwL f)) : CX Try.prog 115 #[.pointer (some ⟨b, o, none⟩), .int .i64 i] m [] (Ret (.bool (f.testBit i))) := by
 apply cx_nfa_bits_has
 unfold VC_nfa_bits_has
 have hq : IntKind.i64.wrap (Int.tdiv (i : Int) 64) = ((i / 64 : Nat) : Int) := by rw [tdivN]; exact wrap64 (by omega) (by omega)
 simp only [hq, Int.toNat_natCast, Nat.mul_one]
 have hbit : (wdN f (i / 64)).testBit (i % 64) = f.testBit i := by
  rw [wdN_bit, show 64 * (i / 64) + i % 64 = i by omega]; simp; omega
 refine ⟨by omega, ⟨by omega, by omega⟩, _, hb (i / 64) _ (bwL_get (by omega)), by omega, chk_intro rfl ⟨by rw [tmodN]; omega, ret_pure (Mem.le_refl _) ?_⟩⟩
 rw [tmodN, Int.toNat_natCast, Nat.min_eq_left (by omega)]
 show Value.bool (IntKind.u64.wrap _ == 1) = _
 simp only [intOf]
 rw [bit_word _ _ (wdN_lt _ _), hbit]
theorem pow_word {i : Nat} : IntKind.u64.wrap (1 * 2 ^ min (Int.toNat (Int.tmod (i : Int) 64)) 64) = ((2 ^ (i % 64) : Nat) : Int) := by
 rw [tmodN, Int.toNat_natCast, Nat.min_eq_left (by omega), Int.one_mul]
 have := wrapU (2 ^ (i % 64)) (by
  have : 2 ^ (i % 64) < 2 ^ 64 := Nat.pow_lt_pow_right (by omega) (by omega)
  exact this)
 rw [← this]; push_cast; rfl
theorem cx_bput (f i : Nat) (h : i < 448) (b T cap : Nat) (A B : List Value) (m : Mem) (hcap : 1 < cap) : CX Try.prog 116 #[.pointer (some ⟨b, A.length, none⟩), .int .i64 i] m [⟨b, A ++ bwL f ++ B, T, cap, false, true⟩]
  (fun v _ css => v = .tuple #[] ∧ css = [A ++ bwL (f ||| 2 ^ i) ++ B]) := by
 apply cx_nfa_bits_put
 unfold VC_nfa_bits_put
 have hq : IntKind.i64.wrap (Int.tdiv (i : Int) 64) = ((i / 64 : Nat) : Int) := by rw [tdivN]; exact wrap64 (by omega) (by omega)
 simp only [hq, pow_word, Int.toNat_natCast, Nat.mul_one]
 have hc : Nat.beq cap 1 = false := beq_ne (by omega)
 simp only [hc, Bool.false_and, cond_false]
 have hlt : 2 ^ (i % 64) < 18446744073709551616 := by
  have : 2 ^ (i % 64) < 2 ^ 64 := Nat.pow_lt_pow_right (by omega) (by omega)
  exact this
 refine ⟨by omega, ⟨by omega, by omega⟩, look_intro (mid_get (bwL_get (by omega))) ⟨by omega, by rw [tmodN]; omega, chk_intro rfl ⟨⟨by omega, by omega⟩, chk_intro (by rw [Nat.ble_eq]; simp [bwL_len]; omega) ⟨by trivial, m, Mem.le_refl _, Mem.le_refl _, by trivial, ?_⟩⟩⟩⟩
 simp only [intOf]
 rw [or_words _ _ (wdN_lt _ _) hlt, splice_mid (by rw [bwL_len]; omega), bw_put (by omega) (by omega), show 64 * (i / 64) + i % 64 = i by omega]
theorem cx_bor (f g : Nat) (b T cap : Nat) (A B : List Value) (m : Mem) (hcap : 1 < cap) : CX Try.prog 141 #[.pointer (some ⟨b, A.length, none⟩), bwV g] m [⟨b, A ++ bwL f ++ B, T, cap, false, true⟩]
  (fun v _ css => v = .tuple #[] ∧ css = [A ++ bwL (f ||| g) ++ B]) := by
 apply cx_nfa_bits_or
 unfold VC_nfa_bits_or
 intro b1 m1 hm1 _
 have hc : Nat.beq cap 1 = false := beq_ne (by omega)
 refine ⟨fun xs css _ m' q => ∃ k : Nat, k ≤ 7 ∧ xs = [.int .i64 k] ∧ css = [A ++ orB f g k ++ B] ∧ q = 7 - k, ⟨7, 0, by omega, rfl, rfl, rfl⟩, ?_⟩
 rintro n cs m2 q hm2 ⟨k, hk, hn, hcs, hq⟩
 obtain rfl : n = k := by simpa using hn
 obtain rfl : cs = A ++ orB f g k ++ B := by simpa using hcs
 refine br_intro (fun hlt => ?_) (fun hge => ?_)
 ·have hlt' : k < 7 := by have := of_decide_eq_true hlt; omega
  have h1 := orB_get (f := f) (g := g) (k := k) hlt'
  rw [if_neg (by omega)] at h1
  have h2 := bwL_get (f := g) hlt'
  simp only [Int.toNat_natCast, Nat.zero_add, Nat.mul_one, hc, Bool.false_and, cond_false]
  refine ⟨⟨by omega, by omega⟩, look_intro (mid_get h1) ⟨⟨by omega, by omega⟩, look_intro h2 (chk_intro rfl ⟨⟨by omega, by omega⟩, chk_intro (by rw [Nat.ble_eq]; simp [orB_len]; omega) ⟨by trivial, 7 - (k + 1), by omega, k + 1, by omega, ?_, ?_, rfl⟩⟩)⟩⟩
  ·rw [wrap64 (by omega) (by omega)]; rfl
  ·simp only [intOf]
   rw [or_words _ _ (wdN_lt _ _) (wdN_lt _ _), splice_mid (by rw [orB_len]; omega), orB_step hlt']
 ·have : k = 7 := by have := of_decide_eq_false hge; omega
  subst this
  exact ⟨rfl, m, Mem.le_refl _, Mem.le_trans hm1 hm2, rfl, rfl⟩
theorem ix_ball1 (f : Nat) (b o c : Nat) (m : Mem) (hb : m.reads b o (bwL f)) (hc : m.reads c 0 [.pointer (some ⟨b, o, none⟩)]) : IX Try.prog 145 [] [.pointer (some ⟨c, 0, none⟩)] m ((bitsW f).map fun i => [.int .i64 (i : Nat)]) := by
 apply ix_nfa_bits_all_1 0 [] [] c 0
 unfold VC_nfa_bits_all_1
 intro l
 refine ⟨fun xs _ _ m' q => ∃ k : Nat, k ≤ 448 ∧ xs = [.int .i64 (((List.range k).filter fun i => f.testBit i).length : Nat), .int .i64 k] ∧ m.le m' ∧ q = 448 - k, ⟨448, 0, by omega, rfl, Mem.le_refl _, rfl⟩, ?_⟩
 rintro y n m1 q hm1 ⟨k, hk, hxs, _, hq⟩
 simp only [List.cons.injEq, Value.int.injEq, true_and, and_true] at hxs
 obtain ⟨rfl, rfl⟩ := hxs
 have hstep : ((List.range (k + 1)).filter fun i => f.testBit i).length = ((List.range k).filter fun i => f.testBit i).length + (if f.testBit k then 1 else 0) := by
  rw [List.range_succ, List.filter_append, List.length_append]; simp [List.filter_cons]; split <;> simp
 refine br_intro (fun hlt => ?_) (fun hge => ?_)
 ·have hlt' : k < 448 := by have := of_decide_eq_true hlt; omega
  refine ⟨_, hm1 _ _ _ (hc 0 _ rfl), call_bool (cx_bhas f k (by omega) b o m1 (hb.mono hm1)) fun m2 hm2 => br_intro (fun h => ?_) (fun h => ?_)⟩
  ·refine ⟨⟨rfl, by omega, ?_⟩, ⟨448 - (k + 1), by omega, k + 1, by omega, ?_, Mem.le_trans hm1 hm2, rfl⟩, .inr rfl⟩
   ·rw [Int.toNat_natCast]
    show ((bitsW f).map fun i => [Value.int .i64 (i : Nat)])[((List.range k).filter fun i => f.testBit i).length]? = _
    rw [List.getElem?_map, bitsW_at f k hlt' h]; rfl
   ·rw [hstep, if_pos h, wrap64 (by omega) (by omega)]; rfl
  ·refine ⟨448 - (k + 1), by omega, k + 1, by omega, ?_, Mem.le_trans hm1 hm2, rfl⟩
   rw [hstep, if_neg (by simp [h]), wrap64 (by omega) (by omega)]; rfl
 ·have : k = 448 := by have := of_decide_eq_false hge; omega
  subst this
  left
  simp [bitsW]
theorem cx_ball (b o : Nat) (m : Mem) : CX Try.prog 111 #[.pointer (some ⟨b, o, none⟩)] m [] (fun v m' _ => ∃ c, v = .func (.func 145) #[] #[.pointer (some ⟨c, 0, none⟩)] ∧ m'.reads c 0 [.pointer (some ⟨b, o, none⟩)]) := by
 apply cx_nfa_bits_all
 unfold VC_nfa_bits_all
 intro c m1 hm1 hc
 exact ⟨m1, hm1, Mem.le_refl _, c, rfl, hc⟩
def natVs (l : List Nat) : List Value := l.map fun i => .int .i64 (i : Nat)
theorem natVs_len (l : List Nat) : (natVs l).length = l.length := by simp [natVs]
def SlN (l : List Nat) (v : Value) (m' : Mem) : Prop := ∃ a c, v = .slice a l.length c ∧ rowRd m' a (natVs l) ∧ (l = [] → a = none)
theorem cx_appseq (f : Nat) (l : List Nat) (g : Nat) (ca : List Value) (m : Mem) (hl : l.length ≤ 1000) (hix : IX Try.prog g [] ca m (l.map fun i => [.int .i64 (i : Nat)])) : CX Try.prog 144 #[.slice none 0 0, .func (.func g) #[] ca.toArray] m [] (fun v m' _ => SlN l v m') := by
 apply cx_slices_AppendSeq_int_int none 0 0 g [] ca
 unfold VC_slices_AppendSeq_int_int
 intro b
 refine ⟨l.map fun i => [.int .i64 (i : Nat)], hix, fun x hx => ?_, fun xs css tvs m' q => ∃ (a : Option Addr) (c : Nat), q ≤ l.length ∧ css = [[.slice a q c]] ∧ tvs = [.slice a q c] ∧ m.le m' ∧ rowRd m' a (natVs (l.take q)) ∧ (q = 0 → a = none), ⟨none, 0, Nat.zero_le _, rfl, rfl, Mem.le_refl _, .inl rfl, fun _ => rfl⟩, ?_, ?_⟩
 ·obtain ⟨i, _, rfl⟩ := List.mem_map.1 hx
  rfl
 ·rintro n cs a n1 c m1 q hm1 hq ⟨a', c', hqle, hcs, htv, _, hrd, hnil⟩
  obtain rfl : cs = [.slice a' q c'] := by simpa using hcs
  obtain ⟨rfl, rfl, rfl⟩ : a = a' ∧ n1 = q ∧ c = c' := by simpa using htv
  have hq' : l[n1]?.map (fun i => [Value.int .i64 (i : Nat)]) = some [.int .i64 n] := by rw [← List.getElem?_map]; exact hq
  cases hli : l[n1]? with
  | none => rw [hli] at hq'; cases hq'
  | some i =>
   rw [hli] at hq'
   obtain rfl : (i : Int) = n := by simpa using hq'
   have hlt := (List.getElem?_eq_some_iff.1 hli).1
   refine look_intro (v := .slice a n1 c) rfl fun b1 hb1 => chk_intro rfl ⟨.inl rfl, natVs (l.take n1), [.int .i64 (i : Nat)], ?_, rfl, hrd.mono (Mem.le_add hb1 _), .inr ⟨b1, 0, rfl, fun j v hv => by rw [Mem.add_same]; simpa using hv⟩, by simp [Value.oneCell'], ?_, ?_, fun a2 c2 m2 hm2 hr2 => ⟨rfl, a2, c2, hlt, ?_, ?_, Mem.le_trans hm1 (Mem.le_trans (Mem.le_add hb1 _) hm2), ?_, fun h => by omega⟩⟩
   ·simp only [natVs_len, List.length_take, slN]; omega
   ·show (n1 + 1) * 8 ≤ _; omega
   ·show n1 + 1 ≤ _; omega
   ·rfl
   ·rfl
   ·have e : natVs (l.take (n1 + 1)) = natVs (l.take n1) ++ [.int .i64 (i : Nat)] := by
     rw [List.take_add_one, hli]; simp [natVs]
    rw [e]; exact hr2
 ·rintro cs a n1 c m1 hm1 ⟨a', c', hqle, hcs, htv, _, hrd, hnil⟩
  obtain rfl : cs = [.slice a' (l.map fun i => [Value.int .i64 (i : Nat)]).length c'] := by simpa using hcs
  refine look_intro (v := .slice a' (l.map fun i => [Value.int .i64 (i : Nat)]).length c') rfl ⟨m1, hm1, Mem.le_refl _, a', c', by simp, by simpa using hrd, fun h => hnil (by simp [h])⟩
theorem cx_collect (l : List Nat) (g : Nat) (ca : List Value) (m : Mem) (hl : l.length ≤ 1000) (hix : IX Try.prog g [] ca m (l.map fun i => [.int .i64 (i : Nat)])) : CX Try.prog 110 #[.func (.func g) #[] ca.toArray] m [] (fun v m' _ => SlN l v m') := by
 apply cx_slices_Collect_int g [] ca
 unfold VC_slices_Collect_int
 refine call_any (cx_appseq 0 l g ca m hl hix) (fun v m' _ h => by obtain ⟨a, c, rfl, _⟩ := h; rfl) fun a n c m1 hm1 h => ⟨m1, hm1, Mem.le_refl _, h⟩
theorem cx_blist (f : Nat) (b o : Nat) (m : Mem) (hb : m.reads b o (bwL f)) : CX Try.prog 62 #[.pointer (some ⟨b, o, none⟩)] m [] (fun v m' _ => SlN (bitsW f) v m') := by
 apply cx_nfa_bits_list
 unfold VC_nfa_bits_list
 refine call_any (cx_ball b o m) (fun v m' _ h => by obtain ⟨c, rfl, _⟩ := h; rfl) fun g fi ca m1 hm1 h => ?_
 obtain ⟨c, hv, hc⟩ := h
 simp only [Value.func.injEq, Fn.func.injEq, Array.mk.injEq] at hv
 obtain ⟨rfl, rfl, rfl⟩ := hv
 exact call_any (cx_collect (bitsW f) _ _ m1 (Nat.le_trans (bitsW_len f) (by omega)) (ix_ball1 f b o c m1 (hb.mono hm1) hc)) (fun v m' _ h => by obtain ⟨a, c, rfl, _⟩ := h; rfl) fun a n c m2 hm2 h => ⟨m2, Mem.le_trans hm1 hm2, Mem.le_refl _, h⟩
end Go.Proofs.Ytplacemlpkhmfaa

