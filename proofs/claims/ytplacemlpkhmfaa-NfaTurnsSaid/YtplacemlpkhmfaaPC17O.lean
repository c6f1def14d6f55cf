/- Part of the proof: conditions and contracts of functions of this program. No condition of its own. -/
import Derived.Test.YtplacemlpkhmfaaPC17N
import Derived.Test.YtplacemlpkhmfaaMr
import Derived.Test.YtplacemlpkhmfaaMc
set_option linter.unusedVariables false
set_option linter.unusedSimpArgs false
namespace Go.Proofs.Ytplacemlpkhmfaa
open Go Go.Eng Go.Rx Go.Proofs Go.RowKit
set_option maxRecDepth 100000
theorem cx_bhas_x (f i : Nat) (h : i < 448) (b T cap : Nat) (m : Mem) : CX Try.prog 115 #[.pointer (some ⟨b, 0, none⟩), .int .i64 i] m [⟨b, bwL f, T, cap, false, true⟩] (fun v _ css => v = .bool (f.testBit i) ∧ css = [bwL f]) := by
 apply cx_nfa_bits_has_x
 unfold VC_nfa_bits_has_x
 have hq : IntKind.i64.wrap (Int.tdiv (i : Int) 64) = ((i / 64 : Nat) : Int) := by rw [tdivN]; exact wrap64 (by omega) (by omega)
 simp only [hq, Int.toNat_natCast, Nat.mul_one]
 have hbit : (wdN f (i / 64)).testBit (i % 64) = f.testBit i := by
  rw [wdN_bit, show 64 * (i / 64) + i % 64 = i by omega]; simp; omega
 refine ⟨by omega, ⟨by omega, by omega⟩, look_intro (by rw [Nat.zero_add]; exact bwL_get (by omega)) ⟨by omega, chk_intro rfl ⟨by rw [tmodN]; omega, by trivial, m, Mem.le_refl _, Mem.le_refl _, ?_, by trivial⟩⟩⟩
 rw [tmodN, Int.toNat_natCast, Nat.min_eq_left (by omega)]
 simp only [intOf]
 rw [bit_word _ _ (wdN_lt _ _), hbit]
def TailOf (a3 : Option Addr) (n1 c1 : Nat) (a : Option Addr) (n c : Nat) : Prop := n ≤ c ∧ ((∃ k, k ≤ n1 ∧ n1 ≤ c1 ∧ a = slBase a3 k c1 1 ∧ n = n1 - k ∧ c = c1 - k ∧ (k = 0 ∨ ∃ b o, a3 = some ⟨b, o, none⟩)) ∨ c = 0)
theorem TailOf.self {a : Option Addr} {n c : Nat} (h : n ≤ c) : TailOf a n c a n c := ⟨h, .inl ⟨0, Nat.zero_le _, h, by simp [slBase], rfl, rfl, .inl rfl⟩⟩
theorem TailOf.pop {a3 : Option Addr} {n1 c1 : Nat} {b o : Nat} {n c : Nat} (h : TailOf a3 n1 c1 (some ⟨b, o, none⟩) n c) (hn : 0 < n) : TailOf a3 n1 c1 (slBase (some ⟨b, o, none⟩) 1 c 1) (n - 1) (c - 1) := by
 obtain ⟨hnc, h | h⟩ := h
 ·obtain ⟨k, h1, h2, h3, h4, h5, h6⟩ := h
  refine ⟨by omega, ?_⟩
  by_cases hc : c = 1
  ·exact .inr (by omega)
  ·left
   refine ⟨k + 1, by omega, h2, ?_, by omega, by omega, .inr ?_⟩
   ·have e1 : slBase (some (Addr.mk b o none)) 1 c 1 = some ⟨b, o + 1, none⟩ := by
     simp only [slBase, Nat.beq, cond_false, beq_ne hc, Option.map_some, Nat.mul_one]
     rw [addr_add]
    rw [e1]
    by_cases hk : k = 0
    ·subst hk
     have e2 : a3 = some ⟨b, o, none⟩ := by simpa [slBase] using h3.symm
     rw [e2]
     simp only [slBase, beq_ne (show 0 + 1 ≠ 0 by omega), beq_ne (show c1 ≠ 0 + 1 by omega), cond_false, Option.map_some]
     rw [addr_add]
    ·obtain ⟨b', o', rfl⟩ := h6.resolve_left hk
     have e2 : slBase (some (Addr.mk b' o' none)) k c1 1 = some ⟨b', o' + k, none⟩ := by
      simp only [slBase, beq_ne hk, beq_ne (show c1 ≠ k by omega), cond_false, Option.map_some, Nat.mul_one]
      rw [addr_add]
     rw [e2] at h3
     simp only [Option.some.injEq, Addr.mk.injEq, and_true] at h3
     obtain ⟨rfl, rfl⟩ := h3
     simp only [slBase, beq_ne (show k + 1 ≠ 0 by omega), beq_ne (show c1 ≠ k + 1 by omega), cond_false, Option.map_some, Nat.mul_one]
     rw [addr_add, Nat.add_assoc]
   ·by_cases hk : k = 0
    ·subst hk
     exact ⟨b, o, by simpa [slBase] using h3.symm⟩
    ·exact h6.resolve_left hk
 ·omega
theorem row_tail {m : Mem} {b o c : Nat} {x : Int} {l : List Int} (h : m.reads b o (intVs (x :: l))) (hc : (x :: l).length ≤ c) : rowRd m (slBase (some ⟨b, o, none⟩) 1 c 1) (intVs l) := by
 cases l with
 | nil => exact .inl rfl
 | cons y l =>
  simp only [List.length_cons] at hc
  have e1 : slBase (some (Addr.mk b o none)) 1 c 1 = some ⟨b, o + 1, none⟩ := by
   simp only [slBase, Nat.beq, cond_false, beq_ne (show c ≠ 1 by omega), Option.map_some, Nat.mul_one]
   rw [addr_add]
  rw [e1]
  refine .inr ⟨b, o + 1, rfl, fun j v hj => ?_⟩
  have := h (j + 1) v (by simpa [intVs] using hj)
  rwa [show o + 1 + j = o + (j + 1) by omega]
theorem cxt_CloneC (l : List Int) (a : Option Addr) (c : Nat) (m : Mem) (h1 : rowRd m a (intVs l)) (h2 : l.length ≤ 1000000) : CXT Try.prog 44 #[.slice a l.length c] m 1 (fun v m' _ => ∃ a c, v = .slice a l.length c ∧ rowRd m' a (intVs l) ∧ l.length ≤ c) := by
 apply cxt_slices_Clone_int_int
 unfold VC_slices_Clone_int_int
 refine br_intro (fun hn => ?_) (fun hn => ⟨⟨rfl, Int.le_refl _, by decide, by decide⟩, fun b hb => ⟨.inl rfl, [], intVs l, rfl, by rw [intVs_len]; omega, .inl rfl, h1, fun u hu => ?_, by omega, by omega, fun a' c' m' hm' hr htf => ⟨rfl, a', c', by rw [Nat.zero_add], hr, by rw [Nat.zero_add] at htf; exact htf.1⟩⟩⟩)
 ·have := rowRd_none h1 hn
  obtain rfl : l = [] := by simpa [intVs] using this
  exact ⟨rfl, none, 0, rfl, .inl rfl, Nat.le_refl _⟩
 ·obtain ⟨i, _, rfl⟩ := List.mem_map.1 hu
  rfl
theorem cx_reached {st : Bool} (A : Nf) (hA : A.Ok) (v : Value) (m : Mem) (h : NfR st A v m) : CX Try.prog 69 #[v] m [] (fun v _ _ => ∃ f : Nat, v = bwV f ∧ ∀ i, f.testBit i = true ↔ A.Reach i) := by
 have hn := hA.n
 have hlen := hA.len
 obtain ⟨s, f, x, y, rfl, ⟨sa, sc, rfl, hs', hsl, hsn⟩, ⟨fa, fc, vs, rfl, hf, hfn, hfl, hfv⟩, ⟨xa, xc, rfl, hx, hxl, hxn⟩, ⟨ya, yc, rfl, hy, hyl, hyn⟩⟩ := h
 apply cx_nfa_reached
 unfold VC_nfa_reached
 intro b m1 hm1 _ _ _ b1 b2
 refine ⟨_, cxt_CloneC A.first xa xc m1 (hx.mono hm1) hxl, (by rintro v m' css ⟨a, c, rfl, _⟩; rfl), ?_⟩
 rintro a n c m2 hm2 ⟨a', c', hv, hrow, hnc⟩
 simp only [Value.slice.injEq] at hv
 obtain ⟨rfl, rfl, rfl⟩ := hv
 have h02 := Mem.le_trans hm1 hm2
 refine ⟨fun xs css tvs m' q => ∃ (todo : List Int) (f : Nat) (a : Option Addr) (c : Nat) (a3 : Option Addr) (n1 c1 : Nat), xs = [.slice a todo.length c] ∧ css = [bwL f] ∧ tvs = [.slice a3 n1 c1] ∧ m2.le m' ∧ rowRd m' a (intVs todo) ∧ TailOf a3 n1 c1 a todo.length c ∧ Seek A todo f ∧ todo.length + 1000001 * unseen f ≤ 1000000000 ∧ q = todo.length + 1000001 * unseen f,
  ⟨_, A.first, 0, a, c, a, A.first.length, c, rfl, by rw [bw_zero], rfl, Mem.le_refl _, hrow, TailOf.self hnc, Seek.start hA, by have := unseen_le 0; omega, rfl⟩, ?_⟩
 rintro a n c cs a3 n1 c1 m3 q _ ⟨todo, f, a', c', a3', n1', c1', hx, hcs, htv, hm3, hrow3, htail, hseek, hbd, hq⟩
 simp only [List.cons.injEq, Value.slice.injEq, and_true] at hx htv
 obtain ⟨rfl, rfl, rfl⟩ := hx
 obtain ⟨rfl, rfl, rfl⟩ := htv
 obtain rfl : cs = bwL f := by simpa using hcs
 subst hq
 have h03 := Mem.le_trans h02 hm3
 refine br_intro (fun hgt => ?_) (fun hgt => ?_)
 ·have hpos : 0 < todo.length := by have := of_decide_eq_true hgt; omega
  obtain ⟨p, rest, rfl⟩ : ∃ p rest, todo = p :: rest := by
   cases todo with
   | nil => simp at hpos
   | cons p rest => exact ⟨p, rest, rfl⟩
  rcases hrow3 with h0 | ⟨tb, to_, rfl, hrd⟩
  ·simp [intVs] at h0
  have hp := hseek.rng p (by simp)
  obtain ⟨i, rfl⟩ : ∃ i : Nat, p = i := ⟨p.toNat, by omega⟩
  have hi : i < A.fol.length := by have := hp.2.1; unfold Nf.top at this; omega
  have hp0 := hrd 0 (.int .i64 (i : Int)) rfl
  have htail2 := htail.pop hpos
  have hrow4 := row_tail hrd htail.1
  have hrl : ((i : Int) :: rest).length - 1 = rest.length := by simp
  have hrl2 : ((i : Int) :: rest).length = rest.length + 1 := by simp
  simp only [show Int.toNat 1 = 1 from rfl]
  refine ⟨tb, to_, rfl, ⟨by omega, by omega⟩, _, hp0, ⟨by omega, by omega⟩, ?_⟩
  refine ⟨_, trivial, cx_bhas_x f i (by omega) b2 100 7 m3, (by rintro v m' css ⟨rfl, _⟩; rfl), ?_⟩
  rintro bb m4 hm4 cs4 ⟨hbb, hcs4⟩
  simp only [Value.bool.injEq] at hbb
  subst hbb
  obtain rfl : cs4 = bwL f := by simpa using hcs4
  refine br_intro (fun hb => ?_) (fun hb => ?_)
  ·have hb' : f.testBit i = false := by simpa using hb
   refine ⟨_, trivial, cx_bput f i (by omega) b2 100 7 [] [] m4 (by omega), fun v _ _ h => by rw [h.1]; rfl, fun m5 hm5 cs5 hcs5 => ?_⟩
   have hcs5' := hcs5.2
   simp only [List.nil_append, List.append_nil] at hcs5'
   obtain rfl : cs5 = bwL (f ||| 2 ^ i) := by simpa using hcs5'
   obtain ⟨l, hl⟩ := at_some' hi
   obtain ⟨u, hu⟩ := at_some' (l := vs) (k := i) (by omega)
   have h35 := Mem.le_trans hm4 hm5
   obtain ⟨la, lc, rfl, hlr, hll, _⟩ := (hfv _ u l hu hl).mono (Mem.le_trans h03 h35)
   obtain ⟨fb, fo, hfa, hfrd⟩ := row1_get (hf.mono (Mem.le_trans h03 h35)) hu
   have hseek2 := hseek.take hA (by simpa using hl)
   simp only [Int.toNat_natCast] at hseek2
   have hun := unseen_put (by omega) hb'
   refine chk_intro rfl ⟨fb, fo, hfa, ⟨by show (0 : Int) ≤ i; omega, by show (i : Int) < (A.fol.length : Nat); omega⟩, .slice la l.length lc, (show m5 fb (fo + (i : Int).toNat * 1) = _ from hfrd), chk_intro rfl (br_intro (fun hz => ?_) (fun hz => ?_))⟩
   ·have hl0 : l = [] := List.eq_nil_of_length_eq_zero (Nat.eq_of_beq_eq_true hz)
    subst hl0
    rw [List.append_nil] at hseek2
    refine chk_intro (by rw [Nat.ble_eq]; exact htail2.1) ⟨by trivial, by trivial, _, ?_, rest, f ||| 2 ^ i, _, _, _, _, _, by rw [hrl], rfl, rfl, Mem.le_trans hm3 h35, hrow4.mono h35, by rw [← hrl]; exact htail2, hseek2, ?_, rfl⟩
    ·rw [hrl2]; omega
    ·rw [hrl2] at hbd; omega
   ·have hl0 : l.length ≠ 0 := fun e => by simp only [slN] at hz; rw [e] at hz; cases hz
    refine ⟨?_, intVs rest, intVs l, by rw [intVs_len, hrl]; omega, by rw [intVs_len]; exact (Nat.mul_one _).symm, hrow4.mono h35, hlr, fun u hu => ?_, ?_, ?_, fun a' c' m6 hm6 hr6 htf => ?_⟩
    ·obtain ⟨hnc2, hk | hk⟩ := htail2
     ·obtain ⟨k, k1, k2, k3, k4, k5, _⟩ := hk
      exact .inl ⟨a3, n1, c1, k, rfl, k1, by rw [k3, k4, k5]⟩
     ·refine .inr (.inr ?_)
      rw [hk]; show 0 < _ + l.length; omega
    ·obtain ⟨z, _, rfl⟩ := List.mem_map.1 hu
     rfl
    ·rw [hrl]; show (rest.length + l.length) * 8 ≤ _
     rw [hrl2] at hbd; omega
    ·rw [hrl]; show rest.length + l.length ≤ _
     rw [hrl2] at hbd; omega
    ·have hl2 : ((i : Int) :: rest).length - 1 + slN (.slice la l.length lc) = (rest ++ l).length := by rw [hrl, List.length_append]; rfl
     rw [hl2] at htf
     refine ⟨by trivial, by trivial, _, ?_, rest ++ l, f ||| 2 ^ i, a', c', a', (rest ++ l).length, c', by rw [hl2], rfl, by rw [hl2], Mem.le_trans hm3 (Mem.le_trans h35 hm6), by rw [intVs_app]; exact hr6, TailOf.self htf.1, hseek2, ?_, rfl⟩
     ·rw [hrl2, List.length_append]; omega
     ·rw [hrl2] at hbd; rw [List.length_append]; omega
  ·have hb' : f.testBit i = true := by simpa using hb
   refine ⟨by trivial, by trivial, _, ?_, rest, f, _, _, _, _, _, by rw [hrl], rfl, rfl, Mem.le_trans hm3 hm4, hrow4.mono hm4, by rw [← hrl]; exact htail2, hseek.skip (by simpa using hb'), ?_, rfl⟩
   ·rw [hrl2]; omega
   ·rw [hrl2] at hbd; omega
 ·have h0 : todo = [] := List.eq_nil_of_length_eq_zero (by have := of_decide_eq_false hgt; omega)
  subst h0
  exact chk_intro rfl ⟨m3, h03, Mem.le_refl _, f, rfl, hseek.done hA⟩
theorem wdN_and (f g j : Nat) : wdN (f &&& g) j = wdN f j &&& wdN g j := by
 apply Nat.eq_of_testBit_eq
 intro k
 simp only [wdN_bit, Nat.testBit_and]
 cases decide (k < 64) <;> simp
theorem and_words (a b : Nat) (ha : a < 18446744073709551616) (hb : b < 18446744073709551616) : IntKind.u64.wrap ((BitVec.ofInt 64 (a : Int) &&& BitVec.ofInt 64 (b : Int)).toNat : Int) = ((a &&& b : Nat) : Int) := by
 rw [BitVec.toNat_and, bvOf a ha, bvOf b hb]
 exact wrapU _ (Nat.lt_of_le_of_lt Nat.and_le_left ha)
open Classical in
noncomputable def liveL (A : Nf) : List Int := ((List.range 448).filter fun i => decide (A.Reach i ∧ A.turn.Reach i)).map fun i : Nat => (i : Int)
theorem andW (f g : Nat) : ∀ j, j < 7 → IntKind.u64.wrap ((BitVec.ofInt 64 ((wdN f j : Nat) : Int) &&& BitVec.ofInt 64 ((wdN g j : Nat) : Int)).toNat : Int) = ((wdN (f &&& g) j : Nat) : Int) := by
 intro j _
 rw [and_words _ _ (wdN_lt _ _) (wdN_lt _ _), wdN_and]
def andB (f g k : Nat) : List Value := (List.range 7).map fun j => .int .u64 ((if j < k then wdN (f &&& g) j else wdN f j : Nat) : Int)
theorem andB_get {f g k j : Nat} (h : j < 7) : (andB f g k)[j]? = some (.int .u64 ((if j < k then wdN (f &&& g) j else wdN f j : Nat) : Int)) := by
 simp [andB, h]
theorem andB_step {f g k : Nat} (h : k < 7) : splice (andB f g k) k [.int .u64 ((wdN (f &&& g) k : Nat) : Int)] = andB f g (k + 1) := by
 have : k = 0 ∨ k = 1 ∨ k = 2 ∨ k = 3 ∨ k = 4 ∨ k = 5 ∨ k = 6 := by omega
 rcases this with rfl | rfl | rfl | rfl | rfl | rfl | rfl <;> rfl
theorem nfE_fits {A : Nf} {e : Int} : ∀ (v : Value) (m' : Mem) (css : List (List Value)), NfE A e v m' css → Shape.fits (.tup [.agg [.slice, .slice, .slice, .slice, .bool], .int .i64]) v = true := by
 rintro v m' css ⟨w, rfl, s, f, x, y, rfl, ⟨_, _, rfl, _⟩, ⟨_, _, _, rfl, _⟩, ⟨_, _, rfl, _⟩, ⟨_, _, rfl, _⟩⟩; rfl
theorem bw_fits {φ : Nat → Prop} : ∀ (v : Value) (m' : Mem) (css : List (List Value)), (∃ f : Nat, v = bwV f ∧ φ f) → Shape.fits (.agg [.int .u64, .int .u64, .int .u64, .int .u64, .int .u64, .int .u64, .int .u64]) v = true := by
 rintro v m' css ⟨f, rfl, _⟩; rfl
theorem cx_Live_ok (A : Nf) (v : Value) (m : Mem) (h : NfR true A v m) (hr : A.right = true) : CX Try.prog 20 #[v] m [] (LstE (liveL A) 0) := by
 have h' := h
 have hA := right_ok.1 hr
 obtain ⟨s, f, x, y, rfl, ⟨sa, sc, rfl, hs', hsl, hsn⟩, ⟨fa, fc, vs, rfl, hf, hfn, hfl, hfv⟩, ⟨xa, xc, rfl, hx, hxl, hxn⟩, ⟨ya, yc, rfl, hy, hyl, hyn⟩⟩ := h
 apply cx_nfa_Live
 unfold VC_nfa_Live
 intro b m1 hm1 _
 refine call_any (cx_Turn_ok A _ m1 (h'.mono hm1) hr) nfE_fits ?_
 rintro a0 n0 c0 a1 n1 c1 a2 n2 c2 a3 n3 c3 b5 e m2 hm2 ⟨w, hv, hR2⟩
 simp only [Value.tuple.injEq, Array.mk.injEq, List.cons.injEq, Value.int.injEq, true_and, and_true] at hv
 obtain ⟨rfl, rfl⟩ := hv
 have h02 := Mem.le_trans hm1 hm2
 intro b2
 refine br_false rfl ⟨fun i _ _ => if i = 1 then (fun v _ _ => ∃ f : Nat, v = bwV f ∧ ∀ i, f.testBit i = true ↔ A.Reach i) else (fun v _ _ => ∃ f : Nat, v = bwV f ∧ ∀ i, f.testBit i = true ↔ A.turn.Reach i), ?_⟩
 refine ⟨_, rfl, cx_reached A hA _ m2 (h'.mono h02), bw_fits, fun k0 k1 k2 k3 k4 k5 k6 m3 hm3 hR3 => ?_⟩
 obtain ⟨f1, hv1, hf1⟩ : ∃ f : Nat, _ = bwV f ∧ ∀ i, f.testBit i = true ↔ A.Reach i := hR3
 simp only [bwV, Value.agg.injEq, Array.mk.injEq, List.cons.injEq, Value.int.injEq, true_and, and_true] at hv1
 obtain ⟨rfl, rfl, rfl, rfl, rfl, rfl, rfl⟩ := hv1
 refine ⟨_, rfl, cx_reached A.turn (turn_ok hA) _ m3 (hR2.mono hm3), bw_fits, fun k0 k1 k2 k3 k4 k5 k6 m4 hm4 hR4 => ?_⟩
 obtain ⟨f2, hv2, hf2⟩ : ∃ f : Nat, _ = bwV f ∧ ∀ i, f.testBit i = true ↔ A.turn.Reach i := hR4
 simp only [bwV, Value.agg.injEq, Array.mk.injEq, List.cons.injEq, Value.int.injEq, true_and, and_true] at hv2
 obtain ⟨rfl, rfl, rfl, rfl, rfl, rfl, rfl⟩ := hv2
 intro b3 b4 M hM2 hM3 hM4
 have h0M := Mem.le_trans h02 hM2
 refine ⟨fun xs css _ m' q => ∃ k : Nat, k ≤ 7 ∧ xs = [.int .i64 k] ∧ css = [andB f1 f2 k] ∧ M.le m' ∧ q = 7 - k, ⟨_, 0, by omega, rfl, rfl, Mem.le_refl _, rfl⟩, ?_⟩
 rintro z cs m5 q hm5 ⟨k, hk, hz, hcs, _, hq⟩
 obtain rfl : z = k := by simpa using hz
 obtain rfl : cs = andB f1 f2 k := by simpa using hcs
 subst hq
 refine br_intro (fun hlt => ?_) (fun hge => ?_)
 ·have hlt' : k < 7 := by have := of_decide_eq_true hlt; omega
  have h1 := andB_get (f := f1) (g := f2) (k := k) hlt'
  rw [if_neg (by omega)] at h1
  have h2 := bwL_get (f := f2) hlt'
  simp only [Int.toNat_natCast, Nat.zero_add, Nat.mul_one]
  refine ⟨⟨by omega, by omega⟩, look_intro h1 ⟨⟨by omega, by omega⟩, look_intro h2 (chk_intro rfl ⟨⟨by omega, by omega⟩, chk_intro (by rw [Nat.ble_eq]; simp [andB]; omega) ⟨by trivial, _, by omega, k + 1, by omega, by rw [wrap64 (by omega) (by omega)]; rfl, ?_, hm5, rfl⟩⟩)⟩⟩
  simp only [intOf]
  rw [andW f1 f2 k hlt', andB_step hlt']
 ·have : k = 7 := by have := of_decide_eq_false hge; omega
  subst this
  intro m6 hm6 hb6
  refine call_any (cx_listI (f1 &&& f2) b3 0 m6 hb6) sli_fits ?_
  intro a7 n7 c7 m7 hm7 hR7
  refine ⟨m7, Mem.le_trans h0M (Mem.le_trans hm5 (Mem.le_trans hm6 hm7)), Mem.le_refl _, _, rfl, ?_⟩
  have e : liveL A = bitsI (f1 &&& f2) := by
   classical
   unfold liveL bitsI bitsW
   congr 1
   apply List.filter_congr
   intro i _
   rw [Bool.eq_iff_iff, Nat.testBit_and, Bool.and_eq_true, hf1, hf2]
   exact @decide_eq_true_iff _ _
  rw [e]
  obtain ⟨aa, cc, g1, g2, g3, _⟩ := (show SlI true (bitsI (f1 &&& f2)) _ _ from hR7)
  exact ⟨aa, cc, g1, g2, g3, fun h => by cases h⟩
end Go.Proofs.Ytplacemlpkhmfaa

