/- Part of the proof: conditions and contracts of functions of this program. No condition of its own. -/
import Derived.Test.YtplacemlpkhmfaaPC17K
set_option linter.unusedVariables false
set_option linter.unusedSimpArgs false
namespace Go.Proofs.Ytplacemlpkhmfaa
open Go Go.Eng Go.Rx Go.Proofs Go.RowKit
set_option maxRecDepth 100000
theorem cx_Step {st : Bool} (A : Nf) (hq : ∀ q ∈ A.sets, QOk q) (v : Value) (l : List Int) (a : Option Addr) (c ch : Nat) (hch : ch < 256) (m : Mem) (h : NfR st A v m) (hl : rowRd m a (intVs l)) (hll : l.length ≤ 1000000) :
  CX Try.prog 27 #[v, .slice a l.length c, .int .u8 ch] m [] (fun v m' _ => ∃ w, v = .tuple #[w, .int .i64 (A.err l)] ∧ SlI true (if A.err l = 0 then A.step l ch else []) w m') := by
 have h' := h
 obtain ⟨s, f, x, y, rfl, ⟨sa, sc, rfl, hs', hsl, hsn⟩, ⟨fa, fc, vs, rfl, hf, hfn, hfl, hfv⟩, ⟨xa, xc, rfl, hx, hxl, hxn⟩, ⟨ya, yc, rfl, hy, hyl, hyn⟩⟩ := h
 apply cx_nfa_Step
 unfold VC_nfa_Step
 intro b m1 hm1 hb
 refine call_int (cx_check A _ l a c m1 (h'.mono hm1) (hl.mono hm1) hll) fun m2 hm2 => br_intro (fun h1 => ?_) (fun h1 => ?_)
 ·have he : A.err l ≠ 0 := by simpa using h1
  refine ⟨_, Mem.le_trans hm1 hm2, Mem.le_refl _, _, rfl, ?_⟩
  rw [if_neg he]
  exact ⟨none, 0, rfl, .inl rfl, by simp, fun _ _ => rfl⟩
 ·have he : A.err l = 0 := by simpa using h1
  have hr : A.right = true := by
   unfold Nf.err at he
   cases hr : A.right with
   | true => rfl
   | false => rw [hr] at he; simp at he
  have hs : A.states l = true := by
   unfold Nf.err at he
   cases hs : A.states l with
   | true => rfl
   | false => rw [hr, hs] at he; simp at he
  have h12 := Mem.le_trans hm1 hm2
  refine call_any (cx_step A (right_ok.1 hr) hq _ l a c ch hch m2 (h'.mono h12) (hl.mono h12) hll hs) sli_fits ?_
  intro a3 n3 c3 m3 hm3 hR
  refine ⟨_, Mem.le_trans h12 hm3, Mem.le_refl _, _, by rw [he], ?_⟩
  rw [if_pos he]; exact hR
def ByNew (bs : List Nat) (m : Mem) : Value → Mem → List (List Value) → Prop := fun v m' _ => ∃ a c, v = .slice a bs.length c ∧ Byt m' a bs ∧ ∀ k, (Tok.mk v 1).blk = some k → m.free k
theorem cxt_CloneB (bs : List Nat) (a : Option Addr) (c : Nat) (m : Mem) (h : Byt m a bs) (hl : bs.length ≤ 100000) : CXT Try.prog 17 #[.slice a bs.length c] m 1 (ByNew bs m) := by
 have hrow : rowRd m a (bs.map fun c : Nat => Value.int .u8 c) := by
  rcases h.1 with h1 | h1
  ·exact .inl (by rw [h1]; rfl)
  ·exact .inr h1
 apply cxt_slices_Clone_byte_byte
 unfold VC_slices_Clone_byte_byte
 refine br_intro (fun hz => ?_) (fun hz => ⟨⟨rfl, Int.le_refl _, by decide, by decide⟩, fun b hb => ⟨.inl rfl, [], bs.map fun c : Nat => Value.int .u8 c, rfl, by rw [List.length_map]; omega, .inl rfl, hrow, fun u hu => ?_, by omega, by omega, fun a' c' m' hm' hr htf => ⟨rfl, a', c', by rw [Nat.zero_add], ⟨?_, h.2⟩, fun k hk => ?_⟩⟩⟩)
 ·have hb0 : bs = [] := by
   rcases h.1 with h1 | ⟨b, o, h1, _⟩
   ·exact h1
   ·rw [h1] at hz; simp at hz
  subst hb0
  exact ⟨rfl, none, 0, rfl, ⟨.inl rfl, by simp⟩, fun k hk => by simp [Tok.blk] at hk⟩
 ·obtain ⟨i, _, rfl⟩ := List.mem_map.1 hu
  rfl
 ·rcases hr with hr | hr
  ·left
   have := congrArg List.length hr
   simp at this; exact this
  ·exact .inr hr
 ·rcases (htf.old (fun _ _ e => by cases e; rfl)).2 with h1 | ⟨b', h1, h2 | h2⟩
  ·rw [h1] at hk; simp [Tok.blk] at hk
  ·rw [← h2] at hk
   simp [Tok.blk] at hk
   subst hk; exact hb
  ·rw [h1] at hk
   simp [Tok.blk] at hk
   subst hk; exact h2
theorem lentC1 {P : Program} {g : FuncId} {args : Array Value} {m : Mem} {v0 : Value} {xs : List Box} {R0 : Value → Mem → List (List Value) → List Value → Prop} {Q : Nat → Prop} {F : Shape} {K : (Nat → Prop) → (Value → Mem → List (List Value) → List Value → Prop) → Prop} (h : CXY P g args m (fun k => (Tok.mk v0 1).blk = some k) xs [⟨v0, 1⟩] R0) (hf : ∀ v m' css tvs, R0 v m' css tvs → Shape.fits F v = true) (k : K (fun k => (Tok.mk v0 1).blk = some k) R0) :
  ∃ (Y1 : Nat → Prop) (R : Value → Mem → List (List Value) → List Value → Prop), CXY P g args m Y1 xs [⟨v0, 1⟩] R ∧ (∀ t : Tok, t ∈ [Tok.mk v0 1] → ∀ b, t.blk = some b → Y1 b) ∧ (∀ b, Y1 b → (∃ t : Tok, t ∈ [Tok.mk v0 1] ∧ t.blk = some b) ∨ Q b) ∧ (∀ v m' css tvs, R v m' css tvs → Shape.fits F v = true) ∧ K Y1 R :=
 ⟨_, _, h, fun t ht b hb => by rw [List.mem_singleton] at ht; subst ht; exact hb, fun b hb => .inl ⟨_, List.mem_singleton.2 rfl, hb⟩, hf, k⟩
def CbR {S : Type} (j : Nat) (Inv : Nat → S → Value → Value → Mem → Prop) (m : Mem) (s : S) : Value → Mem → List (List Value) → List Value → Prop := fun v m' css tvs =>
 v = .tuple #[] ∧ m.le m' ∧ ∃ a n c a1 n1 c1, css = [[.slice a n c]] ∧ tvs = [.slice a1 n1 c1] ∧ Inv j s (.slice a n c) (.slice a1 n1 c1) m'
def CbOk {S : Type} (A : Nf) (g : FuncId) (fi cap : List Value) (cb : Nat) (st : S → Nat → List Int → S) (Inv : Nat → S → Value → Value → Mem → Prop) (base : Mem) : Prop :=
 ∀ (s : S) (n : Nat) (l : List Int) (la : Option Addr) (lc : Nat) (ca : Option Addr) (cn cc : Nat) (ta : Option Addr) (tn tc : Nat) (m : Mem), base.le m → Inv n s (.slice ca cn cc) (.slice ta tn tc) m → rowRd m la (intVs l) → l.length ≤ 1000000 → A.states l = true → n ≤ 4096 →
  CXY Try.prog g ((fi ++ ([Value.int .i64 (n : Nat), Value.slice la l.length lc] : List Value)) ++ cap).toArray m (fun k => (Tok.mk (.slice ta tn tc) 1).blk = some k) [⟨cb, [.slice ca cn cc], 24, 1, false, true⟩] [⟨.slice ta tn tc, 1⟩] (CbR (n + 1) Inv m (st s n l))
theorem cb_fits {S : Type} {j : Nat} {Inv : Nat → S → Value → Value → Mem → Prop} {m : Mem} {s : S} : ∀ v m' css tvs, CbR j Inv m s v m' css tvs → Shape.fits (.tup []) v = true := by
 rintro v m' css tvs ⟨rfl, _⟩; rfl
theorem cxy_run {S : Type} {stt : Bool} (A : Nf) (hq : ∀ q ∈ A.sets, QOk q) (v : Value) (bs : List Nat) (ba : Option Addr) (bc : Nat) (again : Bool) (g : FuncId) (fi cap : List Value) (cb : Nat) (st : S → Nat → List Int → S) (Inv : Nat → S → Value → Value → Mem → Prop) (hmono : ∀ j s a b m m', Inv j s a b m → m.le m' → Inv j s a b m')
  (s0 : S) (ca : Option Addr) (cn cc : Nat) (ta : Option Addr) (tn tc : Nat) (m : Mem) (hcb : CbOk A g fi cap cb st Inv m) (h : NfR stt A v m) (hb : Byt m ba bs) (hinv : Inv 0 s0 (.slice ca cn cc) (.slice ta tn tc) m) :
  CXY Try.prog 80 #[v, .slice ba bs.length bc, .bool again, .func (.func g) fi.toArray cap.toArray] m (fun k => (Tok.mk (.slice ta tn tc) 1).blk = some k) [⟨cb, [.slice ca cn cc], 24, 1, false, true⟩] [⟨.slice ta tn tc, 1⟩]
   (fun v m' css tvs => v = .int .i64 (A.runE bs.length) ∧ m.le m' ∧ ∃ j a n c a1 n1 c1, css = [[.slice a n c]] ∧ tvs = [.slice a1 n1 c1] ∧ Inv j (if A.runE bs.length = 0 then A.runL again st bs 0 [-1] (st s0 0 [-1]) else s0) (.slice a n c) (.slice a1 n1 c1) m') := by
 have h' := h
 obtain ⟨s, f, x, y, rfl, ⟨sa, sc, rfl, hs', hsl, hsn⟩, ⟨fa, fc, vs, rfl, hf, hfn, hfl, hfv⟩, ⟨xa, xc, rfl, hx, hxl, hxn⟩, ⟨ya, yc, rfl, hy, hyl, hyn⟩⟩ := h
 apply cxy_nfa_run
 unfold VC_nfa_run
 intro b m1 hm1 _ _ _
 refine call_bool (cx_Right A _ m1 (h'.mono hm1)) fun m2 hm2 => br_intro (fun h1 => ?_) (fun h1 => ?_)
 ·have he : A.runE bs.length = 171 := by unfold Nf.runE; rw [if_pos (by simpa using h1)]
  rw [he]
  exact ⟨by trivial, rfl, Mem.le_trans hm1 hm2, _, _, _, _, _, _, _, rfl, rfl, hmono _ _ _ _ _ _ hinv (Mem.le_trans hm1 hm2)⟩
 have hr : A.right = true := by simpa using h1
 have hA := right_ok.1 hr
 have h12 := Mem.le_trans hm1 hm2
 refine br_intro (fun h2 => ?_) (fun h2 => ?_)
 ·have h2' : 4096 < bs.length := by have := of_decide_eq_true h2; omega
  have he : A.runE bs.length = 3 := by unfold Nf.runE; rw [hr, if_pos h2']; rfl
  rw [he]
  exact ⟨by trivial, rfl, h12, _, _, _, _, _, _, _, rfl, rfl, hmono _ _ _ _ _ _ hinv h12⟩
 have h2' : bs.length ≤ 4096 := by have := of_decide_eq_false h2; omega
 have he : A.runE bs.length = 0 := by unfold Nf.runE; rw [if_neg (by rw [hr]; simp), if_neg (by omega)]
 rw [he]
 simp only [if_true]
 intro b2 hb2
 have h02 : m.le (m2.add b2 [.int .i64 (-1)]) := Mem.le_trans h12 (Mem.le_add hb2 _)
 have hone : rowRd (m2.add b2 [.int .i64 (-1)]) (some ⟨b2, 0, none⟩) (intVs [-1]) := row_one
 have hst1 : A.states [-1] = true := by
  unfold Nf.states
  rw [riseF_iff]
  exact ⟨by simp, fun x hx => by rw [List.mem_singleton] at hx; subst hx; unfold Nf.top; omega⟩
 refine lentC1 (hcb s0 0 [-1] (some ⟨b2, 0, none⟩) 1 ca cn cc ta tn tc _ h02 (hmono _ _ _ _ _ _ hinv h02) hone (by simp) hst1 (by omega)) cb_fits ?_
 rintro m3 hle3 _ cs a3 n3 c3 ⟨_, hm3, a4, n4, c4, a5, n5, c5, hcs, htv, hinv3⟩
 simp only [List.cons.injEq, Value.slice.injEq, and_true] at htv
 obtain ⟨rfl, rfl, rfl⟩ := htv
 obtain rfl : cs = [.slice a4 n4 c4] := by simpa using hcs
 have h03 := Mem.le_trans h02 hm3
 refine ⟨fun xs css tvs m' q => ∃ (k : Nat) (l : List Int) (la : Option Addr) (lc : Nat) (z : S) (a n : _) (c : Nat) (a1 : Option Addr) (n1 c1 : Nat) (w : Value), k ≤ bs.length ∧ xs = [.slice la l.length lc, .int .i64 k] ∧ css = [[.slice a n c]] ∧ tvs = [w, .slice a1 n1 c1] ∧ m.le m' ∧ Inv (k + 1) z (.slice a n c) (.slice a1 n1 c1) m' ∧ rowRd m' la (intVs l) ∧ l.length ≤ 1000000 ∧ A.states l = true ∧ A.runL again st (bs.drop k) k l z = A.runL again st bs 0 [-1] (st s0 0 [-1]) ∧ q = bs.length - k,
  ⟨_, 0, [-1], some ⟨b2, 0, none⟩, 1, st s0 0 [-1], a4, n4, c4, a3, n3, c3, .slice none 0 0, Nat.zero_le _, rfl, rfl, rfl, h03, hinv3, hone.mono hm3, by simp, hst1, rfl, rfl⟩, ?_⟩
 rintro la ln lc z cs a6 n6 c6 a7 n7 c7 m4 q _ ⟨k, l, la', lc', zz, a, n, c, a1, n1, c1, w, hk, hx, hcs, htv, h04, hinv4, hlrow, hll, hls, hrest, hq⟩
 simp only [List.cons.injEq, Value.slice.injEq, Value.int.injEq, true_and, and_true] at hx
 obtain ⟨⟨rfl, rfl, rfl⟩, rfl⟩ := hx
 simp only [List.cons.injEq, and_true] at hcs htv
 subst hcs
 obtain ⟨rfl, htv⟩ := htv
 simp only [Value.slice.injEq] at htv
 obtain ⟨rfl, rfl, rfl⟩ := htv
 subst hq
 refine br_intro (fun hlt => ?_) (fun hge => ?_)
 ·have hlt' : k < bs.length := by have := of_decide_eq_true hlt; omega
  obtain ⟨ch, hch⟩ := at_some' hlt'
  have hc256 := hb.2 ch (List.mem_of_getElem? hch)
  rcases (hb.mono h04).1 with h0 | ⟨bb, bo, hba, hbrd⟩
  ·rw [h0] at hlt'; simp at hlt'
  have hrdk : m4 bb (bo + k * 1) = some (.int .u8 ch) := by
   have := hbrd k (.int .u8 ch) (by simp [hch])
   rwa [Nat.mul_one]
  have hw1 : IntKind.i64.wrap ((k : Int) + 1) = ((k + 1 : Nat) : Int) := by rw [wrap64 (by omega) (by omega)]; rfl
  rw [drop_at hch, Nf.runL] at hrest
  refine ⟨bb, bo, hba, ⟨by omega, by omega⟩, _, (by rw [Int.toNat_natCast]; exact hrdk), ?_⟩
  refine call_any (cx_step A hA hq _ l la lc ch hc256 m4 (h'.mono h04) hlrow hll hls) sli_fits ?_
  rintro a8 n8 c8 m5 hm5 ⟨a8', c8', hv8, hrow8, hlen8, _⟩
  simp only [Value.slice.injEq] at hv8
  obtain ⟨rfl, rfl, rfl⟩ := hv8
  have h05 := Mem.le_trans h04 hm5
  have hlen9 : (A.step l ch).length ≤ 448 := bitsI_len _
  have hns := next_states hA again l ch
  have fin : ∀ (l2 : List Int) (la2 : Option Addr) (lc2 : Nat) (m6 : Mem) (w : Value), l2 = A.next again l ch → m.le m6 → rowRd m6 la2 (intVs l2) → l2.length ≤ 1000000 → ∀ (m7 : Mem) (cs : List Value) (a9 : Option Addr) (n9 c9 : Nat), CbR (k + 1 + 1) Inv m6 (st zz (k + 1) l2) (.tuple #[]) m7 [cs] [.slice a9 n9 c9] →
    ∃ n', n' < bs.length - k ∧ (fun (xs : List Value) (css : List (List Value)) (tvs : List Value) (m' : Mem) (q : Nat) => ∃ (k : Nat) (l : List Int) (la : Option Addr) (lc : Nat) (z : S) (a : Option Addr) (n c : Nat) (a1 : Option Addr) (n1 c1 : Nat) (w : Value), k ≤ bs.length ∧ xs = [.slice la l.length lc, .int .i64 k] ∧ css = [[.slice a n c]] ∧ tvs = [w, .slice a1 n1 c1] ∧ m.le m' ∧ Inv (k + 1) z (.slice a n c) (.slice a1 n1 c1) m' ∧ rowRd m' la (intVs l) ∧ l.length ≤ 1000000 ∧ A.states l = true ∧ A.runL again st (bs.drop k) k l z = A.runL again st bs 0 [-1] (st s0 0 [-1]) ∧ q = bs.length - k) [.slice la2 l2.length lc2, .int .i64 (IntKind.i64.wrap ((k : Int) + 1))] [cs] [w, .slice a9 n9 c9] m7 n' := by
   rintro l2 la2 lc2 m6 w rfl h06 hrow2 hlen2 m7 cs a9 n9 c9 ⟨_, hm7, e1, e2, e3, e4, e5, e6, hcs, htv, hinv7⟩
   simp only [List.cons.injEq, Value.slice.injEq, and_true] at htv
   obtain ⟨rfl, rfl, rfl⟩ := htv
   obtain rfl : cs = [.slice e1 e2 e3] := by simpa using hcs
   exact ⟨_, by omega, k + 1, _, la2, lc2, st zz (k + 1) (A.next again l ch), e1, e2, e3, a9, n9, c9, w, hlt', by rw [hw1], rfl, rfl, Mem.le_trans h06 hm7, hinv7, hrow2.mono hm7, hlen2, hns, hrest, rfl⟩
  refine br_intro (fun hag => ?_) (fun hag => ?_)
  ·have hnx : A.next again l ch = -1 :: A.step l ch := by unfold Nf.next; rw [hag]; rfl
   intro b4 hb4
   have hrow4 : rowRd (m5.add b4 [.int .i64 (-1)]) (some ⟨b4, 0, none⟩) (intVs [-1]) := row_one
   have h64 := Mem.le_add hb4 [Value.int .i64 (-1)]
   refine br_intro (fun hz => ?_) (fun hz => ?_)
   ·have hs0 : A.step l ch = [] := List.eq_nil_of_length_eq_zero (Nat.eq_of_beq_eq_true hz)
    have hl2 : ([-1] : List Int) = A.next again l ch := by rw [hnx, hs0]
    rw [hw1]
    refine lentC1 (hcb zz (k + 1) [-1] (some ⟨b4, 0, none⟩) 1 _ _ _ _ _ _ _ (Mem.le_trans h05 h64) (hmono _ _ _ _ _ _ hinv4 (Mem.le_trans hm5 h64)) hrow4 (by simp) hst1 (by omega)) cb_fits ?_
    rintro m7 hle7 _ cs a9 n9 c9 hR7
    refine ⟨by trivial, by trivial, ?_⟩
    have := fin [-1] (some ⟨b4, 0, none⟩) 1 _ (Value.slice a6 n6 c6) hl2 (Mem.le_trans h05 h64) hrow4 (by simp) m7 cs a9 n9 c9 hR7
    rw [hw1] at this
    exact this
   ·have hs0 : (A.step l ch).length ≠ 0 := fun e => by rw [e] at hz; cases hz
    refine ⟨.inr (.inr (by show 1 < 1 + (A.step l ch).length; omega)), intVs [-1], intVs (A.step l ch), rfl, by rw [intVs_len, Nat.mul_one], hrow4, hrow8.mono h64, fun u hu => ?_, by show (1 + (A.step l ch).length) * 8 ≤ _; omega, by show 1 + (A.step l ch).length ≤ _; omega, fun a' c' m6 hm6 hr6 htf => ?_⟩
    ·obtain ⟨i, _, rfl⟩ := List.mem_map.1 hu
     rfl
    have hl2 : (-1 :: A.step l ch : List Int) = A.next again l ch := by rw [hnx]
    have hlc : (-1 :: A.step l ch : List Int).length = 1 + (A.step l ch).length := by rw [List.length_cons]; omega
    have hr6' : rowRd m6 a' (intVs (-1 :: A.step l ch)) := hr6
    have h66 : m.le m6 := Mem.le_trans h05 (Mem.le_trans h64 hm6)
    have hcall := hcb zz (k + 1) (-1 :: A.step l ch) a' c' _ _ _ _ _ _ m6 h66 (hmono _ _ _ _ _ _ hinv4 (Mem.le_trans hm5 (Mem.le_trans h64 hm6))) hr6' (by rw [hlc]; omega) (by rw [hl2]; exact hns) (by omega)
    rw [hlc] at hcall
    rw [hw1]
    refine lentC1 hcall cb_fits ?_
    rintro m7 hle7 _ cs a9 n9 c9 hR7
    refine ⟨by trivial, by trivial, ?_⟩
    have := fin (-1 :: A.step l ch) a' c' m6 (.slice a' (1 + (A.step l ch).length) c') hl2 h66 hr6' (by rw [hlc]; omega) m7 cs a9 n9 c9 hR7
    rw [hw1, hlc] at this
    exact this
  ·have hnx : A.step l ch = A.next again l ch := by unfold Nf.next; rw [hag]; rfl
   rw [hw1]
   refine lentC1 (hcb zz (k + 1) (A.step l ch) a8 c8 _ _ _ _ _ _ m5 h05 (hmono _ _ _ _ _ _ hinv4 hm5) hrow8 (by omega) (by rw [hnx]; exact hns) (by omega)) cb_fits ?_
   rintro m7 hle7 _ cs a9 n9 c9 hR7
   refine ⟨by trivial, by trivial, ?_⟩
   have := fin (A.step l ch) a8 c8 m5 (Value.slice a6 n6 c6) hnx h05 hrow8 (by omega) m7 cs a9 n9 c9 hR7
   rw [hw1] at this
   exact this
 ·have : k = bs.length := by have := of_decide_eq_false hge; omega
  subst this
  rw [List.drop_length, Nf.runL] at hrest
  subst hrest
  exact ⟨by trivial, by trivial, h04, _, _, _, _, _, _, _, rfl, rfl, hinv4⟩
end Go.Proofs.Ytplacemlpkhmfaa

