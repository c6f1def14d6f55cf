/- Part of the proof: conditions and contracts of functions of this program. No condition of its own. -/
import Derived.Test.YtiadlgdcbpnmkaaGreatDoorPC25E
import Derived.Test.YtiadlgdcbpnmkaaGreatDoorPVEC
import Derived.Test.YtiadlgdcbpnmkaaGreatDoorMr
set_option linter.unusedVariables false
set_option linter.unusedSimpArgs false
namespace Go.Proofs.YtiadlgdcbpnmkaaGreatDoor
open Go Go.Eng Go.Rx Go.Proofs Go.RowKit
set_option maxRecDepth 100000
theorem br_dec {p : Prop} [Decidable p] {A B : Prop} (ht : p → A) (hf : ¬ p → B) : br (decide p) A B := br_intro (fun h => ht (of_decide_eq_true h)) (fun h => hf (of_decide_eq_false h))
set_option maxHeartbeats 4000000 in
def CntW (b n p : Int) : Prop := 0 ≤ n ∧ n ≤ b ∧ (n = p ∨ (20000 < n ∧ 20000 < p))
theorem CntW.out {b n p t : Int} (h : CntW b n p) (hn : n > 20000) (ht : p ≤ t) : t > 20000 := by
 rcases h.2.2 with e | ⟨_, e⟩ <;> omega
theorem CntW.eq {b n p : Int} (h : CntW b n p) (hn : ¬ n > 20000) : n = p := by
 rcases h.2.2 with e | ⟨e, _⟩ <;> omega
theorem cx_aLight (s : Sc) (m : Mem) (hr : RepC m s) : CX Tryz.prog 21 #[s.v] m [] (Ret (.bool s.light)) := by
 apply cx_ast_Light
 unfold VC_ast_Light
 intro b m1 hm1 _
 have hvl := hr.vlen
 have hsl := hr.len
 unfold few at hvl hsl
 have dark : ∀ {M : Mem}, m1.le M → s.weight > 20000 → ∀ {n : Int}, n > 20000 → ∃ m'' : Mem, m.le m'' ∧ m''.le M ∧ Ret (.bool s.light) (.bool (decide (n ≤ 20000))) m'' [] := fun {M} hM hw {n} hn => ret_pure (mLt hm1 hM) (by
  show Value.bool _ = Value.bool s.light
  unfold Sc.light
  rw [decide_eq_false (by omega), decide_eq_false (by omega)])
 generalize hV : ((s.vars.length : Int) + s.states.length) = V0
 have hV0 : 0 ≤ V0 ∧ V0 ≤ 200000 := by omega
 rw [wrap64 (by omega) (by omega)]
 have hwt : s.weight = V0 + sumI (s.states.map wS) := by unfold Sc.weight; omega
 refine ⟨fun xs _ _ m' q => ∃ (i : Nat) (n : Int), i ≤ s.states.length ∧ xs = [.int .i64 n, .int .i64 i] ∧ CntW 300000 n (V0 + sumI ((s.states.take i).map wS)) ∧ q = s.states.length - i, ⟨_, 0, V0, by omega, rfl, ⟨by omega, by omega, .inl (by simp [sumI])⟩, rfl⟩, ?_⟩
 rintro n k0 m2 q hm2 ⟨i, n', hi, hx, hC, hq⟩
 simp only [List.cons.injEq, Value.int.injEq, and_true, true_and] at hx
 obtain ⟨rfl, rfl⟩ := hx
 subst hq
 have hw1 : IntKind.i64.wrap ((i : Int) + 1) = ((i + 1 : Nat) : Int) := by rw [wrap64 (by omega) (by omega)]; rfl
 simp only [hw1, Int.toNat_natCast]
 refine br_dec (fun hlt => ?_) (fun hge => ?_)
 ·have hlt' : i < s.states.length := by omega
  obtain ⟨x, hx⟩ := at_lt hlt'
  have hxm := List.mem_of_getElem? hx
  obtain ⟨b1, o1, ha, hx1⟩ := rows_get Sta.len ((hr.mono (mLt hm1 hm2)).row) hx (by omega)
  have hxr := hr.all x hxm
  have hrl := hxr.len
  unfold few at hrl
  refine ⟨b1, o1, ha, ⟨by omega, by omega⟩, _, _, hx1, fun b2 => chk_intro rfl (chk_intro rfl ?_)⟩
  generalize hP0 : V0 + sumI ((s.states.take i).map wS) = P0 at hC
  have hPn : V0 + sumI ((s.states.take (i + 1)).map wS) = P0 + wS x := by rw [sum_step wS hx]; omega
  have hPt : P0 + wS x ≤ s.weight := by rw [← hPn, hwt]; have := sum_take wS wS_nn s.states (i + 1); omega
  refine ⟨fun xs _ _ m' q => ∃ (k : Nat) (n : Int), k ≤ x.rules.length ∧ xs = [.int .i64 n, .int .i64 k] ∧ CntW 300000 n (P0 + sumI ((x.rules.take k).map wR)) ∧ q = x.rules.length - k, ⟨_, 0, n, by omega, rfl, by simpa [sumI] using hC, rfl⟩, ?_⟩
  rintro n1 k1 m3 q hm3 ⟨k, n1', hk, hx2, hC1, hq⟩
  simp only [List.cons.injEq, Value.int.injEq, and_true, true_and] at hx2
  obtain ⟨rfl, rfl⟩ := hx2
  subst hq
  have hw2 : IntKind.i64.wrap ((k : Int) + 1) = ((k + 1 : Nat) : Int) := by rw [wrap64 (by omega) (by omega)]; rfl
  simp only [hw2, Int.toNat_natCast]
  have h03 : m.le m3 := mLt hm1 (mLt hm2 hm3)
  refine br_dec (fun hlt2 => ?_) (fun hge2 => ?_)
  ·have hlt2' : k < x.rules.length := by have : (k : Int) < (x.rules.length : Int) := hlt2; omega
   obtain ⟨r, hrk⟩ := at_lt hlt2'
   have hrm := List.mem_of_getElem? hrk
   have hrr := hxr.all r hrm
   obtain ⟨b3, o3, ha3, hx3⟩ := rows_get Ru.len ((hxr.row).mono h03) hrk (by omega)
   have hal := hrr.len
   unfold few at hal
   generalize hP1 : P0 + sumI ((x.rules.take k).map wR) = P1 at hC1
   have hP1n : P0 + sumI ((x.rules.take (k + 1)).map wR) = P1 + wR r := by rw [sum_step wR hrk]; omega
   have hP1t : P1 + wR r ≤ s.weight := by
    rw [← hP1n]
    have := sum_take wR wR_nn x.rules (k + 1)
    unfold wS at hPt
    omega
   refine chk_intro rfl ⟨b3, o3, ha3, ⟨by omega, by show (k : Int) < (x.rules.length : Int); omega⟩, _, _, _, _, _, _, _, _, _, _, _, _, _, _, _, _, hx3, fun b4 => chk_intro rfl ?_⟩
   have hsz := size_bd r.t
   refine call_int (cx_Size r.t m3 (hrr.t.mono h03)) fun m4 hm4 => ?_
   have hmin : (if (20000 : Int) < r.t.size then (20000 : Int) else r.t.size) = imin r.t.size 20000 := rfl
   have hmb : 0 ≤ imin r.t.size 20000 ∧ imin r.t.size 20000 ≤ 20000 := by unfold imin; split <;> omega
   rw [hmin]
   have hCb := hC1.1
   have hCc := hC1.2.1
   refine ⟨fun xs _ _ m' => ∃ n : Int, xs = [.int .i64 n] ∧ CntW 330000 n (P1 + 1 + imin r.t.size 20000 + (if r.t.light then 0 else 20001)), ?_, ?_⟩
   ·refine call_bool (cx_Light r.t m4 (hrr.t.mono (mLt h03 hm4))) fun m5 hm5 => br_intro (fun h => ⟨by trivial, 20001, rfl, ?_⟩) (fun h => ⟨by trivial, _, rfl, ?_⟩)
    ·have hl : r.t.light = false := by simpa using h
     rw [hl, if_neg (by decide)]
     have hp : 0 ≤ P1 := by rcases hC1.2.2 with e | ⟨_, e⟩ <;> omega
     exact ⟨by omega, by omega, .inr ⟨by omega, by omega⟩⟩
    ·have hl : r.t.light = true := by simpa using h
     rw [hl, if_pos rfl, wrap64 (n := 1 + imin r.t.size 20000) (by omega) (by omega), wrap64 (by omega) (by omega)]
     refine ⟨by omega, by omega, ?_⟩
     rcases hC1.2.2 with e | ⟨e1, e2⟩
     ·left; omega
     ·right; omega
   ·rintro n2 m5 hm5 ⟨n2', hn2, hC2⟩
    obtain rfl : n2 = n2' := by simpa using hn2
    generalize hP2 : P1 + 1 + imin r.t.size 20000 + (if r.t.light then 0 else 20001) = P2 at hC2
    have hwr : wR r = (P2 - P1) + sumI (r.acts.map wA) := by unfold wR; rw [← hP2]; omega
    have h05 : m.le m5 := mLt h03 (mLt hm4 hm5)
    refine chk_intro rfl ⟨fun xs _ _ m' q => ∃ (j : Nat) (n : Int), j ≤ r.acts.length ∧ xs = [.int .i64 n, .int .i64 j] ∧ CntW (330000 + j * 200000) n (P2 + sumI ((r.acts.take j).map wA)) ∧ q = r.acts.length - j, ⟨_, 0, n2, by omega, rfl, by simpa [sumI] using hC2, rfl⟩, ?_⟩
    rintro n3 k3 m6 q hm6 ⟨j, n3', hj, hx4, hC3, hq⟩
    simp only [List.cons.injEq, Value.int.injEq, and_true, true_and] at hx4
    obtain ⟨rfl, rfl⟩ := hx4
    subst hq
    have hw3 : IntKind.i64.wrap ((j : Int) + 1) = ((j + 1 : Nat) : Int) := by rw [wrap64 (by omega) (by omega)]; rfl
    simp only [hw3, Int.toNat_natCast]
    have h06 := mLt h05 hm6
    have hb3 := hC3.1
    have hc3 := hC3.2.1
    refine br_dec (fun hlt3 => ?_) (fun hge3 => ?_)
    ·have hlt3' : j < r.acts.length := by have : (j : Int) < (r.acts.length : Int) := hlt3; omega
     obtain ⟨a, haj⟩ := at_lt hlt3'
     have har := hrr.all a (List.mem_of_getElem? haj)
     obtain ⟨b5, o5, ha5, hx5⟩ := rows_get Ac.len ((hrr.row).mono h06) haj (by omega)
     have hpl := har.n
     unfold few at hpl
     have hnE := nE_bd a.e
     generalize hP3 : P2 + sumI ((r.acts.take j).map wA) = P3 at hC3
     have hP3n : P2 + sumI ((r.acts.take (j + 1)).map wA) = P3 + wA a := by rw [sum_step wA haj]; omega
     have hP3t : P3 + wA a ≤ s.weight := by
      have := sum_take wA wA_nn r.acts (j + 1)
      omega
     refine chk_intro rfl ⟨b5, o5, ha5, ⟨by omega, by show (j : Int) < (r.acts.length : Int); omega⟩, _, _, _, _, _, _, _, _, hx5, fun b6 => chk_intro rfl ?_⟩
     refine ⟨fun _ _ _ => Ret (.int .i64 (nE a.e)), _, rfl, cx_anodes a.e m6 (RepE.mono' har.e h06), fun v _ _ e => by rw [show v = _ from e]; rfl, fun n8 m7 hm7 hn8 => chk_intro rfl fun M hM1 hM2 => chk_intro rfl ?_⟩
     obtain rfl : n8 = nE a.e := by cases hn8; rfl
     have hslN : slN (Value.slice a.pa a.parts.length a.pc) = a.parts.length := rfl
     rw [hslN, wrap64 (n := 1 + nE a.e) (by omega) (by omega), wrap64 (n := 1 + nE a.e + (a.parts.length : Int)) (by omega) (by omega), wrap64 (by omega) (by omega)]
     have hwa : wA a = (1 + nE a.e + a.parts.length) + sumI (a.parts.map fun p => nE p.e) := by unfold wA; omega
     have h0M := mLt h06 hM1
     refine ⟨fun xs _ _ m' q => ∃ (w : Nat) (n : Int), w ≤ a.parts.length ∧ xs = [.int .i64 n, .int .i64 w] ∧ CntW (330000 + (j + 1) * 200000) n (P3 + (1 + nE a.e + a.parts.length) + sumI ((a.parts.take w).map fun p => nE p.e)) ∧ q = a.parts.length - w, ⟨_, 0, _, by omega, rfl, ⟨by omega, by omega, ?_⟩, rfl⟩, ?_⟩
     ·simp only [List.take_zero, List.map_nil, sumI]
      rcases hC3.2.2 with e | ⟨e1, e2⟩
      ·left; omega
      ·right; omega
     rintro n4 k4 m8 q hm8 ⟨w, n4', hw, hx6, hC4, hq⟩
     simp only [List.cons.injEq, Value.int.injEq, and_true, true_and] at hx6
     obtain ⟨rfl, rfl⟩ := hx6
     subst hq
     have hw4 : IntKind.i64.wrap ((w : Int) + 1) = ((w + 1 : Nat) : Int) := by rw [wrap64 (by omega) (by omega)]; rfl
     simp only [hw4, Int.toNat_natCast]
     have h08 := mLt h0M hm8
     have h18 : m1.le m8 := mLt hm2 (mLt hm3 (mLt hm4 (mLt hm5 (mLt hm6 (mLt hM1 hm8)))))
     have hb4 := hC4.1
     have hc4 := hC4.2.1
     refine br_dec (fun hlt4 => ?_) (fun hge4 => ?_)
     ·have hlt4' : w < a.parts.length := by have : (w : Int) < (a.parts.length : Int) := hlt4; omega
      obtain ⟨p, hpw⟩ := at_lt hlt4'
      have hpr := har.all p (List.mem_of_getElem? hpw)
      obtain ⟨b7, o7, ha7, hx7⟩ := rows_get Pt.len ((har.row).mono h08) hpw (by omega)
      have hnP := nE_bd p.e
      have hst := sum_step (fun p : Pt => nE p.e) hpw
      have hst2 := sum_take (fun p : Pt => nE p.e) (fun p => (nE_bd p.e).1) a.parts w
      refine chk_intro rfl ⟨b7, o7, ha7, ⟨by omega, by show (w : Int) < (a.parts.length : Int); omega⟩, _, _, _, _, _, _, _, _, hx7, fun b8 => chk_intro rfl (br_dec (fun hd => dark h18 (hC4.out hd (by omega)) hd) (fun hd => ?_))⟩
      refine call_int (cx_anodes p.e m8 (RepE.mono' hpr.e h08)) fun m9 hm9 => ⟨by trivial, a.parts.length - (w + 1), by omega, w + 1, _, by omega, rfl, ?_, rfl⟩
      have he := hC4.eq hd
      rw [wrap64 (by omega) (by omega), hst]
      exact ⟨by omega, by omega, .inl (by omega)⟩
     ·have hw' : w = a.parts.length := by have : ¬ (w : Int) < (a.parts.length : Int) := hge4; omega
      subst hw'
      rw [List.take_length] at hC4
      refine ⟨by trivial, r.acts.length - (j + 1), by omega, j + 1, n4, by omega, rfl, ?_, rfl⟩
      rw [hP3n, hwa]
      exact ⟨hC4.1, by push_cast; omega, by rcases hC4.2.2 with e | e; left; omega; right; omega⟩
    ·have hj' : j = r.acts.length := by have : ¬ (j : Int) < (r.acts.length : Int) := hge3; omega
     subst hj'
     rw [List.take_length] at hC3
     have h16 : m1.le m6 := mLt hm2 (mLt hm3 (mLt hm4 (mLt hm5 hm6)))
     refine br_dec (fun hd => dark h16 (hC3.out hd (by omega)) hd) (fun hd => ⟨by trivial, x.rules.length - (k + 1), by omega, k + 1, n3, by omega, rfl, ?_, rfl⟩)
     rw [hP1n, hwr]
     exact ⟨hC3.1, by omega, .inl (by have := hC3.eq hd; omega)⟩
  ·have hk' : k = x.rules.length := by have : ¬ (k : Int) < (x.rules.length : Int) := hge2; omega
   subst hk'
   rw [List.take_length] at hC1
   refine ⟨by trivial, s.states.length - (i + 1), by omega, i + 1, n1, by omega, rfl, ?_, rfl⟩
   rw [hPn]; exact hC1
 ·have hi' : i = s.states.length := by omega
  subst hi'
  rw [List.take_length, ← hwt] at hC
  refine ret_pure (mLt hm1 hm2) ?_
  show Value.bool _ = Value.bool s.light
  unfold Sc.light
  congr 1
  rw [decide_eq_decide]
  rcases hC.2.2 with e | ⟨e1, e2⟩ <;> omega
end Go.Proofs.YtiadlgdcbpnmkaaGreatDoor
set_option linter.unusedVariables false
set_option linter.unusedSimpArgs false
namespace Go.Proofs.YtiadlgdcbpnmkaaGreatDoor
open Go Go.Eng Go.Rx Go.Proofs Go.RowKit
set_option maxRecDepth 100000
theorem cx_Find1 (x : Sta) (name : ByteArray) (b : Nat) (m : Mem) (hb : m.reads b 0 [.string name]) : CX Tryz.prog 91 #[.agg x.cs.toArray, .pointer (some ⟨b, 0, none⟩)] m [] (Ret (.bool (eqS x.s name))) := by
 apply cx_ast_Find_1 (c0b := b) (c0o := 0)
 unfold VC_ast_Find_1
 intro b1 m1 hm1 _
 exact ⟨_, (hb.mono hm1) 0 _ rfl, chk_intro rfl (ret_pure hm1 rfl)⟩
def FindV (s : Sc) (name : ByteArray) : Value → Mem → List (List Value) → Prop := fun v _ _ => ∃ n : Int, v = .tuple #[.int .i64 n, .bool (findS s name)]
theorem find_fits {s name} : ∀ (v : Value) (m' : Mem) (css : List (List Value)), FindV s name v m' css → Shape.fits (.tup [.int .i64, .bool]) v = true := fun v _ _ ⟨_, e⟩ => by rw [e]; rfl
theorem cx_Find (s : Sc) (name : ByteArray) (m : Mem) (hr : RepC m s) : CX Tryz.prog 65 #[s.v, .string name] m [] (FindV s name) := by
 apply cx_ast_Find
 unfold VC_ast_Find
 intro b m1 hm1 _ b1 m2 hm2 hb1
 have hsl := hr.len
 unfold few at hsl
 have hle := mLt hm1 hm2
 refine call_int (cx_IndexSt s.states s.sa s.sc _ [.pointer (some ⟨b1, 0, none⟩)] (fun x => eqS x.s name) m2 (by omega) (hr.row.mono hle) fun x _ m' hm' => cx_Find1 x name b1 m' (hb1.mono hm')) fun m3 hm3 => ?_
 have h03 := mLt hle hm3
 cases h : s.states.any (fun x => eqS x.s name) with
 | true =>
  refine ⟨!s.light, br_f (decide_eq_false (by simp)) ?_, br_intro (fun hl => ret_pure h03 ⟨_, by unfold findS; rw [h]; simp at hl; rw [hl]; rfl⟩) (fun hl => ret_pure h03 ⟨_, by unfold findS; rw [h]; simp at hl; rw [hl]; rfl⟩)⟩
  exact call_bool (cx_aLight s m3 (hr.mono h03)) fun m4 hm4 => ⟨by trivial, rfl⟩
 | false =>
  refine ⟨true, br_t rfl ⟨by trivial, rfl⟩, br_t rfl (ret_pure h03 ⟨_, by unfold findS; rw [h]; rfl⟩)⟩
def askV (a : Int × Nat × List Value) : List Value := [.int .i64 a.1, .func (.func a.2.1) #[] a.2.2.toArray]
theorem askV_len (a : Int × Nat × List Value) : (askV a).length = 2 := rfl
theorem cx_first (l : List ((Int × Nat × List Value) × Bool)) (a : Option Addr) (c : Nat) (m : Mem) (hl : l.length ≤ 100000) (hr : rowRd m a (l.map fun x => askV x.1).flatten)
  (hp : ∀ x ∈ l, ∀ m', m.le m' → CX Tryz.prog x.1.2.1 x.1.2.2.toArray m' [] (Ret (.bool x.2))) :
  CX Tryz.prog 48 #[.slice a l.length c] m [] (Ret (.int .i64 (firstE (l.map fun x => (x.1.1, x.2))))) := by
 apply cx_check_first a l.length c
 unfold VC_check_first
 refine ⟨fun xs _ _ m'' q => ∃ i : Nat, i ≤ l.length ∧ xs = [.int .i64 0, .int .i64 i] ∧ firstE (l.map fun x => (x.1.1, x.2)) = firstE ((l.drop i).map fun x => (x.1.1, x.2)) ∧ q = l.length - i, ⟨l.length, 0, by omega, rfl, rfl, by omega⟩, ?_⟩
 rintro n k m1 q hm1 ⟨i, hi, hx, he, hq⟩
 simp only [List.cons.injEq, Value.int.injEq, and_true, true_and] at hx
 obtain ⟨rfl, rfl⟩ := hx
 refine br_dec (fun hlt => ?_) (fun hge => ?_)
 ·have hlt' : i < l.length := by have : (i : Int) < (l.length : Int) := hlt; omega
  obtain ⟨x, hx⟩ := at_lt hlt'
  have hd : l.drop i = x :: l.drop (i + 1) := by
   rw [List.drop_eq_getElem_cons hlt', (List.getElem?_eq_some_iff.1 hx).2]
  obtain ⟨b1, o1, ha, hx1⟩ := rows_get (cs := fun x : (Int × Nat × List Value) × Bool => askV x.1) (fun x => askV_len x.1) (hr.mono hm1) hx (by omega)
  refine ⟨b1, o1, ha, ⟨by omega, by show (i : Int) < (l.length : Int); omega⟩, _, _, hx1, fun b2 => chk_intro rfl ⟨_, _, _, rfl, ?_⟩⟩
  refine call_bool (hp x (List.mem_of_getElem? hx) m1 hm1) fun m2 hm2 => br_intro (fun h => ret_pure (mLt hm1 hm2) ?_) (fun h => ?_)
  ·show Value.int _ _ = Value.int _ _
   rw [he, hd, List.map_cons, firstE, if_pos h]
  ·refine ⟨l.length - (i + 1), by omega, i + 1, by omega, by rw [wrap64 (by omega) (by omega)]; rfl, ?_, rfl⟩
   rw [he, hd, List.map_cons, firstE, if_neg (by rw [h]; decide)]
 ·have hi' : i = l.length := by have : ¬ (i : Int) < (l.length : Int) := hge; omega
  refine ret_pure hm1 ?_
  show Value.int _ _ = Value.int _ _
  rw [he, hi', List.drop_length]; rfl
theorem cx_vRight (v : Va) (m : Mem) : CX Tryz.prog 51 #[.agg #[.bool v.b, .string v.t, .float .f64 v.x]] m [] (Ret (.bool (rightV v))) := by
 apply cx_vars_Right
 unfold VC_vars_Right
 intro b m1 hm1 _
 refine br_intro (fun hb => ⟨rightV v, call_bool (cx_fClean v.x m1) fun m2 hm2 => br_intro (fun h => ⟨by trivial, one_bool ?_⟩) (fun h => ⟨by trivial, one_bool ?_⟩), ret_pure hm1 rfl⟩) (fun hb => ⟨rightV v, ⟨_, pf_bits v.x, chk_intro rfl (br_intro (fun h => ⟨by trivial, one_bool ?_⟩) (fun h => ⟨by trivial, one_bool ?_⟩))⟩, ret_pure hm1 rfl⟩)
 ·unfold rightV; rw [hb, if_pos rfl, h, ba_nil]; rfl
 ·unfold rightV; rw [hb, if_pos rfl, h]; rfl
 ·unfold rightV; rw [hb, if_neg (by decide)]
  have : v.x = 0 := by
   have h2 := eq_of_beq (show ((v.x : Int) == 0) = true from h); omega
  rw [this]
  show decide ((v.t.size : Int) ≤ 512) = (true && decide (v.t.size ≤ 512))
  rw [Bool.true_and, decide_eq_decide]; omega
 ·unfold rightV; rw [hb, if_neg (by decide)]
  have : ¬ v.x = 0 := by
   intro e
   have h2 : ((v.x : Int) == 0) = false := h
   rw [e] at h2; simp at h2
  rw [beq_eq_false_iff_ne.2 this]; rfl
theorem cx_CleanPart1 (p q : Pt) (b : Nat) (m : Mem) (hq : RepP m q) (hb : m.reads b 0 q.cs) : CX Tryz.prog 98 #[p.v, .pointer (some ⟨b, 0, none⟩)] m [] (Ret (.bool (q.s.toList == p.s.toList && (q.g == p.g && (p.k == 4 || noneE q.e))))) := by
 apply cx_template_CleanPart_1 (c0b := b) (c0o := 0)
 unfold VC_template_CleanPart_1
 intro b1 m1 hm1 _
 have hb1 := hb.mono hm1
 refine ⟨q.s.toList == p.s.toList && (q.g == p.g && (p.k == 4 || noneE q.e)), ⟨_, hb1 1 _ rfl, chk_intro rfl (br_intro (fun h => ⟨_, hb1 2 _ rfl, chk_intro rfl (br_intro (fun h2 => br_intro (fun h3 => ⟨by trivial, one_bool ?_⟩) (fun h3 => ⟨q.e.k |> Value.int .u8, .float .f64 q.e.x, .string q.e.s, .int .i64 q.e.g, .slice q.e.a q.e.subs.length q.e.c, ?_, ?_⟩)) (fun h2 => ⟨by trivial, one_bool ?_⟩))⟩) (fun h => ⟨by trivial, one_bool ?_⟩))⟩, ret_pure hm1 rfl⟩
 ·have h : (q.s.toList == p.s.toList) = true := h
  have h2 : (q.g == p.g) = true := h2
  rw [h, h2, h3]; rfl
 ·exact fun i v hi => by
   have := hb1 (3 + i) v (by unfold Pt.cs; rw [show 3 + i = i + 3 from by omega]; exact hi)
   rw [show 0 + 3 + i = 0 + (3 + i) from by omega]; exact this
 ·have h : (q.s.toList == p.s.toList) = true := h
  have h2 : (q.g == p.g) = true := h2
  refine call_bool (cx_eSame q.e E0 m1 (RepE.mono hm1 _ hq.e) (repE0 m1)) fun m2 hm2 => ⟨by trivial, one_bool ?_⟩
  rw [h, h2, h3]; rfl
 ·have h : (q.s.toList == p.s.toList) = true := h
  have h2 : (q.g == p.g) = false := h2
  rw [h, h2]; rfl
 ·have h : (q.s.toList == p.s.toList) = false := h
  rw [h]; rfl
theorem cx_CleanPart (p : Pt) (m : Mem) (hp : RepP m p) : CX Tryz.prog 76 #[p.v] m [] (Ret (.bool (cleanP p))) := by
 apply cx_template_CleanPart
 unfold VC_template_CleanPart
 intro b m1 hm1 hb
 have hp1 := hp.mono hm1
 have one := fun (p' : Pt) (M : Mem) (hM : m1.le M) => cx_CleanPart1 p' p b M (hp1.mono hM) (hb.mono hM)
 have hs0 : ∀ x : ByteArray, ((⟨#[]⟩ : ByteArray).toList == x.toList) = (x.size == 0) := fun x => by rw [← ba_nil, Bool.beq_comm]
 refine br_intro (fun h1 => ⟨cleanP p, br_dec (fun h2 => br_dec (fun h3 => call_bool (one ⟨p.k, p.s, 0, E0⟩ m1 (Mem.le_refl _)) fun m2 hm2 => ⟨by trivial, one_bool ?_⟩) (fun h3 => ⟨by trivial, one_bool ?_⟩)) (fun h2 => ⟨by trivial, one_bool ?_⟩), ret_pure hm1 rfl⟩)
  (fun h1 => br_intro (fun h2 => ⟨cleanP p, call_bool (cx_IsName p.s hp.s m1) fun m2 hm2 => br_intro (fun h3 => call_bool (one ⟨p.k, p.s, 0, E0⟩ m2 hm2) fun m3 hm3 => ⟨by trivial, one_bool ?_⟩) (fun h3 => ⟨by trivial, one_bool ?_⟩), ret_pure hm1 rfl⟩)
   (fun h2 => br_intro (fun h3 => ⟨cleanP p, br_dec (fun h4 => br_dec (fun h5 => call_bool (one ⟨p.k, ⟨#[]⟩, p.g, E0⟩ m1 (Mem.le_refl _)) fun m2 hm2 => ⟨by trivial, one_bool ?_⟩) (fun h5 => ⟨by trivial, one_bool ?_⟩)) (fun h4 => ⟨by trivial, one_bool ?_⟩), ret_pure hm1 rfl⟩)
    (fun h3 => br_intro (fun h4 => ⟨cleanP p, call_bool (cx_eClean p.e m1 (RepE.mono hm1 _ hp.e)) fun m2 hm2 => br_intro (fun h5 => call_bool (one ⟨p.k, ⟨#[]⟩, 0, E0⟩ m2 hm2) fun m3 hm3 => ⟨by trivial, one_bool ?_⟩) (fun h5 => ⟨by trivial, one_bool ?_⟩), ret_pure hm1 rfl⟩) (fun h4 => ret_pure hm1 ?_))))
 ·have k1 : p.k = 1 := by simpa using h1
  have g2 : p.s.size > 0 := by omega
  have g3 : p.s.size ≤ 512 := by omega
  unfold cleanP; simp [k1, g2, g3]
 ·have k1 : p.k = 1 := by simpa using h1
  have g3 : ¬ p.s.size ≤ 512 := by omega
  unfold cleanP; rw [if_pos k1, decide_eq_false g3]; simp
 ·have k1 : p.k = 1 := by simpa using h1
  have g2 : ¬ p.s.size > 0 := by omega
  unfold cleanP; rw [if_pos k1, decide_eq_false g2]; rfl
 ·have k2 : p.k = 2 := by simpa using h2
  unfold cleanP; simp [k2, h3]
 ·have k2 : p.k = 2 := by simpa using h2
  unfold cleanP; simp [k2, h3]
 ·have k3 : p.k = 3 := by simpa using h3
  unfold cleanP; rw [if_neg (by omega), if_neg (by omega), if_pos k3, decide_eq_true h4, decide_eq_true h5, ba_nil]; simp [k3]
 ·have k3 : p.k = 3 := by simpa using h3
  unfold cleanP; rw [if_neg (by omega), if_neg (by omega), if_pos k3, decide_eq_false h5]; simp
 ·have k3 : p.k = 3 := by simpa using h3
  unfold cleanP; rw [if_neg (by omega), if_neg (by omega), if_pos k3, decide_eq_false h4]; simp
 ·have k4 : p.k = 4 := by simpa using h4
  unfold cleanP; rw [if_neg (by omega), if_neg (by omega), if_neg (by omega), if_pos k4, h5, ba_nil]; simp [k4]
 ·have k4 : p.k = 4 := by simpa using h4
  unfold cleanP; rw [if_neg (by omega), if_neg (by omega), if_neg (by omega), if_pos k4, h5]; rfl
 ·have k1 : ¬ p.k = 1 := by simpa using h1
  have k2 : ¬ p.k = 2 := by simpa using h2
  have k3 : ¬ p.k = 3 := by simpa using h3
  have k4 : ¬ p.k = 4 := by simpa using h4
  show Value.bool false = Value.bool (cleanP p)
  unfold cleanP; rw [if_neg k1, if_neg k2, if_neg k3, if_neg k4]
theorem cx_fields (r : Ru) (m : Mem) (hr : RepR m r) : CX Tryz.prog 61 #[.agg r.cs.toArray] m [] (Ret (.bool (fieldsR r))) := by
 apply cx_check_fields
 unfold VC_check_fields
 intro b m1 hm1 _
 refine ⟨isRx r, br_intro (fun h => ⟨by trivial, one_bool ?_⟩) (fun h => br_intro (fun h2 => ⟨by trivial, one_bool ?_⟩) (fun h2 => call_bool (cx_Same r.t T0 m1 (hr.t.mono hm1) (rep_T0 m1)) fun m2 hm2 => ⟨by trivial, one_bool ?_⟩)), ?_⟩
 ·unfold isRx; rw [h]; rfl
 ·unfold isRx; rw [h, h2]; rfl
 ·unfold isRx; rw [h, h2]; rfl
 refine br_intro (fun k2 => ?_) (fun k2 => br_intro (fun k4 => ?_) (fun k4 => br_intro (fun k3 => ?_) (fun k3 => br_intro (fun k1 => ?_) (fun k1 => ?_))))
 ·have k2 : r.k = 2 := by simpa using k2
  refine ⟨fieldsR r, br_intro (fun h => br_intro (fun h2 => call_bool (cx_within r.s.size 1 64 m1) fun m2 hm2 => ⟨by trivial, one_bool ?_⟩) (fun h2 => ⟨by trivial, one_bool ?_⟩)) (fun h => ⟨by trivial, one_bool ?_⟩), ret_pure hm1 rfl⟩
  ·unfold fieldsR; rw [if_pos k2, h, show (r.n == 0) = true from h2]; rfl
  ·unfold fieldsR; rw [if_pos k2, h, show (r.n == 0) = false from h2]; rfl
  ·unfold fieldsR; rw [if_pos k2, h]; rfl
 ·have k2 : ¬ r.k = 2 := by simpa using k2
  have k4 : r.k = 4 := by simpa using k4
  refine ⟨fieldsR r, br_intro (fun h => br_intro (fun h2 => call_bool (cx_within r.n 1 1000 m1) fun m2 hm2 => ⟨by trivial, one_bool ?_⟩) (fun h2 => ⟨by trivial, one_bool ?_⟩)) (fun h => ⟨by trivial, one_bool ?_⟩), ret_pure hm1 rfl⟩
  ·rw [ba_nil] at h2; unfold fieldsR; rw [if_neg k2, if_pos k4, h, h2]; rfl
  ·rw [ba_nil] at h2; unfold fieldsR; rw [if_neg k2, if_pos k4, h, h2]; rfl
  ·unfold fieldsR; rw [if_neg k2, if_pos k4, h]; rfl
 ·have k2 : ¬ r.k = 2 := by simpa using k2
  have k4 : ¬ r.k = 4 := by simpa using k4
  have k3 : r.k = 3 := by simpa using k3
  refine br_intro (fun h => ret_pure hm1 ?_) (fun h => ⟨fieldsR r, br_intro (fun h2 => ⟨by trivial, one_bool ?_⟩) (fun h2 => ⟨by trivial, one_bool ?_⟩), ret_pure hm1 rfl⟩)
  ·show Value.bool false = Value.bool (fieldsR r)
   unfold fieldsR; rw [if_neg k2, if_neg k4, if_pos k3, h]; rfl
  ·rw [ba_nil] at h2; unfold fieldsR; rw [if_neg k2, if_neg k4, if_pos k3, h, h2]; rfl
  ·rw [ba_nil] at h2; unfold fieldsR; rw [if_neg k2, if_neg k4, if_pos k3, h, h2]; rfl
 ·have k2 : ¬ r.k = 2 := by simpa using k2
  have k4 : ¬ r.k = 4 := by simpa using k4
  have k3 : ¬ r.k = 3 := by simpa using k3
  have k1 : r.k = 1 := by simpa using k1
  refine ⟨fieldsR r, br_intro (fun h2 => ⟨by trivial, one_bool ?_⟩) (fun h2 => ⟨by trivial, one_bool ?_⟩), ret_pure hm1 rfl⟩
  ·rw [ba_nil] at h2; unfold fieldsR; rw [if_neg k2, if_neg k4, if_neg k3, if_pos k1, h2]; rfl
  ·rw [ba_nil] at h2; unfold fieldsR; rw [if_neg k2, if_neg k4, if_neg k3, if_pos k1, h2]; rfl
 ·have k2 : ¬ r.k = 2 := by simpa using k2
  have k4 : ¬ r.k = 4 := by simpa using k4
  have k3 : ¬ r.k = 3 := by simpa using k3
  have k1 : ¬ r.k = 1 := by simpa using k1
  refine ret_pure hm1 ?_
  show Value.bool false = Value.bool (fieldsR r)
  unfold fieldsR; rw [if_neg k2, if_neg k4, if_neg k3, if_neg k1]
end Go.Proofs.YtiadlgdcbpnmkaaGreatDoor
set_option linter.unusedVariables false
set_option linter.unusedSimpArgs false
namespace Go.Proofs.YtiadlgdcbpnmkaaGreatDoor
open Go Go.Eng Go.Rx Go.Proofs Go.RowKit
set_option maxRecDepth 100000
theorem reads_sub {m : Mem} {b o : Nat} {cs : List Value} (h : m.reads b o cs) (k n : Nat) : m.reads b (o + k) ((cs.drop k).take n) := fun i v hi => by
 rw [Nat.add_assoc]
 refine h (k + i) v ?_
 rw [List.getElem?_take] at hi
 split at hi
 ·rwa [List.getElem?_drop] at hi
 ·cases hi
theorem rows_take {α : Type} {cs : α → List Value} {m : Mem} {a : Option Addr} {L : List α} (h : rowRd m a (L.map cs).flatten) (k : Nat) : rowRd m a ((L.take k).map cs).flatten := by
 have e : (L.map cs).flatten = ((L.take k).map cs).flatten ++ ((L.drop k).map cs).flatten := by
  rw [← List.flatten_append, ← List.map_append, List.take_append_drop]
 rw [e] at h
 rcases h with h | ⟨b, o, ha, h⟩
 ·exact .inl (List.append_eq_nil_iff.1 h).1
 ·refine .inr ⟨b, o, ha, fun j v hj => h j v ?_⟩
  rw [List.getElem?_append_left (List.getElem?_eq_some_iff.1 hj).1]; exact hj
theorem reads_new (m : Mem) (b : Nat) (cs : List Value) : (m.add b cs).reads b 0 cs := fun j u hu => by rw [Mem.add_same, Nat.zero_add]; exact hu
section
variable {m : Mem} {b : Nat}
theorem cx_whole1 (s : Sc) (hb : m.reads b 0 s.cs) : CX Tryz.prog 54 #[.pointer (some ⟨b, 0, none⟩)] m [] (Ret (.bool (!within s.n 2 256))) := by
 apply cx_check_whole_1 (c0b := b) (c0o := 0)
 unfold VC_check_whole_1
 refine ⟨_, hb 0 _ rfl, call_bool (cx_within s.n 2 256 m) fun m1 hm1 => ret_pure hm1 rfl⟩
theorem cx_whole2 (s : Sc) (hb : m.reads b 0 s.cs) : CX Tryz.prog 56 #[.pointer (some ⟨b, 0, none⟩)] m [] (Ret (.bool (!within s.states.length 1 24 || decide (s.vars.length > 12)))) := by
 apply cx_check_whole_2 (c0b := b) (c0o := 0)
 unfold VC_check_whole_2
 refine ⟨!within s.states.length 1 24 || decide (s.vars.length > 12), ⟨_, hb 2 _ rfl, chk_intro rfl (call_bool (cx_within s.states.length 1 24 m) fun m1 hm1 => br_intro (fun h => one_bool ?_) (fun h => ⟨_, (hb.mono hm1) 1 _ rfl, chk_intro rfl (one_bool ?_)⟩))⟩, ret_pure (Mem.le_refl m) rfl⟩
 ·rw [h]; rfl
 ·rw [h]
  show decide ((s.vars.length : Int) > 12) = (false || decide (s.vars.length > 12))
  rw [Bool.false_or, decide_eq_decide]; omega
theorem cx_whole (s : Sc) (hr : RepC m s) : CX Tryz.prog 39 #[s.v] m [] (Ret (.int .i64 (wholeS s))) := by
 apply cx_check_whole
 unfold VC_check_whole
 intro b m1 hm1 hb b1 hf
 have hle := Mem.le_add hf ([.int .i64 300, .func (.func 54) #[] #[.pointer (some ⟨b, 0, none⟩)], .int .i64 302, .func (.func 56) #[] #[.pointer (some ⟨b, 0, none⟩)]])
 refine call_int (cx_first [((300, 54, [.pointer (some ⟨b, 0, none⟩)]), !within s.n 2 256), ((302, 56, [.pointer (some ⟨b, 0, none⟩)]), !within s.states.length 1 24 || decide (s.vars.length > 12))] _ 2 _ (by simp) (.inr ⟨b1, 0, rfl, reads_new m1 b1 _⟩) fun x hx m' hm' => ?_) fun m2 hm2 => ret_pure (mLt hm1 (mLt hle hm2)) rfl
 have hb' := hb.mono (mLt hle hm')
 simp only [List.mem_cons, List.not_mem_nil, or_false] at hx
 rcases hx with rfl | rfl
 ·exact cx_whole1 s hb'
 ·exact cx_whole2 s hb'
theorem cx_variable11 (v x : Va) (m : Mem) (b : Nat) (hb : m.reads b 0 v.cs) : CX Tryz.prog 53 #[.agg x.cs.toArray, .pointer (some ⟨b, 0, none⟩)] m [] (Ret (.bool (eqS x.s v.s))) := by
 apply cx_check_variable_1_1 (c0b := b) (c0o := 0)
 unfold VC_check_variable_1_1
 intro b1 m1 hm1 _
 exact ⟨_, (hb.mono hm1) 0 _ rfl, chk_intro rfl (ret_pure hm1 rfl)⟩
theorem cx_variable1 (s : Sc) (i : Nat) (v : Va) (m : Mem) (b0 b1 b2 : Nat) (hr : RepC m s) (hi : i ≤ s.vars.length) (hv : RepV v) (h0 : m.reads b0 0 v.cs) (h1 : m.reads b1 0 s.cs) (h2 : m.reads b2 0 [.int .i64 i]) :
  CX Tryz.prog 49 #[.pointer (some ⟨b0, 0, none⟩), .pointer (some ⟨b1, 0, none⟩), .pointer (some ⟨b2, 0, none⟩)] m [] (Ret (.bool (!isName v.s || (!rightV v || (s.vars.take i).any fun x => eqS x.s v.s)))) := by
 apply cx_check_variable_1 (c0b := b0) (c0o := 0) (c1b := b1) (c1o := 0) (c2b := b2) (c2o := 0)
 unfold VC_check_variable_1
 have hvl := hr.vlen
 unfold few at hvl
 refine ⟨_, h0 0 _ rfl, call_bool (cx_IsName v.s hv.s m) fun m1 hm1 => br_intro (fun h => ret_pure hm1 ?_) (fun h => ⟨_, _, _, reads_sub (h0.mono hm1) 1 3, call_bool (cx_vRight v m1) fun m2 hm2 => br_intro (fun h' => ret_pure (mLt hm1 hm2) ?_) (fun h' => ?_)⟩)⟩
 ·show Value.bool true = Value.bool _
  rw [h]; rfl
 ·show Value.bool true = Value.bool _
  rw [h, h']; rfl
 ·have hm := mLt hm1 hm2
  have hc := hr.vcap
  have key := cx_ContVa (s.vars.take i) s.va s.vc 53 [.pointer (some ⟨b0, 0, none⟩)] (fun x => eqS x.s v.s) m2 (by rw [List.length_take]; omega) (rows_take (hr.vrow.mono hm) i) fun x _ m' hm' => cx_variable11 v x m' b0 (h0.mono (mLt hm hm'))
  rw [List.length_take, Nat.min_eq_left hi] at key
  refine ⟨_, (h1.mono hm) 1 _ rfl, _, (h2.mono hm) 0 _ rfl, chk_intro rfl (chk_intro rfl ⟨⟨Int.natCast_nonneg i, by show (i : Int) ≤ (s.vc : Int); omega⟩, call_bool key fun m3 hm3 => ret_pure (mLt hm hm3) ?_⟩)⟩
  show Value.bool _ = Value.bool _
  rw [h, h']; rfl
theorem cx_variable (s : Sc) (i : Nat) (v : Va) (m : Mem) (hr : RepC m s) (hi : s.vars[i]? = some v) : CX Tryz.prog 38 #[s.v, .int .i64 i] m [] (Ret (.int .i64 (variableS s i v))) := by
 apply cx_check_variable
 unfold VC_check_variable
 intro b m1 hm1 hb b1 m2 hm2 hb1
 have hvl := hr.vlen
 unfold few at hvl
 have hlt := (List.getElem?_eq_some_iff.1 hi).1
 have hle := mLt hm1 hm2
 obtain ⟨b2, o2, ha, hx⟩ := rows_get Va.len (hr.vrow.mono hle) hi (by omega)
 refine ⟨b2, o2, ha, ⟨by omega, by omega⟩, _, _, _, _, hx, fun b3 => chk_intro rfl fun b4 hf m3 hm3 hb3 => ?_⟩
 have hl4 := mLt (Mem.le_add hf _) hm3
 have h03 := mLt hle hl4
 refine call_int (cx_first [((301, 49, [.pointer (some ⟨b3, 0, none⟩), .pointer (some ⟨b, 0, none⟩), .pointer (some ⟨b1, 0, none⟩)]), !isName v.s || (!rightV v || (s.vars.take i).any fun x => eqS x.s v.s))] _ 1 _ (by simp) (.inr ⟨b4, 0, rfl, (reads_new m2 b4 _).mono hm3⟩) fun x hx m' hm' => ?_) fun m4 hm4 => ret_pure (mLt h03 hm4) rfl
 simp only [List.mem_cons, List.not_mem_nil, or_false] at hx
 subst hx
 have hl' := mLt hl4 hm'
 exact cx_variable1 s i v m' b3 b b1 (hr.mono (mLt h03 hm')) (by omega) (hr.vall v (List.mem_of_getElem? hi)) (hb3.mono hm') (hb.mono (mLt hm2 hl')) (hb1.mono hl')
theorem cx_state11 (v x : Sta) (m : Mem) (b : Nat) (hb : m.reads b 0 v.cs) : CX Tryz.prog 59 #[.agg x.cs.toArray, .pointer (some ⟨b, 0, none⟩)] m [] (Ret (.bool (eqS x.s v.s))) := by
 apply cx_check_state_1_1 (c0b := b) (c0o := 0)
 unfold VC_check_state_1_1
 intro b1 m1 hm1 _
 exact ⟨_, (hb.mono hm1) 0 _ rfl, chk_intro rfl (ret_pure hm1 rfl)⟩
theorem cx_state1 (s : Sc) (i : Nat) (v : Sta) (m : Mem) (b0 b1 b2 : Nat) (hr : RepC m s) (hi : i ≤ s.states.length) (hv : RepS m v) (h0 : m.reads b0 0 v.cs) (h1 : m.reads b1 0 s.cs) (h2 : m.reads b2 0 [.int .i64 i]) :
  CX Tryz.prog 57 #[.pointer (some ⟨b0, 0, none⟩), .pointer (some ⟨b1, 0, none⟩), .pointer (some ⟨b2, 0, none⟩)] m [] (Ret (.bool (!isName v.s || (decide (v.rules.length > 12) || (s.states.take i).any fun x => eqS x.s v.s)))) := by
 apply cx_check_state_1 (c0b := b0) (c0o := 0) (c1b := b1) (c1o := 0) (c2b := b2) (c2o := 0)
 unfold VC_check_state_1
 have hvl := hr.len
 unfold few at hvl
 refine ⟨_, h0 0 _ rfl, call_bool (cx_IsName v.s hv.s m) fun m1 hm1 => br_intro (fun h => ret_pure hm1 ?_) (fun h => ⟨_, (h0.mono hm1) 1 _ rfl, chk_intro rfl (br_dec (fun h' => ret_pure hm1 ?_) (fun h' => ?_))⟩)⟩
 ·show Value.bool true = Value.bool _
  rw [h]; rfl
 ·have h' : (v.rules.length : Int) > 12 := h'
  show Value.bool true = Value.bool _
  rw [h, decide_eq_true (by omega)]; rfl
 ·have h' : ¬ (v.rules.length : Int) > 12 := h'
  have hc := hr.scap
  have key := cx_ContSt (s.states.take i) s.sa s.sc 59 [.pointer (some ⟨b0, 0, none⟩)] (fun x => eqS x.s v.s) m1 (by rw [List.length_take]; omega) (rows_take (hr.row.mono hm1) i) fun x _ m' hm' => cx_state11 v x m' b0 (h0.mono (mLt hm1 hm'))
  rw [List.length_take, Nat.min_eq_left hi] at key
  refine ⟨_, (h1.mono hm1) 2 _ rfl, _, (h2.mono hm1) 0 _ rfl, chk_intro rfl (chk_intro rfl ⟨⟨Int.natCast_nonneg i, by show (i : Int) ≤ (s.sc : Int); omega⟩, call_bool key fun m3 hm3 => ret_pure (mLt hm1 hm3) ?_⟩)⟩
  show Value.bool _ = Value.bool _
  rw [h, decide_eq_false (by omega)]; rfl
theorem cx_state (s : Sc) (i : Nat) (v : Sta) (m : Mem) (hr : RepC m s) (hi : s.states[i]? = some v) : CX Tryz.prog 40 #[s.v, .int .i64 i] m [] (Ret (.int .i64 (stateS s i v))) := by
 apply cx_check_state
 unfold VC_check_state
 intro b m1 hm1 hb b1 m2 hm2 hb1
 have hvl := hr.len
 unfold few at hvl
 have hlt := (List.getElem?_eq_some_iff.1 hi).1
 have hle := mLt hm1 hm2
 obtain ⟨b2, o2, ha, hx⟩ := rows_get Sta.len (hr.row.mono hle) hi (by omega)
 refine ⟨b2, o2, ha, ⟨by omega, by omega⟩, _, _, hx, fun b3 => chk_intro rfl fun b4 hf m3 hm3 hb3 => ?_⟩
 have hl4 := mLt (Mem.le_add hf _) hm3
 have h03 := mLt hle hl4
 refine call_int (cx_first [((303, 57, [.pointer (some ⟨b3, 0, none⟩), .pointer (some ⟨b, 0, none⟩), .pointer (some ⟨b1, 0, none⟩)]), !isName v.s || (decide (v.rules.length > 12) || (s.states.take i).any fun x => eqS x.s v.s))] _ 1 _ (by simp) (.inr ⟨b4, 0, rfl, (reads_new m2 b4 _).mono hm3⟩) fun x hx m' hm' => ?_) fun m4 hm4 => ret_pure (mLt h03 hm4) rfl
 simp only [List.mem_cons, List.not_mem_nil, or_false] at hx
 subst hx
 have hl' := mLt hl4 hm'
 have h0' := mLt h03 hm'
 exact cx_state1 s i v m' b3 b b1 (hr.mono h0') (by omega) ((hr.all v (List.mem_of_getElem? hi)).mono h0') (hb3.mono hm') (hb.mono (mLt hm2 hl')) (hb1.mono hl')
theorem cx_rule1 (r : Ru) (m : Mem) (b : Nat) (hr : RepR m r) (hb : m.reads b 0 r.cs) : CX Tryz.prog 60 #[.pointer (some ⟨b, 0, none⟩)] m [] (Ret (.bool (!fieldsR r || decide (r.acts.length > 8)))) := by
 apply cx_check_rule_1 (c0b := b) (c0o := 0)
 unfold VC_check_rule_1
 refine ⟨!fieldsR r || decide (r.acts.length > 8), ⟨_, _, _, _, _, _, _, _, _, _, _, _, _, _, _, _, hb, call_bool (cx_fields r m hr) fun m1 hm1 => br_intro (fun h => one_bool ?_) (fun h => ⟨_, (hb.mono hm1) 13 _ rfl, chk_intro rfl (one_bool ?_)⟩)⟩, ret_pure (Mem.le_refl m) rfl⟩
 ·rw [h]; rfl
 ·rw [h]
  show decide ((r.acts.length : Int) > 8) = (false || decide (r.acts.length > 8))
  rw [Bool.false_or, decide_eq_decide]; omega
theorem cx_rule2 (r : Ru) (total : Int) (m : Mem) (b b1 : Nat) (hr : RepR m r) (hb : m.reads b 0 r.cs) (hb1 : m.reads b1 0 [.int .i64 total]) : CX Tryz.prog 62 #[.pointer (some ⟨b, 0, none⟩), .pointer (some ⟨b1, 0, none⟩)] m [] (Ret (.bool (r.k == 1 && (!(r.t.check == 0) || decide (total > 600))))) := by
 apply cx_check_rule_2 (c0b := b) (c0o := 0) (c1b := b1) (c1o := 0)
 unfold VC_check_rule_2
 refine ⟨r.k == 1 && (!(r.t.check == 0) || decide (total > 600)), ⟨_, hb 0 _ rfl, chk_intro rfl (br_intro (fun h => ⟨_, _, _, _, _, _, _, _, _, _, reads_sub hb 1 10, call_int (cx_Check r.bg r.en r.t m hr.t) fun m1 hm1 => br_intro (fun h2 => one_bool ?_) (fun h2 => ⟨_, (hb1.mono hm1) 0 _ rfl, chk_intro rfl (one_bool ?_)⟩)⟩) (fun h => one_bool ?_))⟩, ret_pure (Mem.le_refl m) rfl⟩
 ·rw [show (r.k == 1) = true from h, h2]; rfl
 ·rw [show (r.k == 1) = true from h, h2]; rfl
 ·rw [show (r.k == 1) = false from h]; rfl
theorem cx_rule3 (s : Sc) (r : Ru) (m : Mem) (b b1 : Nat) (hs : RepC m s) (hr : RepR m r) (hb : m.reads b 0 s.cs) (hb1 : m.reads b1 0 r.cs) : CX Tryz.prog 64 #[.pointer (some ⟨b, 0, none⟩), .pointer (some ⟨b1, 0, none⟩)] m [] (Ret (.bool (if r.go.size = 0 then !within r.code 0 255 else !findS s r.go || !(r.code == 0)))) := by
 apply cx_check_rule_3 (c0b := b) (c0o := 0) (c1b := b1) (c1o := 0)
 unfold VC_check_rule_3
 refine ⟨_, _, _, hb, _, hb1 14 _ rfl, call_any (cx_Find s r.go m hs) find_fits ?_⟩
 rintro n ok m1 hm1 ⟨n', hv⟩
 have hok : ok = findS s r.go := by
  have hv : Value.tuple (Array.mk [Value.int .i64 n, Value.bool ok]) = Value.tuple #[.int .i64 n', .bool (findS s r.go)] := hv
  simp only [Value.tuple.injEq, Array.mk.injEq, List.cons.injEq, Value.bool.injEq, and_true] at hv
  exact hv.2
 subst hok
 refine ⟨_, (hb1.mono hm1) 14 _ rfl, chk_intro rfl (br_intro (fun h => ⟨_, (hb1.mono hm1) 15 _ rfl, call_bool (cx_within r.code 0 255 m1) fun m2 hm2 => ret_pure (mLt hm1 hm2) ?_⟩) (fun h => ⟨!findS s r.go || !(r.code == 0), br_intro (fun h2 => one_bool ?_) (fun h2 => ⟨_, (hb1.mono hm1) 15 _ rfl, chk_intro rfl (one_bool ?_)⟩), ret_pure hm1 ?_⟩))⟩
 ·have h : (r.go.size == 0) = true := by rw [← ba_nil]; exact h
  show Value.bool _ = Value.bool _
  rw [if_pos (by simpa using h)]
 ·rw [h2]; rfl
 ·rw [h2]; rfl
 ·have h : (r.go.size == 0) = false := by rw [← ba_nil]; exact h
  show Value.bool _ = Value.bool _
  rw [if_neg (by simpa using h)]
theorem cx_rule (s : Sc) (r : Ru) (total : Int) (m : Mem) (hs : RepC m s) (hr : RepR m r) : CX Tryz.prog 41 #[s.v, .agg r.cs.toArray, .int .i64 total] m [] (Ret (.int .i64 (ruleS s r total))) := by
 apply cx_check_rule
 unfold VC_check_rule
 intro b m1 hm1 hb b1 m2 hm2 hb1 b2 m3 hm3 hb2 b3 hf
 have h03 := mLt hm1 (mLt hm2 hm3)
 refine call_int (cx_first [((304, 60, [.pointer (some ⟨b1, 0, none⟩)]), !fieldsR r || decide (r.acts.length > 8)), ((305, 62, [.pointer (some ⟨b1, 0, none⟩), .pointer (some ⟨b2, 0, none⟩)]), r.k == 1 && (!(r.t.check == 0) || decide (total > 600))),
  ((306, 64, [.pointer (some ⟨b, 0, none⟩), .pointer (some ⟨b1, 0, none⟩)]), if r.go.size = 0 then !within r.code 0 255 else !findS s r.go || !(r.code == 0))] _ 3 _ (by simp) (.inr ⟨b3, 0, rfl, reads_new m3 b3 _⟩) fun x hx m' hm' => ?_) fun m4 hm4 => ret_pure (mLt h03 (mLt (Mem.le_add hf _) hm4)) rfl
 have hl := mLt (Mem.le_add hf _) hm'
 have h0' := mLt h03 hl
 simp only [List.mem_cons, List.not_mem_nil, or_false] at hx
 rcases hx with rfl | rfl | rfl
 ·exact cx_rule1 r m' b1 (hr.mono h0') (hb1.mono (mLt hm3 hl))
 ·exact cx_rule2 r total m' b1 b2 (hr.mono h0') (hb1.mono (mLt hm3 hl)) (hb2.mono hl)
 ·exact cx_rule3 s r m' b b1 (hs.mono h0') (hr.mono h0') (hb.mono (mLt hm2 (mLt hm3 hl))) (hb1.mono (mLt hm3 hl))
end
end Go.Proofs.YtiadlgdcbpnmkaaGreatDoor
set_option linter.unusedVariables false
set_option linter.unusedSimpArgs false
namespace Go.Proofs.YtiadlgdcbpnmkaaGreatDoor
open Go Go.Eng Go.Rx Go.Proofs Go.RowKit
set_option maxRecDepth 100000
def act1 (a : Ac) : Bool := !within a.k 1 3 || (a.k == 1 && !(a.s.size == 0)) || (a.k == 3 && decide (a.parts.length > 0)) || (a.k == 3 && !a.e.clean) || (!(a.k == 3) && !noneE a.e) || decide (a.parts.length > 16)
theorem cx_action1 (a : Ac) (m : Mem) (b b1 : Nat) (hr : RepA m a) (hb : m.reads b 0 a.cs) (hb1 : m.reads b1 0 [.bool (a.k == 3)]) : CX Tryz.prog 66 #[.pointer (some ⟨b, 0, none⟩), .pointer (some ⟨b1, 0, none⟩)] m [] (Ret (.bool (act1 a))) := by
 apply cx_check_action_1 (c0b := b) (c0o := 0) (c1b := b1) (c1o := 0)
 unfold VC_check_action_1
 have hw : IntKind.i64.wrap a.k = a.k := wrap64 (by have := hr.k; omega) (by have := hr.k; omega)
 have num : ∀ {M : Mem} {Q : Bool → Prop}, m.le M → Q (a.k == 3) → ∃ v : Value, M.c b1 0 = some v ∧ ∃ x : Bool, v = .bool x ∧ Q x := fun hM h => ⟨_, (hb1.mono hM) 0 _ rfl, _, rfl, h⟩
 have big : ∀ {M : Mem}, m.le M → act1 a = decide (a.parts.length > 16) → ∃ v : Value, M.c b (0 + 2) = some v ∧ chk (isSl v) ([Value.bool (decide ((slN v : Int) > 16))] = [Value.bool (act1 a)]) := fun hM h => ⟨_, (hb.mono hM) 2 _ rfl, chk_intro rfl (one_bool (by
  rw [h]
  show decide ((a.parts.length : Int) > 16) = decide (a.parts.length > 16)
  rw [decide_eq_decide]; omega))⟩
 refine ⟨act1 a, ?_, ret_pure (Mem.le_refl m) rfl⟩
 refine ⟨_, hb 0 _ rfl, chk_intro rfl ?_⟩
 show ∃ R : RT, True ∧ CX Tryz.prog 55 #[.int .i64 (IntKind.i64.wrap a.k), .int .i64 1, .int .i64 3] m [] R ∧ _
 rw [hw]
 refine call_bool (cx_within a.k 1 3 m) fun m1 hm1 => br_intro (fun h => one_bool ?_) (fun hin => ⟨_, (hb.mono hm1) 0 _ rfl, chk_intro rfl ?_⟩)
 ·unfold act1; rw [h]; rfl
 cases hn : (a.k == 3) with
 | true =>
  have hk : a.k = 3 := by simpa using hn
  refine br_f (by show (a.k == 1) = false; rw [hk]; rfl) (num hm1 (br_t hn ⟨_, (hb.mono hm1) 2 _ rfl, chk_intro rfl (br_dec (fun h => one_bool ?_) (fun h => num hm1 (br_t hn ⟨_, _, _, _, _, reads_sub (hb.mono hm1) 3 5, call_bool (cx_eClean a.e m1 (RepE.mono hm1 _ hr.e)) fun m2 hm2 => br_intro (fun h2 => one_bool ?_) (fun h2 => num (mLt hm1 hm2) (br_f (by rw [hn]; rfl) (big (mLt hm1 hm2) ?_)))⟩)))⟩))
  ·have h : (a.parts.length : Int) > 0 := h
   unfold act1; rw [hn, decide_eq_true (p := a.parts.length > 0) (by omega), hin]; simp
  ·have h : ¬ (a.parts.length : Int) > 0 := h
   unfold act1; rw [hn, h2]; simp
  ·have h : ¬ (a.parts.length : Int) > 0 := h
   unfold act1; rw [hn, h2, hin, decide_eq_false (p := a.parts.length > 0) (by omega), hk]; simp
 | false =>
  refine br_intro (fun h1 => ⟨_, (hb.mono hm1) 1 _ rfl, chk_intro rfl (br_intro (fun h => one_bool ?_) (fun h => num hm1 (br_f hn (num hm1 (br_f hn (num hm1 (br_t (by rw [hn]; rfl) ⟨_, _, _, _, _, reads_sub (hb.mono hm1) 3 5, call_bool (cx_none a.e m1 (RepE.mono hm1 _ hr.e)) fun m2 hm2 => br_intro (fun h2 => one_bool ?_) (fun h2 => big (mLt hm1 hm2) ?_)⟩)))))))⟩)
   (fun h1 => num hm1 (br_f hn (num hm1 (br_f hn (num hm1 (br_t (by rw [hn]; rfl) ⟨_, _, _, _, _, reads_sub (hb.mono hm1) 3 5, call_bool (cx_none a.e m1 (RepE.mono hm1 _ hr.e)) fun m2 hm2 => br_intro (fun h2 => one_bool ?_) (fun h2 => big (mLt hm1 hm2) ?_)⟩))))))
  ·have h1 : (a.k == 1) = true := h1
   have h : (!(a.s.size == 0)) = true := by rw [← ba_nil]; exact h
   unfold act1; rw [h1, h]; simp
  ·unfold act1; rw [hn, h2]; simp
  ·have h : (!(a.s.size == 0)) = false := by rw [← ba_nil]; exact h
   unfold act1; rw [hn, h2, h, hin]; simp
  ·unfold act1; rw [hn, h2]; simp
  ·have h1 : (a.k == 1) = false := h1
   unfold act1; rw [hn, h2, h1, hin]; simp
def act2 (s : Sc) (a : Ac) : Bool := (!(a.k == 1) && (!(kindS s a.s).2 || !((kindS s a.s).1 == (a.k == 3)))) || (a.k == 3 && !numbersS s a.e)
theorem cx_action2 (s : Sc) (a : Ac) (m : Mem) (b b1 b2 : Nat) (hs : RepC m s) (hr : RepA m a) (ho : a.k = 3 → a.e.vars.length ≤ 1) (hb : m.reads b 0 s.cs) (hb1 : m.reads b1 0 a.cs) (hb2 : m.reads b2 0 [.bool (a.k == 3)]) :
  CX Tryz.prog 69 #[.pointer (some ⟨b, 0, none⟩), .pointer (some ⟨b1, 0, none⟩), .pointer (some ⟨b2, 0, none⟩)] m [] (Ret (.bool (act2 s a))) := by
 apply cx_check_action_2 (c0b := b) (c0o := 0) (c1b := b1) (c1o := 0) (c2b := b2) (c2o := 0)
 unfold VC_check_action_2
 refine ⟨_, _, _, hb, _, hb1 1 _ rfl, call_any (cx_kind s a.s m hs) (fun v _ _ e => by rw [show v = _ from e]; rfl) ?_⟩
 intro x y m1 hm1 hv
 have hv : Value.tuple (Array.mk [Value.bool x, Value.bool y]) = Value.tuple #[.bool (kindS s a.s).1, .bool (kindS s a.s).2] := hv
 simp only [Value.tuple.injEq, Array.mk.injEq, List.cons.injEq, Value.bool.injEq, and_true] at hv
 obtain ⟨rfl, rfl⟩ := hv
 have num : ∀ {M : Mem} {Q : Bool → Prop}, m.le M → Q (a.k == 3) → ∃ v : Value, M.c b2 0 = some v ∧ ∃ x : Bool, v = .bool x ∧ Q x := fun hM h => ⟨_, (hb2.mono hM) 0 _ rfl, _, rfl, h⟩
 have three : act2 s a = (a.k == 3 && !numbersS s a.e) → ∃ v : Value, m1.c b2 0 = some v ∧ ∃ x : Bool, v = .bool x ∧ br x (∃ v v4 v5 : Value, m1.reads b 0 [v, v4, v5] ∧ ∃ v6 v7 v8 v9 v10 : Value, m1.reads b1 (0 + 3) [v6, v7, v8, v9, v10] ∧ ∃ R : RT, True ∧ CX Tryz.prog 71 #[.agg #[v, v4, v5], .agg #[v6, v7, v8, v9, v10]] m1 [] R ∧ Fits .bool R ∧ ∀ (x : Bool) (m' : Mem), m1.le m' → R (.bool x) m' [] → [Value.bool !x] = [Value.bool (act2 s a)]) ([Value.bool false] = [Value.bool (act2 s a)]) := fun he => num hm1 (br_intro (fun h3 => ⟨_, _, _, hb.mono hm1, _, _, _, _, _, reads_sub (hb1.mono hm1) 3 5, call_bool (cx_numbers s a.e m1 (hs.mono hm1) (RepE.mono hm1 _ hr.e) (ho (by simpa using h3))) fun m2 hm2 => one_bool (by rw [he, h3]; rfl)⟩) (fun h3 => one_bool (by rw [he, h3]; rfl)))
 refine ⟨act2 s a, ⟨_, (hb1.mono hm1) 0 _ rfl, chk_intro rfl (br_intro (fun h1 => br_intro (fun h2 => one_bool ?_) (fun h2 => num hm1 (br_intro (fun h3 => one_bool ?_) (fun h3 => three ?_)))) (fun h1 => three ?_))⟩, ret_pure hm1 rfl⟩
 ·have h1 : (!(a.k == 1)) = true := h1
  unfold act2; rw [h1, h2]; rfl
 ·have h1 : (!(a.k == 1)) = true := h1
  unfold act2; rw [h1, h3]; simp
 ·have h1 : (!(a.k == 1)) = true := h1
  unfold act2; rw [h1, h2, h3]; rfl
 ·have h1 : (!(a.k == 1)) = false := h1
  unfold act2; rw [h1]; rfl
def act3 (r : Ru) (a : Ac) : Bool := a.k == 3 && decide (a.e.most > capsR r)
theorem cx_action3 (r : Ru) (a : Ac) (m : Mem) (b b1 b2 : Nat) (hr : RepR m r) (ha : RepA m a) (hb : m.reads b 0 [.bool (a.k == 3)]) (hb1 : m.reads b1 0 a.cs) (hb2 : m.reads b2 0 r.cs) :
  CX Tryz.prog 72 #[.pointer (some ⟨b, 0, none⟩), .pointer (some ⟨b1, 0, none⟩), .pointer (some ⟨b2, 0, none⟩)] m [] (Ret (.bool (act3 r a))) := by
 apply cx_check_action_3 (c0b := b) (c0o := 0) (c1b := b1) (c1o := 0) (c2b := b2) (c2o := 0)
 unfold VC_check_action_3
 refine ⟨fun i _ _ => match i with
  | 4 => Ret (.int .i64 a.e.most)
  | _ => Ret (.int .i64 (capsR r)), _, hb 0 _ rfl, _, rfl, br_intro (fun h => ?_) (fun h M hM _ _ => ret_pure hM ?_)⟩
 ·refine ⟨_, _, _, _, _, reads_sub hb1 3 5, _, rfl, cx_eMost a.e m ha.e, fun v _ _ e => by rw [show v = _ from e]; rfl, fun n m1 hm1 hn => ?_⟩
  obtain rfl : n = a.e.most := by cases hn; rfl
  refine ⟨_, _, _, _, _, _, _, _, _, _, _, _, _, _, _, _, hb2, _, rfl, cx_Captures r m1 (hr.t.mono hm1), fun v _ _ e => by rw [show v = _ from e]; rfl, fun n1 m2 hm2 hn M hM _ _ => ret_pure hM ?_⟩
  obtain rfl : n1 = capsR r := by cases hn; rfl
  show Value.bool _ = Value.bool (act3 r a)
  unfold act3; rw [h]; rfl
 ·show Value.bool _ = Value.bool (act3 r a)
  unfold act3; rw [h]; rfl
theorem cx_action (s : Sc) (r : Ru) (a : Ac) (m : Mem) (hs : RepC m s) (hr : RepR m r) (ha : RepA m a) (ho : a.k = 3 → a.e.vars.length ≤ 1) : CX Tryz.prog 42 #[s.v, .agg r.cs.toArray, .agg a.cs.toArray] m [] (Ret (.int .i64 (actionS s r a))) := by
 apply cx_check_action
 unfold VC_check_action
 intro b m1 hm1 hb b1 m2 hm2 hb1 b2 m3 hm3 hb2 b3 b4 hf m4 hm4 hb3
 have h03 := mLt hm1 (mLt hm2 hm3)
 have hl4 := mLt (Mem.le_add hf _) hm4
 refine call_int (cx_first [((307, 66, [.pointer (some ⟨b2, 0, none⟩), .pointer (some ⟨b3, 0, none⟩)]), act1 a), ((308, 69, [.pointer (some ⟨b, 0, none⟩), .pointer (some ⟨b2, 0, none⟩), .pointer (some ⟨b3, 0, none⟩)]), act2 s a),
  ((309, 72, [.pointer (some ⟨b3, 0, none⟩), .pointer (some ⟨b2, 0, none⟩), .pointer (some ⟨b1, 0, none⟩)]), act3 r a)] _ 3 _ (by simp) (.inr ⟨b4, 0, rfl, (reads_new m3 b4 _).mono hm4⟩) fun x hx m' hm' => ?_) fun m5 hm5 => ret_pure (mLt h03 (mLt hl4 hm5)) rfl
 have hl := mLt hl4 hm'
 have h0' := mLt h03 hl
 simp only [List.mem_cons, List.not_mem_nil, or_false] at hx
 rcases hx with rfl | rfl | rfl
 ·exact cx_action1 a m' b2 b3 (ha.mono h0') (hb2.mono hl) (hb3.mono hm')
 ·exact cx_action2 s a m' b b2 b3 (hs.mono h0') (ha.mono h0') ho (hb.mono (mLt hm2 (mLt hm3 hl))) (hb2.mono hl) (hb3.mono hm')
 ·exact cx_action3 r a m' b3 b2 b1 (hr.mono h0') (ha.mono h0') (hb3.mono hm') (hb2.mono hl) (hb1.mono (mLt hm3 hl))
def part1 (l : List Pt) (i : Nat) (p : Pt) : Bool := !cleanP p || (decide (i > 0) && (p.k == 1 && (match l[i - 1]? with
 | some q => q.k == 1
 | none => false)))
theorem cx_part1 (l : List Pt) (a : Option Addr) (c : Nat) (i : Nat) (p : Pt) (m : Mem) (b b1 b2 : Nat) (hl : l.length ≤ few) (hrow : rowRd m a (l.map Pt.cs).flatten) (hi : i ≤ l.length) (hp : RepP m p) (hb : m.reads b 0 p.cs) (hb1 : m.reads b1 0 [.int .i64 i]) (hb2 : m.reads b2 0 [.slice a l.length c]) :
  CX Tryz.prog 75 #[.pointer (some ⟨b, 0, none⟩), .pointer (some ⟨b1, 0, none⟩), .pointer (some ⟨b2, 0, none⟩)] m [] (Ret (.bool (part1 l i p))) := by
 apply cx_check_part_1 (c0b := b) (c0o := 0) (c1b := b1) (c1o := 0) (c2b := b2) (c2o := 0)
 unfold VC_check_part_1
 unfold few at hl
 refine ⟨part1 l i p, ⟨_, _, _, _, _, _, _, _, hb, call_bool (cx_CleanPart p m hp) fun m1 hm1 => br_intro (fun h => one_bool ?_) (fun h => ⟨_, (hb1.mono hm1) 0 _ rfl, chk_intro rfl (br_dec (fun h2 => ⟨_, (hb.mono hm1) 0 _ rfl, chk_intro rfl (br_intro (fun h3 => ?_) (fun h3 => one_bool ?_))⟩) (fun h2 => one_bool ?_))⟩)⟩, ret_pure (Mem.le_refl m) rfl⟩
 ·unfold part1; rw [h]; rfl
 ·have h2 : (i : Int) > 0 := h2
  have h3 : (p.k == 1) = true := h3
  have hlt : i - 1 < l.length := by omega
  obtain ⟨q, hq⟩ := at_lt hlt
  have hw : IntKind.i64.wrap ((i : Int) - 1) = ((i - 1 : Nat) : Int) := by rw [wrap64 (by omega) (by omega)]; omega
  obtain ⟨b3, o3, ha, hx⟩ := rows_get Pt.len (hrow.mono hm1) hq (by omega)
  refine ⟨_, (hb2.mono hm1) 0 _ rfl, _, (hb1.mono hm1) 0 _ rfl, chk_intro rfl (chk_intro rfl ⟨b3, o3, ha, ?_, .int .u8 q.k, ?_, chk_intro rfl (one_bool ?_)⟩)⟩
  ·show inRange (IntKind.i64.wrap ((i : Int) - 1)) l.length
   rw [hw]; exact ⟨by omega, by omega⟩
  ·show m1.c b3 (o3 + (IntKind.i64.wrap ((i : Int) - 1)).toNat * 8 + 0) = _
   rw [hw, Int.toNat_natCast]
   exact hx 0 _ rfl
  ·show (q.k == 1) = _
   unfold part1; rw [h, decide_eq_true (p := i > 0) (by omega), h3, hq]; rfl
 ·have h3 : (p.k == 1) = false := h3
  unfold part1; rw [h, h3]; simp
 ·have h2 : ¬ (i : Int) > 0 := h2
  unfold part1; rw [h, decide_eq_false (p := i > 0) (by omega)]; rfl
def part2 (s : Sc) (p : Pt) : Bool := (p.k == 2 && !(kindS s p.s).2) || (p.k == 4 && !numbersS s p.e)
theorem cx_part2 (s : Sc) (p : Pt) (m : Mem) (b b1 : Nat) (hs : RepC m s) (hp : RepP m p) (ho : p.k = 4 → p.e.vars.length ≤ 1) (hb : m.reads b 0 s.cs) (hb1 : m.reads b1 0 p.cs) :
  CX Tryz.prog 77 #[.pointer (some ⟨b, 0, none⟩), .pointer (some ⟨b1, 0, none⟩)] m [] (Ret (.bool (part2 s p))) := by
 apply cx_check_part_2 (c0b := b) (c0o := 0) (c1b := b1) (c1o := 0)
 unfold VC_check_part_2
 refine ⟨_, _, _, hb, _, hb1 1 _ rfl, call_any (cx_kind s p.s m hs) (fun v _ _ e => by rw [show v = _ from e]; rfl) ?_⟩
 intro x y m1 hm1 hv
 have hv : Value.tuple (Array.mk [Value.bool x, Value.bool y]) = Value.tuple #[.bool (kindS s p.s).1, .bool (kindS s p.s).2] := hv
 simp only [Value.tuple.injEq, Array.mk.injEq, List.cons.injEq, Value.bool.injEq, and_true] at hv
 obtain ⟨rfl, rfl⟩ := hv
 refine ⟨part2 s p, ⟨_, (hb1.mono hm1) 0 _ rfl, chk_intro rfl (br_intro (fun h1 => br_intro (fun h2 => one_bool ?_) (fun h2 => ⟨_, (hb1.mono hm1) 0 _ rfl, chk_intro rfl (br_intro (fun h3 => ⟨_, _, _, hb.mono hm1, _, _, _, _, _, reads_sub (hb1.mono hm1) 3 5, call_bool (cx_numbers s p.e m1 (hs.mono hm1) (RepE.mono hm1 _ hp.e) (ho (eq_of_beq (show (p.k == 4) = true from h3)))) fun m2 hm2 => one_bool ?_⟩) (fun h3 => one_bool ?_))⟩))
  (fun h1 => ⟨_, (hb1.mono hm1) 0 _ rfl, chk_intro rfl (br_intro (fun h3 => ⟨_, _, _, hb.mono hm1, _, _, _, _, _, reads_sub (hb1.mono hm1) 3 5, call_bool (cx_numbers s p.e m1 (hs.mono hm1) (RepE.mono hm1 _ hp.e) (ho (eq_of_beq (show (p.k == 4) = true from h3)))) fun m2 hm2 => one_bool ?_⟩) (fun h3 => one_bool ?_))⟩))⟩, ret_pure hm1 rfl⟩
 ·have h1 : (p.k == 2) = true := h1
  unfold part2; rw [h1, h2]; rfl
 ·have h1 : (p.k == 2) = true := h1
  have h3 : (p.k == 4) = true := h3
  unfold part2; rw [h1, h2, h3]; rfl
 ·have h1 : (p.k == 2) = true := h1
  have h3 : (p.k == 4) = false := h3
  unfold part2; rw [h1, h2, h3]; rfl
 ·have h1 : (p.k == 2) = false := h1
  have h3 : (p.k == 4) = true := h3
  unfold part2; rw [h1, h3]; rfl
 ·have h1 : (p.k == 2) = false := h1
  have h3 : (p.k == 4) = false := h3
  unfold part2; rw [h1, h3]; rfl
def part3 (r : Ru) (p : Pt) : Bool := (p.k == 3 && decide (p.g > capsR r)) || (p.k == 4 && decide (p.e.most > capsR r))
theorem cx_part3 (r : Ru) (p : Pt) (m : Mem) (b b1 : Nat) (hr : RepR m r) (hp : RepP m p) (hb : m.reads b 0 p.cs) (hb1 : m.reads b1 0 r.cs) :
  CX Tryz.prog 78 #[.pointer (some ⟨b, 0, none⟩), .pointer (some ⟨b1, 0, none⟩)] m [] (Ret (.bool (part3 r p))) := by
 apply cx_check_part_3 (c0b := b) (c0o := 0) (c1b := b1) (c1o := 0)
 unfold VC_check_part_3
 refine ⟨fun i _ _ => match i with
  | 17 => Ret (.int .i64 p.e.most)
  | _ => Ret (.int .i64 (capsR r)), _, hb 0 _ rfl, chk_intro rfl (br_intro (fun h3 => ?_) (fun h3 => ?_))⟩
 ·have h3 : (p.k == 3) = true := h3
  have hk : p.k = 3 := by simpa using h3
  refine ⟨_, hb 2 _ rfl, _, _, _, _, _, _, _, _, _, _, _, _, _, _, _, _, hb1, _, rfl, cx_Captures r m hr.t, fun v _ _ e => by rw [show v = _ from e]; rfl, fun n m1 hm1 hn => ?_⟩
  obtain rfl : n = capsR r := by cases hn; rfl
  refine chk_intro rfl (br_dec (fun h => fun M hM _ _ _ => ret_pure hM ?_) (fun h => ⟨_, (hb.mono hm1) 0 _ rfl, chk_intro rfl (br_f (by show (p.k == 4) = false; rw [hk]; rfl) fun M hM _ _ _ => ret_pure hM ?_)⟩))
  ·have h : p.g > capsR r := h
   show Value.bool _ = Value.bool (part3 r p)
   unfold part3; rw [h3, decide_eq_true h]; rfl
  ·have h : ¬ p.g > capsR r := h
   show Value.bool _ = Value.bool (part3 r p)
   unfold part3; rw [decide_eq_false h, hk]; rfl
 ·have h3 : (p.k == 3) = false := h3
  refine ⟨_, hb 0 _ rfl, chk_intro rfl (br_intro (fun h4 => ?_) (fun h4 M hM _ _ _ => ret_pure hM ?_))⟩
  ·have h4 : (p.k == 4) = true := h4
   refine ⟨_, _, _, _, _, reads_sub hb 3 5, _, rfl, cx_eMost p.e m hp.e, fun v _ _ e => by rw [show v = _ from e]; rfl, fun n m1 hm1 hn => ?_⟩
   obtain rfl : n = p.e.most := by cases hn; rfl
   refine ⟨_, _, _, _, _, _, _, _, _, _, _, _, _, _, _, _, hb1, _, rfl, cx_Captures r m1 (hr.t.mono hm1), fun v _ _ e => by rw [show v = _ from e]; rfl, fun n1 m2 hm2 hn M hM _ _ _ => ret_pure hM ?_⟩
   obtain rfl : n1 = capsR r := by cases hn; rfl
   show Value.bool _ = Value.bool (part3 r p)
   unfold part3; rw [h3, h4]; rfl
  ·have h4 : (p.k == 4) = false := h4
   show Value.bool _ = Value.bool (part3 r p)
   unfold part3; rw [h3, h4]; rfl
theorem cx_part (s : Sc) (r : Ru) (l : List Pt) (a : Option Addr) (c : Nat) (i : Nat) (p : Pt) (m : Mem) (hs : RepC m s) (hr : RepR m r) (hl : l.length ≤ few) (hrow : rowRd m a (l.map Pt.cs).flatten) (hall : ∀ x ∈ l, RepP m x) (hi : l[i]? = some p) (ho : p.k = 4 → p.e.vars.length ≤ 1) :
  CX Tryz.prog 43 #[s.v, .agg r.cs.toArray, .slice a l.length c, .int .i64 i] m [] (Ret (.int .i64 (partS s r l i p))) := by
 apply cx_check_part
 unfold VC_check_part
 intro b m1 hm1 hb b1 m2 hm2 hb1 b2 m3 hm3 hb2 b3 m4 hm4 hb3
 have h24 := mLt hm3 hm4
 have h14 := mLt hm2 h24
 have h04 := mLt hm1 h14
 have hlt := (List.getElem?_eq_some_iff.1 hi).1
 have hl' := hl
 unfold few at hl'
 obtain ⟨b4, o4, ha, hx⟩ := rows_get Pt.len (hrow.mono h04) hi (by omega)
 refine ⟨b4, o4, ha, ⟨by omega, by omega⟩, _, _, _, _, _, _, _, _, hx, fun b5 => chk_intro rfl fun b6 hf m5 hm5 hb5 => ?_⟩
 have hl5 := mLt (Mem.le_add hf _) hm5
 refine call_int (cx_first [((307, 75, [.pointer (some ⟨b5, 0, none⟩), .pointer (some ⟨b3, 0, none⟩), .pointer (some ⟨b2, 0, none⟩)]), part1 l i p), ((308, 77, [.pointer (some ⟨b, 0, none⟩), .pointer (some ⟨b5, 0, none⟩)]), part2 s p),
  ((309, 78, [.pointer (some ⟨b5, 0, none⟩), .pointer (some ⟨b1, 0, none⟩)]), part3 r p)] _ 3 _ (by simp) (.inr ⟨b6, 0, rfl, (reads_new m4 b6 _).mono hm5⟩) fun x hx m' hm' => ?_) fun m6 hm6 => ret_pure (mLt h04 (mLt hl5 hm6)) rfl
 have hl := mLt hl5 hm'
 have h0' := mLt h04 hl
 have hp := (hall p (List.mem_of_getElem? hi)).mono h0'
 simp only [List.mem_cons, List.not_mem_nil, or_false] at hx
 rcases hx with rfl | rfl | rfl
 ·exact cx_part1 l a c i p m' b5 b3 b2 (by unfold few; omega) (hrow.mono h0') (by omega) hp (hb5.mono hm') (hb3.mono hl) (hb2.mono (mLt hm4 hl))
 ·exact cx_part2 s p m' b b5 (hs.mono h0') hp ho (hb.mono (mLt h14 hl)) (hb5.mono hm')
 ·exact cx_part3 r p m' b5 b1 (hr.mono h0') hp (hb5.mono hm') (hb1.mono (mLt h24 hl))
end Go.Proofs.YtiadlgdcbpnmkaaGreatDoor
set_option linter.unusedVariables false
set_option linter.unusedSimpArgs false
namespace Go.Proofs.YtiadlgdcbpnmkaaGreatDoor
open Go Go.Eng Go.Rx Go.Proofs Go.RowKit
set_option maxRecDepth 100000
theorem sizeR_bd (r : Ru) : 0 ≤ sizeR r ∧ sizeR r ≤ 10001 := by
 have := size_bd r.t
 unfold sizeR; split <;> omega
theorem sum_le {α : Type} (f : α → Int) (B : Int) (l : List α) (hf : ∀ x ∈ l, f x ≤ B) : sumI (l.map f) ≤ l.length * B := by
 induction l with
 | nil => simp [sumI]
 | cons x l ih =>
  have h1 := hf x (by simp)
  have h2 := ih fun y hy => hf y (by simp [hy])
  simp only [List.map_cons, sumI, List.length_cons]
  push_cast
  rw [Int.add_mul]; omega
def sizesS (x : Sta) : Int := sumI (x.rules.map sizeR)
def T0s (s : Sc) (i : Nat) : Int := sumI ((s.states.take i).map sizesS)
theorem totals_eq {s : Sc} {i : Nat} {x : Sta} (h : s.states[i]? = some x) (k : Nat) : totals s i k = T0s s i + sumI ((x.rules.take (k + 1)).map sizeR) := by
 unfold totals; rw [h]; rfl
theorem sizes_bd {m : Mem} {x : Sta} (hx : RepS m x) (k : Nat) : 0 ≤ sumI ((x.rules.take k).map sizeR) ∧ sumI ((x.rules.take k).map sizeR) ≤ 1000100000 := by
 have hl := hx.len
 unfold few at hl
 refine ⟨sum_nn _ (fun r => (sizeR_bd r).1) _, ?_⟩
 have := sum_le sizeR 10001 (x.rules.take k) fun r _ => (sizeR_bd r).2
 rw [List.length_take] at this
 omega
theorem T0_bd {m : Mem} {s : Sc} (hs : RepC m s) (i : Nat) : 0 ≤ T0s s i ∧ T0s s i ≤ 100010000000000 := by
 have hl := hs.len
 unfold few at hl
 refine ⟨sum_nn _ (fun x => sum_nn _ (fun r => (sizeR_bd r).1) _) _, ?_⟩
 have := sum_le sizesS 1000100000 (s.states.take i) fun x hx => by
  have := (sizes_bd (hs.all x (List.mem_of_mem_take hx)) x.rules.length).2
  rw [List.take_length] at this; exact this
 rw [List.length_take] at this
 unfold T0s; omega
def totL (s : Sc) (i n : Nat) : List Value := (List.range n).map fun j => .int .i64 (totals s i j)
theorem totL_len (s : Sc) (i n : Nat) : (totL s i n).length = n := by simp [totL]
theorem totL_succ (s : Sc) (i n : Nat) : totL s i (n + 1) = totL s i n ++ [.int .i64 (totals s i n)] := by simp [totL, List.range_succ]
def TotI (s : Sc) (i : Nat) (a : Option Addr) (vs : List Value) (m : Mem) : Prop := vs.length = i ∧ rowRd m a vs ∧ ∀ (k : Nat) (x : Sta), k < i → s.states[k]? = some x → ∃ ak ck, vs[k]? = some (.slice ak x.rules.length ck) ∧ rowRd m ak (totL s k x.rules.length)
theorem TotI.mono {s : Sc} {i : Nat} {a : Option Addr} {vs : List Value} {m m' : Mem} (h : TotI s i a vs m) (hm : m.le m') : TotI s i a vs m' := ⟨h.1, h.2.1.mono hm, fun k x hk hx => by
 obtain ⟨ak, ck, h1, h2⟩ := h.2.2 k x hk hx
 exact ⟨ak, ck, h1, h2.mono hm⟩⟩
def TotR (s : Sc) : Value → Mem → List (List Value) → Prop := fun v m _ => ∃ a c vs, v = .slice a s.states.length c ∧ TotI s s.states.length a vs m
theorem tot_fits {s} : ∀ (v : Value) (m' : Mem) (css : List (List Value)), TotR s v m' css → Shape.fits .slice v = true := fun v _ _ ⟨_, _, _, e, _⟩ => by rw [e]; rfl
set_option maxHeartbeats 1000000 in
theorem cx_totals (s : Sc) (m : Mem) (hr : RepC m s) : CX Tryz.prog 28 #[s.v] m [] (TotR s) := by
 apply cx_check_totals
 unfold VC_check_totals
 intro b m1 hm1 _
 have hsl := hr.len
 unfold few at hsl
 refine ⟨fun xs _ tks m' q => ∃ (i : Nat) (a : Option Addr) (c : Nat) (vs : List Value), i ≤ s.states.length ∧ xs = [.int .i64 (T0s s i), .slice a i c, .int .i64 i] ∧ tks = [.slice a i c] ∧ m1.le m' ∧ TotI s i a vs m' ∧ q = s.states.length - i,
  ⟨s.states.length, 0, none, 0, [], by omega, rfl, rfl, Mem.le_refl _, ⟨rfl, .inl rfl, fun k x hk => absurd hk (by omega)⟩, rfl⟩, ?_⟩
 rintro n a n1 c n2 a1 n3 c1 m2 q hm2 ⟨i, A, C, vs, hi, hx, ht, hle, hT, hq⟩
 simp only [List.cons.injEq, Value.int.injEq, Value.slice.injEq, and_true, true_and] at hx ht
 obtain ⟨rfl, ⟨ea, en, ec⟩, rfl⟩ := hx
 obtain ⟨ea', en', ec'⟩ := ht
 subst a1 n3 c1 a n1 c
 subst hq
 have h02 := mLt hm1 hm2
 have hw : ∀ k : Nat, k ≤ 100000 → IntKind.i64.wrap ((k : Int) + 1) = ((k + 1 : Nat) : Int) := fun k hk => by rw [wrap64 (by omega) (by omega)]; rfl
 refine br_dec (fun hlt => ?_) (fun hge => ?_)
 ·have hlt : (i : Int) < (s.states.length : Int) := hlt
  have hlt' : i < s.states.length := by omega
  obtain ⟨x, hx⟩ := at_lt hlt'
  have hxr := hr.all x (List.mem_of_getElem? hx)
  have hrl := hxr.len
  unfold few at hrl
  obtain ⟨b2, o2, ha, hx2⟩ := rows_get Sta.len (hr.row.mono h02) hx (by omega)
  refine ⟨b2, o2, ha, ⟨by omega, by omega⟩, _, _, by rw [Int.toNat_natCast]; exact hx2, fun b3 => chk_intro rfl (chk_intro rfl ?_)⟩
  refine ⟨fun xs _ tks m' q => ∃ (k : Nat) (ak : Option Addr) (ck : Nat), k ≤ x.rules.length ∧ xs = [.int .i64 (T0s s i + sumI ((x.rules.take k).map sizeR)), .slice ak k ck, .int .i64 k] ∧ tks = [.slice ak k ck] ∧ rowRd m' ak (totL s i k) ∧ q = x.rules.length - k,
   ⟨x.rules.length, 0, none, 0, by omega, by simp [sumI], rfl, .inl rfl, rfl⟩, ?_⟩
  rintro n a4 n5 c2 n6 a5 n7 c3 m3 q hm3 ⟨k, ak, ck, hk, hx3, ht3, hrow, hq⟩
  simp only [List.cons.injEq, Value.int.injEq, Value.slice.injEq, and_true, true_and] at hx3 ht3
  obtain ⟨rfl, ⟨ea, en, ec⟩, rfl⟩ := hx3
  obtain ⟨ea', en', ec'⟩ := ht3
  subst a5 n7 c3 a4 n5 c2
  subst hq
  have h03 := mLt h02 hm3
  refine br_dec (fun hlt2 => ?_) (fun hge2 => ?_)
  ·have hlt2 : (k : Int) < (x.rules.length : Int) := hlt2
   obtain ⟨r, hrk⟩ := at_lt (show k < x.rules.length by omega)
   have hrr := hxr.all r (List.mem_of_getElem? hrk)
   obtain ⟨b4, o4, ha4, hx4⟩ := rows_get Ru.len (hxr.row.mono h03) hrk (by omega)
   have hT0 := T0_bd hr i
   have hsb := sizes_bd hxr k
   have hsb1 := sizes_bd hxr (k + 1)
   have hst := sum_step sizeR hrk
   have htot := totals_eq hx k
   have next : ∀ {M M2 : Mem} {b5 : Nat} {z : Int} {Q : Option Addr → Nat → Mem → Prop}, m3.le M → M.free b5 → z = totals s i k → (∀ (a' : Option Addr) (c' : Nat) (m' : Mem), M.le m' → rowRd m' a' (totL s i (k + 1)) → Q a' c' m') →
     (Tok.mk (.slice ak k ck) 1 = Tok.mk (.slice ak k ck) 1 ∨ Value.slice ak k ck = .slice none 0 0 ∨ ck < k + 1) ∧ ∃ xs ys : List Value, xs.length = k * 1 ∧ ys.length = 1 * 1 ∧ rowRd (M.add b5 [.int .i64 z]) ak xs ∧ rowRd (M.add b5 [.int .i64 z]) (some ⟨b5, 0, none⟩) ys ∧ (∀ u ∈ ys, u.oneCell' = true) ∧
      (k + 1) * 8 ≤ 140737488355328 ∧ k + 1 ≤ 9223372036854775807 ∧ ∀ (a' : Option Addr) (c' : Nat) (m' : Mem), (M.add b5 [.int .i64 z]).le m' → rowRd m' a' (xs ++ ys) → Q a' c' m' := fun {M M2 b5 z Q} hM hf hz hQ =>
    ⟨.inl rfl, totL s i k, [.int .i64 z], by rw [totL_len]; omega, rfl, hrow.mono (mLt hM (Mem.le_add hf _)), .inr ⟨b5, 0, rfl, reads_new M b5 _⟩, by simp [Value.oneCell'], by omega, by omega, fun a' c' m' hm' hr' => hQ a' c' m' (mLt (Mem.le_add hf _) hm') (by rw [totL_succ, ← hz]; exact hr')⟩
   refine chk_intro rfl ⟨b4, o4, ha4, ⟨by omega, hlt2⟩, _, _, _, _, _, _, _, _, _, _, _, _, _, _, _, _, by rw [Int.toNat_natCast]; exact hx4, fun b5 => chk_intro rfl (chk_intro rfl (br_intro (fun hk1 => ?_) (fun hk1 b6 hf => ?_)))⟩
   ·have hk1 : r.k = 1 := eq_of_beq (show (r.k == 1) = true from hk1)
    have hz : sizeR r = r.t.size := by unfold sizeR; rw [if_pos hk1]
    refine call_int (cx_Size r.t m3 (hrr.t.mono h03)) fun m4 hm4 b6 hf => ?_
    have hsz := size_bd r.t
    rw [wrap64 (n := _ + r.t.size) (by omega) (by omega)]
    refine next (M2 := m4) hm4 hf (by rw [htot, hst, hz]; omega) fun a' c' m' hm' hr' => ⟨rfl, rfl, x.rules.length - (k + 1), by omega, k + 1, a', c', by omega, ?_, rfl, hr', rfl⟩
    rw [hw k (by omega), hst, hz]
    simp only [Int.add_assoc]
   ·have hk1 : ¬ r.k = 1 := fun e => by
     have : (r.k == 1) = false := hk1
     rw [e] at this; simp at this
    have hz : sizeR r = 0 := by unfold sizeR; rw [if_neg hk1]
    refine next (M2 := m3) (Mem.le_refl _) hf (by rw [htot, hst, hz]; omega) fun a' c' m' hm' hr' => ⟨rfl, rfl, x.rules.length - (k + 1), by omega, k + 1, a', c', by omega, ?_, rfl, hr', rfl⟩
    rw [hw k (by omega), hst, hz, Int.add_zero]
  ·have hge2 : ¬ (k : Int) < (x.rules.length : Int) := hge2
   obtain rfl : k = x.rules.length := by omega
   intro b3 hf
   have hT2 := hT.mono (mLt hm3 (Mem.le_add hf [.slice ak x.rules.length ck]))
   refine ⟨.inl rfl, vs, [.slice ak x.rules.length ck], by rw [hT.1]; omega, rfl, hT2.2.1, .inr ⟨b3, 0, rfl, reads_new m3 b3 _⟩, by simp [Value.oneCell'], by omega, by omega, fun a' c' m' hm' hr' => ⟨rfl, s.states.length - (i + 1), by omega, i + 1, a', c', vs ++ [.slice ak x.rules.length ck], by omega, ?_, rfl, mLt hle (mLt hm3 (mLt (Mem.le_add hf _) hm')), ⟨by rw [List.length_append, hT.1]; rfl, hr', fun j y hj hy => ?_⟩, rfl⟩⟩
   ·rw [hw i (by omega), List.take_length]
    have : T0s s (i + 1) = T0s s i + sizesS x := sum_step sizesS hx
    rw [this]; rfl
   ·by_cases hkn : j < i
    ·obtain ⟨aj, cj, h1, h2⟩ := hT2.2.2 j y hkn hy
     exact ⟨aj, cj, by rw [List.getElem?_append_left (by rw [hT.1]; omega)]; exact h1, h2.mono hm'⟩
    ·obtain rfl : j = i := by omega
     obtain rfl : x = y := by rw [hx] at hy; exact Option.some.inj hy
     exact ⟨ak, ck, by rw [List.getElem?_append_right (by rw [hT.1]; omega), hT.1]; simp, hrow.mono (mLt (Mem.le_add hf _) hm')⟩
 ·have hge : ¬ (i : Int) < (s.states.length : Int) := hge
  obtain rfl : i = s.states.length := by omega
  exact ⟨m2, h02, Mem.le_refl _, A, C, vs, rfl, hT⟩
end Go.Proofs.YtiadlgdcbpnmkaaGreatDoor
set_option linter.unusedVariables false
set_option linter.unusedSimpArgs false
namespace Go.Proofs.YtiadlgdcbpnmkaaGreatDoor
open Go Go.Eng Go.Rx Go.Proofs Go.RowKit
set_option maxRecDepth 100000
theorem row1 {m : Mem} {a : Option Addr} {vs : List Value} (h : rowRd m a vs) {k : Nat} {v : Value} (hk : vs[k]? = some v) : ∃ b o, a = some ⟨b, o, none⟩ ∧ m.c b (o + k * 1) = some v := by
 rcases h with h | ⟨b, o, ha, h⟩
 ·rw [h] at hk; simp at hk
 ·exact ⟨b, o, ha, by rw [Nat.mul_one]; exact h k v hk⟩
def Sc.oneName (s : Sc) : Prop := ∀ x ∈ s.states, ∀ r ∈ x.rules, ∀ a ∈ r.acts, (a.k = 3 → a.e.vars.length ≤ 1) ∧ ∀ p ∈ a.parts, p.k = 4 → p.e.vars.length ≤ 1
theorem cx_at (s : Sc) (ta : Option Addr) (tc : Nat) (vs : List Value) (p : Pl) (m : Mem) (hr : RepC m s) (ho : Sc.oneName s) (hT : TotI s s.states.length ta vs m) (hp : PlOk s p) :
  CX Tryz.prog 27 #[s.v, .slice ta s.states.length tc, .agg p.cs.toArray] m [] (Ret (.int .i64 (atS s p))) := by
 obtain ⟨pv, ps, pr, pa, pp⟩ := p
 dsimp only [PlOk] at hp
 dsimp only [Pl.cs]
 show CX Tryz.prog 27 #[s.v, .slice ta s.states.length tc, .agg #[.int .i64 pv, .int .i64 ps, .int .i64 pr, .int .i64 pa, .int .i64 pp]] m [] _
 apply cx_check_at
 unfold VC_check_at
 intro b m1 hm1 _ b1 m2 hm2 _
 have hm := mLt hm1 hm2
 have hvl := hr.vlen
 have hsl := hr.len
 unfold few at hvl hsl
 rcases hp with ⟨i, rfl, v, hv⟩ | ⟨hv, hp⟩
 ·refine br_t (decide_eq_true (Int.natCast_nonneg i)) (call_int (cx_variable s i v m2 (hr.mono hm) hv) fun m3 hm3 => ret_pure (mLt hm hm3) ?_)
  show Value.int _ _ = Value.int _ _
  unfold atS; rw [if_pos (Int.natCast_nonneg i), Int.toNat_natCast, hv]
 have hv : pv < 0 := hv
 refine br_f (decide_eq_false (by omega)) ?_
 rcases hp with hs | ⟨i, rfl, x, hx, hp⟩
 ·have hs : ps < 0 := hs
  refine br_t (decide_eq_true hs) (call_int (cx_whole s (hr.mono hm)) fun m3 hm3 => ret_pure (mLt hm hm3) ?_)
  show Value.int _ _ = Value.int _ _
  unfold atS; rw [if_neg (by show ¬ pv ≥ 0; omega), if_pos hs]
 refine br_f (decide_eq_false (by omega)) ?_
 have hil := (List.getElem?_eq_some_iff.1 hx).1
 have at0 : ∀ q : Pl, q.v = pv → q.s = i → atS s q = if q.r < 0 then stateS s i x else match x.rules[q.r.toNat]? with
   | none => 0
   | some r => if q.a < 0 then ruleS s r (totals s i q.r.toNat) else match r.acts[q.a.toNat]? with
    | none => 0
    | some a => if q.p < 0 then actionS s r a else match a.parts[q.p.toNat]? with
     | none => 0
     | some z => partS s r a.parts q.p.toNat z := fun q h1 h2 => by
  unfold atS; rw [h1, h2, if_neg (by omega), if_neg (by omega), Int.toNat_natCast, hx]
  rfl
 rcases hp with hs | ⟨k, rfl, r, hrk, hp⟩
 ·have hs : pr < 0 := hs
  refine br_t (decide_eq_true hs) (call_int (cx_state s i x m2 (hr.mono hm) hx) fun m3 hm3 => ret_pure (mLt hm hm3) ?_)
  show Value.int _ _ = Value.int _ _
  rw [at0 _ rfl rfl, if_pos hs]
 refine br_f (decide_eq_false (by omega)) ?_
 have hxm := List.mem_of_getElem? hx
 have hxr := (hr.all x hxm).mono hm
 have hrl := hxr.len
 unfold few at hrl
 have hkl := (List.getElem?_eq_some_iff.1 hrk).1
 have hrm := List.mem_of_getElem? hrk
 have hrr := hxr.all r hrm
 have hal := hrr.len
 unfold few at hal
 obtain ⟨b2, o2, ha2, hx2⟩ := rows_get Sta.len (hr.row.mono hm) hx (by omega)
 obtain ⟨b3, o3, ha3, hx3⟩ := rows_get Ru.len hxr.row hrk (by omega)
 have at1 : ∀ q : Pl, q.v = pv → q.s = i → q.r = k → atS s q = if q.a < 0 then ruleS s r (totals s i k) else match r.acts[q.a.toNat]? with
    | none => 0
    | some a => if q.p < 0 then actionS s r a else match a.parts[q.p.toNat]? with
     | none => 0
     | some z => partS s r a.parts q.p.toNat z := fun q h1 h2 h3 => by
  rw [at0 q h1 h2, h3, if_neg (by omega), Int.toNat_natCast, hrk]
 refine ⟨b2, o2, ha2, ⟨by omega, by omega⟩, _, hx2 1 _ rfl, chk_intro rfl ⟨b3, o3, ha3, ⟨by omega, by show (k : Int) < (x.rules.length : Int); omega⟩, _, _, _, _, _, _, _, _, _, _, _, _, _, _, _, _, hx3, fun b4 => chk_intro rfl ?_⟩⟩
 rcases hp with hs | ⟨j, rfl, a, haj, hp⟩
 ·have hs : pa < 0 := hs
  refine br_t (decide_eq_true hs) ?_
  obtain ⟨ak, ck, hvk, hrowk⟩ := hT.2.2 i x hil hx
  obtain ⟨b5, o5, ha5, hc5⟩ := row1 (hT.2.1.mono hm) hvk
  have hkk : (totL s i x.rules.length)[k]? = some (.int .i64 (totals s i k)) := by
   unfold totL; rw [List.getElem?_map, List.getElem?_range hkl]; rfl
  obtain ⟨b6, o6, ha6, hc6⟩ := row1 (hrowk.mono hm) hkk
  refine ⟨fun _ _ _ => Ret (.int .i64 (ruleS s r (totals s i k))), b5, o5, ha5, ⟨by omega, by omega⟩, _, hc5, chk_intro rfl ⟨b6, o6, ha6, ⟨by omega, by show (k : Int) < (x.rules.length : Int); omega⟩, _, hc6, _, rfl, cx_rule s r (totals s i k) m2 (hr.mono hm) hrr, fun v _ _ e => by rw [show v = _ from e]; rfl, fun n m3 hm3 hn M hM _ => ret_pure (mLt hm hM) ?_⟩⟩
  obtain rfl : n = ruleS s r (totals s i k) := by cases hn; rfl
  show Value.int _ _ = Value.int _ _
  rw [at1 _ rfl rfl rfl, if_pos hs]
 refine br_f (decide_eq_false (by omega)) ?_
 have hjl := (List.getElem?_eq_some_iff.1 haj).1
 have ham := List.mem_of_getElem? haj
 have har := hrr.all a ham
 obtain ⟨o1, op⟩ := ho x hxm r hrm a ham
 obtain ⟨b5, o5, ha5, hx5⟩ := rows_get Ac.len hrr.row haj (by omega)
 rcases hp with hs | ⟨n, rfl, z, hz⟩
 ·have hs : pp < 0 := hs
  refine br_t (decide_eq_true hs) ⟨fun _ _ _ => Ret (.int .i64 (actionS s r a)), chk_intro rfl ⟨b5, o5, ha5, ⟨by omega, by show (j : Int) < (r.acts.length : Int); omega⟩, _, _, _, _, _, _, _, _, hx5, _, rfl, cx_action s r a m2 (hr.mono hm) hrr har o1, fun v _ _ e => by rw [show v = _ from e]; rfl, fun n m3 hm3 hn M hM _ => ret_pure (mLt hm hM) ?_⟩⟩
  obtain rfl : n = actionS s r a := by cases hn; rfl
  show Value.int _ _ = Value.int _ _
  have hj0 : ¬ (j : Int) < 0 := by omega
  have hj1 : r.acts[(j : Int).toNat]? = some a := by rw [Int.toNat_natCast]; exact haj
  rw [at1 _ rfl rfl rfl]
  simp only [hj0, hj1, hs, if_true, if_false]
 ·refine br_f (decide_eq_false (by omega)) ⟨fun _ _ _ => Ret (.int .i64 (partS s r a.parts n z)), chk_intro rfl ⟨b5, o5, ha5, ⟨by omega, by show (j : Int) < (r.acts.length : Int); omega⟩, _, hx5 2 _ rfl, _, rfl, cx_part s r a.parts a.pa a.pc n z m2 (hr.mono hm) hrr har.n har.row har.all hz (op z (List.mem_of_getElem? hz)), fun v _ _ e => by rw [show v = _ from e]; rfl, fun n' m3 hm3 hn M hM _ => ret_pure (mLt hm hM) ?_⟩⟩
  obtain rfl : n' = partS s r a.parts n z := by cases hn; rfl
  show Value.int _ _ = Value.int _ _
  have hj0 : ¬ (j : Int) < 0 := by omega
  have hj1 : r.acts[(j : Int).toNat]? = some a := by rw [Int.toNat_natCast]; exact haj
  have hn0 : ¬ (n : Int) < 0 := by omega
  have hn1 : a.parts[(n : Int).toNat]? = some z := by rw [Int.toNat_natCast]; exact hz
  rw [at1 _ rfl rfl rfl]
  simp only [hj0, hj1, hn0, hn1, if_false]
  rw [Int.toNat_natCast]
end Go.Proofs.YtiadlgdcbpnmkaaGreatDoor
set_option linter.unusedVariables false
set_option linter.unusedSimpArgs false
namespace Go.Proofs.YtiadlgdcbpnmkaaGreatDoor
open Go Go.Eng Go.Rx Go.Proofs Go.RowKit
set_option maxRecDepth 100000
theorem rowsPl_len (L : List Pl) : (L.map Pl.cs).flatten.length = L.length * 5 := by
 induction L with
 | nil => rfl
 | cons x l ih => rw [List.map_cons, List.flatten_cons, List.length_append, ih, List.length_cons, Nat.succ_mul]; show 5 + _ = _; omega
def PI (L : List Pl) (v t : Value) (m : Mem) : Prop := ∃ a c a1 n1 c1, v = .slice a L.length c ∧ t = .slice a1 n1 c1 ∧ ((a1 = a ∧ n1 = L.length ∧ c1 = c) ∨ c < L.length + 1) ∧ rowRd m a (L.map Pl.cs).flatten
theorem PI.mono {L : List Pl} {v t : Value} {m m' : Mem} (h : PI L v t m) (hm : m.le m') : PI L v t m' := by
 obtain ⟨a, c, a1, n1, c1, h1, h2, h3, h4⟩ := h
 exact ⟨a, c, a1, n1, c1, h1, h2, h3, h4.mono hm⟩
theorem PI.app {L : List Pl} {a a1 : Option Addr} {n c n1 c1 : Nat} {m : Mem} {b : Nat} {Q : Option Addr → Nat → Mem → Prop} (z : Pl) (h : PI L (.slice a n c) (.slice a1 n1 c1) m) (hb : L.length ≤ 30000) (hf : m.free b)
  (k : ∀ (a' : Option Addr) (c' : Nat) (m' : Mem), m.le m' → PI (L ++ [z]) (.slice a' (n + 1) c') (.slice a' (n + 1) c') m' → Q a' c' m') :
  (Tok.mk (.slice a1 n1 c1) 5 = Tok.mk (.slice a n c) 5 ∨ Value.slice a n c = .slice none 0 0 ∨ c < n + 1) ∧ ∃ xs ys : List Value, xs.length = n * 5 ∧ ys.length = 1 * 5 ∧ rowRd (m.add b z.cs) a xs ∧ rowRd (m.add b z.cs) (some ⟨b, 0, none⟩) ys ∧ (∀ u ∈ ys, u.oneCell' = true) ∧
   (n + 1) * 40 ≤ 140737488355328 ∧ n + 1 ≤ 9223372036854775807 ∧ ∀ (a' : Option Addr) (c' : Nat) (m' : Mem), (m.add b z.cs).le m' → rowRd m' a' (List.append xs ys) → Q a' c' m' := by
 obtain ⟨a0, c0, a10, n10, c10, h1, h2, h3, h4⟩ := h
 simp only [Value.slice.injEq] at h1 h2
 obtain ⟨rfl, rfl, rfl⟩ := h1
 obtain ⟨rfl, rfl, rfl⟩ := h2
 have hle : m.le (m.add b z.cs) := Mem.le_add hf _
 refine ⟨?_, (L.map Pl.cs).flatten, z.cs, rowsPl_len L, rfl, h4.mono hle, .inr ⟨b, 0, rfl, reads_new m b _⟩, ?_, by omega, by omega, fun a' c' m' hm' hr' => k a' c' m' (mLt hle hm') ⟨a', c', a', L.length + 1, c', ?_, rfl, .inl ⟨rfl, ?_, rfl⟩, ?_⟩⟩
 ·rcases h3 with ⟨e1, e2, e3⟩ | h3
  ·rw [e1, e2, e3]; exact .inl rfl
  ·exact .inr (.inr h3)
 ·intro u hu
  simp only [Pl.cs, List.mem_cons, List.not_mem_nil, or_false] at hu
  rcases hu with rfl | rfl | rfl | rfl | rfl <;> rfl
 ·rw [List.length_append]; rfl
 ·rw [List.length_append]; rfl
 ·rw [List.map_append, List.flatten_append]
  have : (List.map Pl.cs [z]).flatten = z.cs := by simp
  rw [this]; exact hr'
def PlacesR (s : Sc) : Value → Mem → List (List Value) → Prop := fun v m _ => ∃ a c, v = .slice a s.places.length c ∧ rowRd m a (s.places.map Pl.cs).flatten
theorem places_fits {s} : ∀ (v : Value) (m' : Mem) (css : List (List Value)), PlacesR s v m' css → Shape.fits .slice v = true := fun v _ _ ⟨_, _, e, _⟩ => by rw [e]; rfl
set_option maxHeartbeats 4000000 in
theorem cx_Places (s : Sc) (m : Mem) (hr : RepC m s) : CX Tryz.prog 9 #[s.v] m [] (PlacesR s) := by
 apply cx_ast_Places
 unfold VC_ast_Places
 intro b m1 hm1 _
 have hvl := hr.vlen
 have hsl := hr.len
 unfold few at hvl hsl
 refine call_bool (cx_aLight s m1 (hr.mono hm1)) fun m2 hm2 => br_intro (fun hl => ?_) (fun hl b2 hf2 => ?_)
 ·have hl : s.light = false := by simpa using hl
  have he : s.places = [] := by unfold Sc.places; rw [hl]; rfl
  exact ret_pure (mLt hm1 hm2) ⟨none, 0, by rw [he]; rfl, by rw [he]; exact .inl rfl⟩
 have hl : s.light = true := by simpa using hl
 have hle2 : m2.le (m2.add b2 (Pl.cs top)) := Mem.le_add hf2 _
 have h02 := mLt hm1 (mLt hm2 hle2)
 have hpl := places_len s
 have hpe := places_eq hl
 rw [hpe, List.length_cons, List.length_append, show (upto s.vars.length Vf).length = s.vars.length from upto_one _ _] at hpl
 have hw : ∀ k : Nat, k ≤ 100000 → IntKind.i64.wrap ((k : Int) + 1) = ((k + 1 : Nat) : Int) := fun k hk => by rw [wrap64 (by omega) (by omega)]; rfl
 have start : PI [top] (.slice (some ⟨b2, 0, none⟩) 1 1) (.slice none 0 0) (m2.add b2 (Pl.cs top)) := ⟨_, 1, _, _, _, rfl, rfl, .inr (by decide), .inr ⟨b2, 0, rfl, by simpa using reads_new m2 b2 (Pl.cs top)⟩⟩
 refine ⟨fun xs _ tks m' q => ∃ (i : Nat) (v t : Value), i ≤ s.vars.length ∧ xs = [v, .int .i64 i] ∧ tks = [t] ∧ PI (top :: upto i Vf) v t m' ∧ q = s.vars.length - i, ⟨s.vars.length, 0, _, _, by omega, rfl, rfl, start, rfl⟩, ?_⟩
 rintro a n c i' a1 n2 c1 m3 q hm3 ⟨i, v, t, hi, hx, ht, hP, rfl⟩
 simp only [List.cons.injEq, Value.int.injEq, and_true, true_and] at hx ht
 obtain ⟨rfl, rfl⟩ := hx
 subst ht
 have h03 := mLt h02 hm3
 have hiv : (upto i Vf).length = i := upto_one _ _
 refine br_dec (fun hlt b3 hf3 => ?_) (fun hge => ?_)
 ·have hlt : (i : Int) < (s.vars.length : Int) := hlt
  refine PI.app ⟨i, -1, -1, -1, -1⟩ hP (by rw [List.length_cons, hiv]; omega) hf3 fun a' c' m' hm' hP' => ⟨rfl, s.vars.length - (i + 1), by omega, i + 1, _, _, by omega, by rw [hw i (by omega)], rfl, ?_, rfl⟩
  rw [upto_succ]; exact hP'
 have hge : ¬ (i : Int) < (s.vars.length : Int) := hge
 obtain rfl : i = s.vars.length := by omega
 generalize hB : top :: upto s.vars.length Vf = B at hP
 have hBl : B.length = s.vars.length + 1 := by rw [← hB, List.length_cons, hiv]
 refine ⟨fun xs _ tks m' q => ∃ (i : Nat) (v t : Value), i ≤ s.states.length ∧ xs = [v, .int .i64 i] ∧ tks = [t] ∧ PI (B ++ upto i (Ff s)) v t m' ∧ q = s.states.length - i, ⟨s.states.length, 0, _, _, by omega, rfl, rfl, by simpa [upto] using hP, rfl⟩, ?_⟩
 rintro a n c i' a1 n2 c1 m4 q hm4 ⟨i, v, t, hi, hx, ht, hP, rfl⟩
 simp only [List.cons.injEq, Value.int.injEq, and_true, true_and] at hx ht
 obtain ⟨rfl, rfl⟩ := hx
 subst ht
 have h04 := mLt h03 hm4
 refine br_dec (fun hlt => ?_) (fun hge => ?_)
 ·have hlt : (i : Int) < (s.states.length : Int) := hlt
  obtain ⟨x, hx⟩ := at_lt (show i < s.states.length by omega)
  have hxr := hr.all x (List.mem_of_getElem? hx)
  have hrl := hxr.len
  unfold few at hrl
  have hF : Ff s i = plS i x := by unfold Ff; rw [hx]
  have hb1 : (upto i (Ff s)).length + (plS i x).length ≤ (upto s.states.length (Ff s)).length := by
   have := upto_le (show i + 1 ≤ s.states.length by omega) (Ff s)
   rw [upto_succ, List.length_append, hF] at this; exact this
  rw [plS_eq, List.length_cons] at hb1
  obtain ⟨b3, o3, ha3, hx3⟩ := rows_get Sta.len (hr.row.mono h04) hx (by omega)
  refine ⟨b3, o3, ha3, ⟨by omega, hlt⟩, _, _, hx3, fun b4 => chk_intro rfl fun b5 hf5 => ?_⟩
  refine PI.app ⟨-1, i, -1, -1, -1⟩ hP (by rw [List.length_append]; omega) hf5 fun a' c' m5 hm5 hP => chk_intro rfl ?_
  have h05 := mLt h04 hm5
  generalize hL1 : B ++ upto i (Ff s) = L1 at hP
  have hl1 : L1.length = B.length + (upto i (Ff s)).length := by rw [← hL1, List.length_append]
  refine ⟨fun xs _ tks m' q => ∃ (k : Nat) (v t : Value), k ≤ x.rules.length ∧ xs = [v, .int .i64 k] ∧ tks = [t] ∧ PI (L1 ++ (⟨-1, i, -1, -1, -1⟩ :: upto k (Gf i x))) v t m' ∧ q = x.rules.length - k, ⟨x.rules.length, 0, _, _, by omega, rfl, rfl, by simpa [upto] using hP, rfl⟩, ?_⟩
  rintro a n c k' a1 n2 c1 m6 q hm6 ⟨k, v, t, hk, hy, ht, hP, rfl⟩
  simp only [List.cons.injEq, Value.int.injEq, and_true, true_and] at hy ht
  obtain ⟨rfl, rfl⟩ := hy
  subst ht
  have h06 := mLt h05 hm6
  refine br_dec (fun hlt2 => ?_) (fun hge2 => ?_)
  ·have hlt2 : (k : Int) < (x.rules.length : Int) := hlt2
   obtain ⟨r, hrk⟩ := at_lt (show k < x.rules.length by omega)
   have hrr := hxr.all r (List.mem_of_getElem? hrk)
   have hal := hrr.len
   unfold few at hal
   have hG : Gf i x k = plR i k r := by unfold Gf; rw [hrk]
   have hb2 : (upto k (Gf i x)).length + (plR i k r).length ≤ (upto x.rules.length (Gf i x)).length := by
    have := upto_le (show k + 1 ≤ x.rules.length by omega) (Gf i x)
    rw [upto_succ, List.length_append, hG] at this; exact this
   rw [plR_eq, List.length_cons] at hb2
   obtain ⟨b6, o6, ha6, hx6⟩ := rows_get Ru.len (hxr.row.mono h06) hrk (by omega)
   refine chk_intro rfl ⟨b6, o6, ha6, ⟨by omega, hlt2⟩, _, _, _, _, _, _, _, _, _, _, _, _, _, _, _, _, hx6, fun b7 => chk_intro rfl fun b8 hf8 => ?_⟩
   refine PI.app ⟨-1, i, k, -1, -1⟩ hP (by rw [List.length_append, List.length_cons]; omega) hf8 fun a' c' m7 hm7 hP => chk_intro rfl ?_
   have h07 := mLt h06 hm7
   generalize hL2 : L1 ++ (⟨-1, i, -1, -1, -1⟩ :: upto k (Gf i x)) = L2 at hP
   have hl2 : L2.length = L1.length + 1 + (upto k (Gf i x)).length := by rw [← hL2, List.length_append, List.length_cons]; omega
   refine ⟨fun xs _ tks m' q => ∃ (j : Nat) (v t : Value), j ≤ r.acts.length ∧ xs = [v, .int .i64 j] ∧ tks = [t] ∧ PI (L2 ++ (⟨-1, i, k, -1, -1⟩ :: upto j (Hf i k r))) v t m' ∧ q = r.acts.length - j, ⟨r.acts.length, 0, _, _, by omega, rfl, rfl, by simpa [upto] using hP, rfl⟩, ?_⟩
   rintro a n c j' a1 n2 c1 m8 q hm8 ⟨j, v, t, hj, hy, ht, hP, rfl⟩
   simp only [List.cons.injEq, Value.int.injEq, and_true, true_and] at hy ht
   obtain ⟨rfl, rfl⟩ := hy
   subst ht
   have h08 := mLt h07 hm8
   refine br_dec (fun hlt3 => ?_) (fun hge3 => ?_)
   ·have hlt3 : (j : Int) < (r.acts.length : Int) := hlt3
    obtain ⟨y, haj⟩ := at_lt (show j < r.acts.length by omega)
    have har := hrr.all y (List.mem_of_getElem? haj)
    have hpl2 := har.n
    unfold few at hpl2
    have hH : Hf i k r j = plA i k j y := by unfold Hf; rw [haj]
    have hb3 : (upto j (Hf i k r)).length + (plA i k j y).length ≤ (upto r.acts.length (Hf i k r)).length := by
     have := upto_le (show j + 1 ≤ r.acts.length by omega) (Hf i k r)
     rw [upto_succ, List.length_append, hH] at this; exact this
    rw [plA_eq, List.length_cons, show (upto y.parts.length (Pf i k j)).length = y.parts.length from upto_one _ _] at hb3
    obtain ⟨b9, o9, ha9, hx9⟩ := rows_get Ac.len (hrr.row.mono h08) haj (by omega)
    refine chk_intro rfl ⟨b9, o9, ha9, ⟨by omega, hlt3⟩, _, _, _, _, _, _, _, _, hx9, fun b10 => chk_intro rfl fun b11 hf11 => ?_⟩
    refine PI.app ⟨-1, i, k, j, -1⟩ hP (by rw [List.length_append, List.length_cons]; omega) hf11 fun a' c' m9 hm9 hP => chk_intro rfl ?_
    generalize hL3 : L2 ++ (⟨-1, i, k, -1, -1⟩ :: upto j (Hf i k r)) = L3 at hP
    have hl3 : L3.length = L2.length + 1 + (upto j (Hf i k r)).length := by rw [← hL3, List.length_append, List.length_cons]; omega
    refine ⟨fun xs _ tks m' q => ∃ (w : Nat) (v t : Value), w ≤ y.parts.length ∧ xs = [v, .int .i64 w] ∧ tks = [t] ∧ PI (L3 ++ (⟨-1, i, k, j, -1⟩ :: upto w (Pf i k j))) v t m' ∧ q = y.parts.length - w, ⟨y.parts.length, 0, _, _, by omega, rfl, rfl, by simpa [upto] using hP, rfl⟩, ?_⟩
    rintro a n c w' a1 n2 c1 m10 q hm10 ⟨w, v, t, hwl, hy, ht, hP, rfl⟩
    simp only [List.cons.injEq, Value.int.injEq, and_true, true_and] at hy ht
    obtain ⟨rfl, rfl⟩ := hy
    subst ht
    have hwv : (upto w (Pf i k j)).length = w := upto_one _ _
    refine br_dec (fun hlt4 b12 hf12 => ?_) (fun hge4 => ?_)
    ·have hlt4 : (w : Int) < (y.parts.length : Int) := hlt4
     refine PI.app ⟨-1, i, k, j, w⟩ hP (by rw [List.length_append, List.length_cons, hwv]; omega) hf12 fun a' c' m' hm' hP' => ⟨rfl, rfl, y.parts.length - (w + 1), by omega, w + 1, _, _, by omega, by rw [hw w (by omega)], rfl, ?_, rfl⟩
     rw [upto_succ]
     simpa [Pf] using hP'
    ·have hge4 : ¬ (w : Int) < (y.parts.length : Int) := hge4
     obtain rfl : w = y.parts.length := by omega
     refine ⟨rfl, rfl, r.acts.length - (j + 1), by omega, j + 1, _, _, by omega, by rw [hw j (by omega)], rfl, ?_, rfl⟩
     rw [upto_succ, hH, plA_eq]
     rw [← hL3] at hP
     simpa using hP
   ·have hge3 : ¬ (j : Int) < (r.acts.length : Int) := hge3
    obtain rfl : j = r.acts.length := by omega
    refine ⟨rfl, rfl, x.rules.length - (k + 1), by omega, k + 1, _, _, by omega, by rw [hw k (by omega)], rfl, ?_, rfl⟩
    rw [upto_succ, hG, plR_eq]
    rw [← hL2] at hP
    simpa using hP
  ·have hge2 : ¬ (k : Int) < (x.rules.length : Int) := hge2
   obtain rfl : k = x.rules.length := by omega
   refine ⟨rfl, rfl, s.states.length - (i + 1), by omega, i + 1, _, _, by omega, by rw [hw i (by omega)], rfl, ?_, rfl⟩
   rw [upto_succ, hF, plS_eq]
   rw [← hL1] at hP
   simpa using hP
 ·have hge : ¬ (i : Int) < (s.states.length : Int) := hge
  obtain rfl : i = s.states.length := by omega
  obtain ⟨a0, c0, a10, n10, c10, h1, h2, h3, h4⟩ := hP
  have he : B ++ upto s.states.length (Ff s) = s.places := by rw [hpe, ← hB]; rfl
  rw [he] at h1 h4
  rw [h1]
  exact ⟨m4, h04, Mem.le_refl _, a0, c0, rfl, h4⟩
end Go.Proofs.YtiadlgdcbpnmkaaGreatDoor
