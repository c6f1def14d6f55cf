/- Part of the proof: conditions and contracts of functions of this program. No condition of its own. -/
import Derived.Test.YtplacemlpkhmfaaPVNC
import Derived.Test.YtplacemlpkhmfaaPC17A
import Derived.Test.YtplacemlpkhmfaaPVB
import Derived.Test.YtplacemlpkhmfaaPC13Q
import Derived.Test.YtplacemlpkhmfaaMr
set_option linter.unusedVariables false
set_option linter.unusedSimpArgs false
namespace Go.Proofs.Ytplacemlpkhmfaa
open Go Go.Eng Go.Rx Go.Proofs Go.RowKit
set_option maxRecDepth 100000
theorem at_some' {α : Type} {l : List α} {k : Nat} (h : k < l.length) : ∃ x, l[k]? = some x := ⟨l[k], by simp [h]⟩
theorem drop_at {α : Type} {l : List α} {k : Nat} {x : α} (h : l[k]? = some x) : l.drop k = x :: l.drop (k + 1) := by
 obtain ⟨hk, he⟩ := List.getElem?_eq_some_iff.1 h
 rw [List.drop_eq_getElem_cons hk, he]
theorem cx_rising (l : List Int) (lo hi : Int) (a : Option Addr) (c : Nat) (m : Mem) (h : rowRd m a (intVs l)) (hl : l.length ≤ 1000000) (hlo : -10 ≤ lo ∧ lo ≤ 10) : CX Try.prog 70 #[.slice a l.length c, .int .i64 lo, .int .i64 hi] m [] (Ret (.bool (riseF l (lo - 1) hi))) := by
 apply cx_nfa_rising
 unfold VC_nfa_rising
 refine ⟨fun xs _ _ m' q => ∃ (k : Nat) (z : Int), k ≤ l.length ∧ xs = [.int .i64 z, .int .i64 k] ∧ riseF (l.drop k) z hi = riseF l (lo - 1) hi ∧ m.le m' ∧ q = l.length - k, ⟨_, 0, lo - 1, Nat.zero_le _, by rw [wrap64 (by omega) (by omega)]; rfl, rfl, Mem.le_refl _, rfl⟩, ?_⟩
 rintro z' k' m1 q hm1 ⟨k, z, hk, hx, he, _, hq⟩
 simp only [List.cons.injEq, Value.int.injEq, true_and, and_true] at hx
 obtain ⟨rfl, rfl⟩ := hx
 subst hq
 refine br_intro (fun hlt => ?_) (fun hge => ?_)
 ·have hlt' : k < l.length := by have := of_decide_eq_true hlt; omega
  obtain ⟨x, hx⟩ := at_some' hlt'
  obtain ⟨b, o, hab, hrd⟩ := rowI_get (h.mono hm1) hx
  rw [drop_at hx, riseF] at he
  refine ⟨b, o, hab, ⟨by omega, by omega⟩, _, (by rw [Int.toNat_natCast]; exact hrd), !(decide (z' < x) && decide (x ≤ hi)), chk_intro rfl (br_intro (fun h1 => ?_) (fun h1 => chk_intro rfl ?_)), br_intro (fun h2 => ret_pure hm1 ?_) (fun h2 => chk_intro rfl ⟨_, by omega, k + 1, x, hlt', by rw [wrap64 (by omega) (by omega)]; rfl, ?_, hm1, rfl⟩)⟩
  ·have : ¬ z' < x := by have := of_decide_eq_true h1; simp only [intOf] at this; omega
   simp [this]
  ·have h1' : z' < x := by have := of_decide_eq_false h1; simp only [intOf] at this; omega
   simp only [h1', decide_true, Bool.true_and, intOf]
   refine congrArg (fun z => [Value.bool z]) ?_
   rw [Bool.eq_iff_iff]; simp
  ·simp only [Bool.not_eq_true'] at h2
   rw [← he]
   show Value.bool false = _
   congr 1
   rw [← Bool.and_assoc, h2, Bool.false_and]
  ·simp only [Bool.not_eq_false'] at h2
   rw [← he, ← Bool.and_assoc, h2, Bool.true_and]
 ·have : k = l.length := by have := of_decide_eq_false hge; omega
  subst this
  rw [List.drop_length, riseF] at he
  refine ret_pure hm1 ?_
  rw [← he]
theorem all_drop {α : Type} {l : List α} {p : α → Bool} {k : Nat} {x : α} (h : l[k]? = some x) : (l.drop k).all p = (p x && (l.drop (k + 1)).all p) := by
 rw [drop_at h, List.all_cons]
theorem cx_Right {st : Bool} (A : Nf) (v : Value) (m : Mem) (h : NfR st A v m) : CX Try.prog 21 #[v] m [] (Ret (.bool A.right)) := by
 obtain ⟨s, f, x, y, rfl, ⟨sa, sc, rfl, hs, hsl, hsn⟩, ⟨fa, fc, vs, rfl, hf, hfn, hfl, hfv⟩, ⟨xa, xc, rfl, hx, hxl, hxn⟩, ⟨ya, yc, rfl, hy, hyl, hyn⟩⟩ := h
 apply cx_nfa_Right
 unfold VC_nfa_Right
 intro b m1 hm1 _
 have hw : IntKind.i64.wrap ((A.sets.length : Int) - 1) = A.top := wrap64 (by omega) (by omega)
 simp only [hw]
 refine ⟨!(decide (A.sets.length ≤ 400) && (decide (A.fol.length = A.sets.length) && (riseF A.first (-1) A.top && riseF A.last (-1) A.top))), ?_, ?_⟩
 ·refine br_intro (fun h1 => ⟨by trivial, ?_⟩) (fun h1 => br_intro (fun h2 => ⟨by trivial, ?_⟩) (fun h2 => ?_))
  ·have : ¬ A.sets.length ≤ 400 := by have := of_decide_eq_true h1; omega
   simp [this]
  ·have : ¬ A.fol.length = A.sets.length := by
    simp only [Bool.not_eq_true', beq_eq_false_iff_ne, ne_eq] at h2; omega
   simp [this]
  ·have h1' : A.sets.length ≤ 400 := by have := of_decide_eq_false h1; omega
   have h2' : A.fol.length = A.sets.length := by
    simp only [Bool.not_eq_false', beq_iff_eq] at h2; omega
   refine call_bool (cx_rising A.first 0 A.top xa xc m1 (hx.mono hm1) hxl ⟨by omega, by omega⟩) fun m2 hm2 => br_intro (fun h3 => ⟨by trivial, ?_⟩) (fun h3 => ?_)
   ·have : riseF A.first (-1) A.top = false := by simpa using h3
    simp [this]
   ·have h3' : riseF A.first (-1) A.top = true := by simpa using h3
    refine call_bool (cx_rising A.last 0 A.top ya yc m2 ((hy.mono hm1).mono hm2) hyl ⟨by omega, by omega⟩) fun m3 hm3 => ⟨by trivial, ?_⟩
    simp [h1', h2', h3']
 ·refine br_intro (fun h1 => ret_pure hm1 ?_) (fun h1 => ?_)
  ·simp only [Bool.not_eq_true'] at h1
   show Value.bool false = .bool A.right
   congr 1
   unfold Nf.right
   revert h1
   cases decide (A.sets.length ≤ 400) <;> cases decide (A.fol.length = A.sets.length) <;> cases riseF A.first (-1) A.top <;> cases riseF A.last (-1) A.top <;> simp
  ·simp only [Bool.not_eq_false', Bool.and_eq_true, decide_eq_true_eq] at h1
   obtain ⟨h1a, h1b, h1c, h1d⟩ := h1
   have hA : A.right = (A.fol.zip A.sets).all fun p => riseF p.1 (-1) A.top && !(p.2 == zQ) := by
    unfold Nf.right; simp [h1a, h1b, h1c, h1d]
   have hzl : (A.fol.zip A.sets).length = A.fol.length := by simp [h1b]
   refine ⟨fun xs _ _ m' q => ∃ k : Nat, k ≤ A.fol.length ∧ xs = [.int .i64 k] ∧ ((A.fol.zip A.sets).drop k).all (fun p => riseF p.1 (-1) A.top && !(p.2 == zQ)) = A.right ∧ m.le m' ∧ q = A.fol.length - k, ⟨_, 0, Nat.zero_le _, rfl, by rw [hA]; rfl, hm1, rfl⟩, ?_⟩
   rintro z m2 q hm2 ⟨k, hk, hz, he, _, hq⟩
   obtain rfl : z = k := by simpa using hz
   subst hq
   have hm02 := Mem.le_trans hm1 hm2
   refine br_intro (fun hlt => ?_) (fun hge => ?_)
   ·have hlt' : k < A.fol.length := by have := of_decide_eq_true hlt; omega
    obtain ⟨l, hl⟩ := at_some' hlt'
    obtain ⟨q4, hq4⟩ := at_some' (l := A.sets) (k := k) (by omega)
    obtain ⟨u, hu⟩ := at_some' (l := vs) (k := k) (by omega)
    obtain ⟨la, lc, rfl, hlr, hll, hln⟩ := (hfv k u l hu hl).mono hm02
    obtain ⟨fb, fo, hfa, hfrd⟩ := row1_get (hf.mono hm02) hu
    have hzip : (A.fol.zip A.sets)[k]? = some (l, q4) := List.getElem?_zip_eq_some.2 ⟨hl, hq4⟩
    rw [all_drop hzip] at he
    refine ⟨fb, fo, hfa, ⟨by omega, by omega⟩, _, (by rw [Int.toNat_natCast]; exact hfrd), !(riseF l (-1) A.top && !(q4 == zQ)), ?_, br_intro (fun h2 => ret_pure hm02 ?_) (fun h2 => ⟨by trivial, _, by omega, k + 1, hlt', by rw [wrap64 (by omega) (by omega)]; rfl, ?_, hm02, rfl⟩)⟩
    ·refine call_bool (cx_rising l 0 A.top la lc m2 hlr hll ⟨by omega, by omega⟩) fun m3 hm3 => br_intro (fun h3 => ⟨by trivial, ?_⟩) (fun h3 => ?_)
     ·have : riseF l (-1) A.top = false := by simpa using h3
      simp [this]
     ·have h3' : riseF l (-1) A.top = true := by simpa using h3
      obtain ⟨sb, so, hsa, hsrd⟩ := rowQ_get (hs.mono hm02) hq4
      refine ⟨sb, so, hsa, ⟨by omega, by omega⟩, _, _, _, _, (by rw [Int.toNat_natCast]; exact hsrd.mono hm3), _, eq_set _ _ _ _ _ _ _ _, by trivial, ?_⟩
      simp only [h3', Bool.true_and, Bool.not_not]
      refine congrArg (fun z => [Value.bool z]) ?_
      obtain ⟨q0, q1, q2, q3⟩ := q4
      show _ = ((q0, q1, q2, q3) == ((0, 0, 0, 0) : QS))
      rw [Bool.eq_iff_iff]
      simp [and_assoc]
    ·simp only [Bool.not_eq_true'] at h2
     rw [← he, h2]; rfl
    ·simp only [Bool.not_eq_false'] at h2
     rw [← he, h2, Bool.true_and]
   ·have : k = A.fol.length := by have := of_decide_eq_false hge; omega
    subst this
    refine ret_pure hm02 ?_
    rw [← he, ← hzl, List.drop_length]; rfl
theorem drop_eq {α : Type} {l r : List α} {k : Nat} {x y : α} (hx : l[k]? = some x) (hy : r[k]? = some y) : l.drop k = r.drop k ↔ (x = y ∧ l.drop (k + 1) = r.drop (k + 1)) := by
 rw [drop_at hx, drop_at hy, List.cons.injEq]
theorem cx_EqI (l r : List Int) (a b : Option Addr) (c d : Nat) (m : Mem) (hl : rowRd m a (intVs l)) (hr : rowRd m b (intVs r)) (hn : l.length ≤ 1000000) : CX Try.prog 23 #[.slice a l.length c, .slice b r.length d] m [] (Ret (.bool (decide (l = r)))) := by
 apply cx_slices_Equal_int_int
 unfold VC_slices_Equal_int_int
 refine br_intro (fun h => ret_pure (Mem.le_refl _) ?_) (fun h => ?_)
 ·have : ¬ l = r := fun e => by subst e; simp at h
  simp [Ret, this]
 have hlen : l.length = r.length := by
  simp only [Bool.not_eq_false', beq_iff_eq] at h; omega
 refine ⟨fun xs css _ m' q => ∃ k : Nat, k ≤ l.length ∧ xs = [.int .i64 k] ∧ (l.drop k = r.drop k ↔ l = r) ∧ m.le m' ∧ q = l.length - k, ⟨_, 0, by omega, rfl, Iff.rfl, Mem.le_refl _, rfl⟩, ?_⟩
 rintro z m1 q hm1 ⟨k, hk, hz, he, _, hq⟩
 obtain rfl : z = k := by simpa using hz
 subst hq
 refine br_intro (fun hlt => ?_) (fun hge => ?_)
 ·have hlt' : k < l.length := by have := of_decide_eq_true hlt; omega
  obtain ⟨x, hx⟩ := at_some' hlt'
  obtain ⟨y, hy⟩ := at_some' (l := r) (k := k) (by omega)
  obtain ⟨b1, o1, h1, h1'⟩ := rowI_get (hl.mono hm1) hx
  obtain ⟨b2, o2, h2, h2'⟩ := rowI_get (hr.mono hm1) hy
  rw [drop_eq hx hy] at he
  refine ⟨b1, o1, h1, ⟨by omega, by omega⟩, _, (by rw [Int.toNat_natCast]; exact h1'), b2, o2, h2, ⟨by omega, by omega⟩, _, (by rw [Int.toNat_natCast]; exact h2'), chk_intro rfl (br_intro (fun h3 => ret_pure hm1 ?_) (fun h3 => ⟨_, by omega, k + 1, hlt', by rw [wrap64 (by omega) (by omega)]; rfl, ?_, hm1, rfl⟩))⟩
  ·have : ¬ x = y := by simpa [intOf] using h3
   simp only [Ret]; congr 1
   rw [eq_comm, decide_eq_false_iff_not, ← he]; exact fun h => this h.1
  ·have : x = y := by simpa [intOf] using h3
   rw [← he]; simp [this]
 ·have : k = l.length := by have := of_decide_eq_false hge; omega
  subst this
  refine ret_pure hm1 ?_
  simp only [Ret]; congr 1
  rw [eq_comm, decide_eq_true_eq, ← he, List.drop_length, hlen, List.drop_length]
theorem cx_EqQ (l r : List QS) (a b : Option Addr) (c d : Nat) (m : Mem) (hl : rowRd m a (setCs l)) (hr : rowRd m b (setCs r)) (hn : l.length ≤ 1000000) : CX Try.prog 71 #[.slice a l.length c, .slice b r.length d] m [] (Ret (.bool (decide (l = r)))) := by
 apply cx_slices_Equal_sets_Set_sets_Set
 unfold VC_slices_Equal_sets_Set_sets_Set
 refine br_intro (fun h => ret_pure (Mem.le_refl _) ?_) (fun h => ?_)
 ·have : ¬ l = r := fun e => by subst e; simp at h
  simp [Ret, this]
 have hlen : l.length = r.length := by
  simp only [Bool.not_eq_false', beq_iff_eq] at h; omega
 refine ⟨fun xs css _ m' q => ∃ k : Nat, k ≤ l.length ∧ xs = [.int .i64 k] ∧ (l.drop k = r.drop k ↔ l = r) ∧ m.le m' ∧ q = l.length - k, ⟨_, 0, by omega, rfl, Iff.rfl, Mem.le_refl _, rfl⟩, ?_⟩
 rintro z m1 q hm1 ⟨k, hk, hz, he, _, hq⟩
 obtain rfl : z = k := by simpa using hz
 subst hq
 refine br_intro (fun hlt => ?_) (fun hge => ?_)
 ·have hlt' : k < l.length := by have := of_decide_eq_true hlt; omega
  obtain ⟨x, hx⟩ := at_some' hlt'
  obtain ⟨y, hy⟩ := at_some' (l := r) (k := k) (by omega)
  obtain ⟨b1, o1, h1, h1'⟩ := rowQ_get (hl.mono hm1) hx
  obtain ⟨b2, o2, h2, h2'⟩ := rowQ_get (hr.mono hm1) hy
  rw [drop_eq hx hy] at he
  refine ⟨b1, o1, h1, ⟨by omega, by omega⟩, _, _, _, _, (by rw [Int.toNat_natCast]; exact h1'), b2, o2, h2, ⟨by omega, by omega⟩, _, _, _, _, (by rw [Int.toNat_natCast]; exact h2'), _, eq_set _ _ _ _ _ _ _ _, br_intro (fun h3 => ret_pure hm1 ?_) (fun h3 => ⟨_, by omega, k + 1, hlt', by rw [wrap64 (by omega) (by omega)]; rfl, ?_, hm1, rfl⟩)⟩
  ·have : ¬ x = y := fun e => by subst e; simp at h3
   simp only [Ret]; congr 1
   rw [eq_comm, decide_eq_false_iff_not, ← he]; exact fun h => this h.1
  ·have : x = y := by
    obtain ⟨x0, x1, x2, x3⟩ := x
    obtain ⟨y0, y1, y2, y3⟩ := y
    simp at h3 ⊢
    exact ⟨h3.1.1.1, h3.1.1.2, h3.1.2, h3.2⟩
   rw [← he]; simp [this]
 ·have : k = l.length := by have := of_decide_eq_false hge; omega
  subst this
  refine ret_pure hm1 ?_
  simp only [Ret]; congr 1
  rw [eq_comm, decide_eq_true_eq, ← he, List.drop_length, hlen, List.drop_length]
theorem cx_EqF {st st' : Bool} (l r : List (List Int)) (v w : Value) (m : Mem) (hl : FolR st l v m) (hr : FolR st' r w m) : CX Try.prog 72 #[v, w, .func (.func 23) #[] #[]] m [] (Ret (.bool (decide (l = r)))) := by
 obtain ⟨a, c, vs, rfl, h1, h2, h3, h4⟩ := hl
 obtain ⟨b, d, ws, rfl, k1, k2, k3, k4⟩ := hr
 apply cx_slices_EqualFunc_int_int_int_int a l.length c b r.length d _ [] []
 unfold VC_slices_EqualFunc_int_int_int_int
 refine br_intro (fun h => ret_pure (Mem.le_refl _) ?_) (fun h => ?_)
 ·have : ¬ l = r := fun e => by subst e; simp at h
  simp [Ret, this]
 have hlen : l.length = r.length := by
  simp only [Bool.not_eq_false', beq_iff_eq] at h; omega
 refine ⟨fun xs css _ m' q => ∃ k : Nat, k ≤ l.length ∧ xs = [.int .i64 k] ∧ (l.drop k = r.drop k ↔ l = r) ∧ m.le m' ∧ q = l.length - k, ⟨_, 0, by omega, rfl, Iff.rfl, Mem.le_refl _, rfl⟩, ?_⟩
 rintro z m1 q hm1 ⟨k, hk, hz, he, _, hq⟩
 obtain rfl : z = k := by simpa using hz
 subst hq
 refine br_intro (fun hlt => ?_) (fun hge => ?_)
 ·have hlt' : k < l.length := by have := of_decide_eq_true hlt; omega
  obtain ⟨x, hx⟩ := at_some' hlt'
  obtain ⟨y, hy⟩ := at_some' (l := r) (k := k) (by omega)
  obtain ⟨vx, hvx⟩ := at_some' (l := vs) (k := k) (by omega)
  obtain ⟨wy, hwy⟩ := at_some' (l := ws) (k := k) (by omega)
  obtain ⟨xa, xc, rfl, hxr, hxl, hxn⟩ := (h4 k vx x hvx hx).mono hm1
  obtain ⟨ya, yc, rfl, hyr, hyl, hyn⟩ := (k4 k wy y hwy hy).mono hm1
  obtain ⟨b1, o1, e1, e1'⟩ := row1_get (h1.mono hm1) hvx
  obtain ⟨b2, o2, e2, e2'⟩ := row1_get (k1.mono hm1) hwy
  rw [drop_eq hx hy] at he
  refine ⟨b1, o1, e1, ⟨by omega, by omega⟩, _, (by rw [Int.toNat_natCast]; exact e1'), b2, o2, e2, ⟨by omega, by omega⟩, _, (by rw [Int.toNat_natCast]; exact e2'), ?_⟩
  refine call_bool (cx_EqI x y xa ya xc yc m1 hxr hyr hxl) fun m2 hm2 => br_intro (fun h3 => ret_pure (Mem.le_trans hm1 hm2) ?_) (fun h3 => ⟨_, by omega, k + 1, hlt', by rw [wrap64 (by omega) (by omega)]; rfl, ?_, Mem.le_trans hm1 hm2, rfl⟩)
  ·have : ¬ x = y := by simpa using h3
   simp only [Ret]; congr 1
   rw [eq_comm, decide_eq_false_iff_not, ← he]; exact fun h => this h.1
  ·have : x = y := by simpa using h3
   rw [← he]; simp [this]
 ·have : k = l.length := by have := of_decide_eq_false hge; omega
  subst this
  refine ret_pure hm1 ?_
  simp only [Ret]; congr 1
  rw [eq_comm, decide_eq_true_eq, ← he, List.drop_length, hlen, List.drop_length]
theorem cx_SameN {st st' : Bool} (A B : Nf) (v w : Value) (m : Mem) (h : NfR st A v m) (k : NfR st' B w m) : CX Try.prog 22 #[v, w] m [] (Ret (.bool (decide (A = B)))) := by
 obtain ⟨s, f, x, y, rfl, ⟨sa, sc, rfl, hs, hsl, hsn⟩, hf, ⟨xa, xc, rfl, hx, hxl, hxn⟩, ⟨ya, yc, rfl, hy, hyl, hyn⟩⟩ := h
 obtain ⟨s', f', x', y', rfl, ⟨sa', sc', rfl, hs', hsl', hsn'⟩, hf', ⟨xa', xc', rfl, hx', hxl', hxn'⟩, ⟨ya', yc', rfl, hy', hyl', hyn'⟩⟩ := k
 obtain ⟨fa, fc, vs, rfl, hf0⟩ := id hf
 obtain ⟨fa', fc', vs', rfl, hf0'⟩ := id hf'
 apply cx_nfa_Same
 unfold VC_nfa_Same
 intro b m1 hm1 _ b1 m2 hm2 _
 have h02 := Mem.le_trans hm1 hm2
 obtain ⟨As, Af, A1, A2, Ae⟩ := A
 obtain ⟨Bs, Bf, B1, B2, Be⟩ := B
 refine ⟨decide ((⟨As, Af, A1, A2, Ae⟩ : Nf) = ⟨Bs, Bf, B1, B2, Be⟩), ?_, ret_pure h02 rfl⟩
 refine call_bool (cx_EqQ As Bs _ _ _ _ m2 (hs.mono h02) (hs'.mono h02) hsl) fun m3 hm3 => ?_
 have h03 := Mem.le_trans h02 hm3
 refine br_intro (fun e1 => ?_) (fun e1 => ⟨by trivial, by simp [show ¬ As = Bs by simpa using e1]⟩)
 refine call_bool (cx_EqF Af Bf _ _ m3 (hf.mono h03) (hf'.mono h03)) fun m4 hm4 => ?_
 have h04 := Mem.le_trans h03 hm4
 refine br_intro (fun e2 => ?_) (fun e2 => ⟨by trivial, by simp [show ¬ Af = Bf by simpa using e2]⟩)
 refine call_bool (cx_EqI A1 B1 _ _ _ _ m4 (hx.mono h04) (hx'.mono h04) hxl) fun m5 hm5 => ?_
 have h05 := Mem.le_trans h04 hm5
 refine br_intro (fun e3 => ?_) (fun e3 => ⟨by trivial, by simp [show ¬ A1 = B1 by simpa using e3]⟩)
 refine call_bool (cx_EqI A2 B2 _ _ _ _ m5 (hy.mono h05) (hy'.mono h05) hyl) fun m6 hm6 => ?_
 refine br_intro (fun e4 => ⟨by trivial, ?_⟩) (fun e4 => ⟨by trivial, by simp [show ¬ A2 = B2 by simpa using e4]⟩)
 refine congrArg (fun z => [Value.bool z]) ?_
 rw [Bool.eq_iff_iff]
 simp [of_decide_eq_true e1, of_decide_eq_true e2, of_decide_eq_true e3, of_decide_eq_true e4]
theorem rowRd_none {m : Mem} {a : Option Addr} {xs : List Value} (h : rowRd m a xs) (ha : a.isNone = true) : xs = [] := by
 rcases h with h | ⟨b, o, h1, _⟩
 ·exact h
 ·rw [h1] at ha; simp at ha
theorem cxt_CloneI {st : Bool} (l : List Int) (v : Value) (m : Mem) (h : SlI st l v m) : CXT Try.prog 44 #[v] m 1 (fun v m' _ => SlI st l v m') := by
 obtain ⟨a, c, rfl, h1, h2, hn0⟩ := h
 apply cxt_slices_Clone_int_int
 unfold VC_slices_Clone_int_int
 refine br_intro (fun hn => ?_) (fun hn => ⟨⟨rfl, Int.le_refl _, by decide, by decide⟩, fun b hb => ⟨.inl rfl, [], intVs l, rfl, by rw [intVs_len]; omega, .inl rfl, h1, fun u hu => ?_, by omega, by omega, fun a' c' m' hm' hr _ => ⟨rfl, a', c', by rw [Nat.zero_add], hr, h2, fun e1 e2 => ?_⟩⟩⟩)
 ·have := rowRd_none h1 hn
  obtain rfl : l = [] := by simpa [intVs] using this
  exact ⟨rfl, none, 0, rfl, .inl rfl, by simp, fun _ _ => rfl⟩
 ·obtain ⟨i, _, rfl⟩ := List.mem_map.1 hu
  rfl
 ·rw [hn0 e1 e2] at hn; simp at hn
theorem cx_CloneI {st : Bool} (l : List Int) (v : Value) (m : Mem) (h : SlI st l v m) : CX Try.prog 44 #[v] m [] (fun v m' _ => SlI st l v m') := (cxt_CloneI l v m h).toCX
theorem cx_CloneQ (l : List QS) (v : Value) (m : Mem) (h : SlQ true l v m) : CX Try.prog 77 #[v] m [] (fun v m' _ => SlQ true l v m') := by
 obtain ⟨a, c, rfl, h1, h2, hn0⟩ := h
 apply cx_slices_Clone_sets_Set_sets_Set
 unfold VC_slices_Clone_sets_Set_sets_Set
 refine br_intro (fun hn => ?_) (fun hn => fun b hb => ?_)
 ·have := congrArg List.length (rowRd_none h1 hn)
  rw [setCs_len] at this
  obtain rfl : l = [] := List.eq_nil_of_length_eq_zero (by simp at this; omega)
  exact ⟨_, Mem.le_refl _, Mem.le_refl _, none, 0, rfl, .inl rfl, by simp, fun _ _ => rfl⟩
 ·have hl0 : l.length ≠ 0 := fun e => by
   rw [hn0 rfl (List.eq_nil_of_length_eq_zero e)] at hn; simp at hn
  refine ⟨.inr (by omega), [], setCs l, rfl, by rw [setCs_len], .inl rfl, h1.mono (Mem.le_add hb _), fun u hu => ?_, by omega, by omega, fun a' c' m' hm' hr => ⟨m', Mem.le_trans (Mem.le_add hb _) hm', Mem.le_refl _, a', c', by rw [Nat.zero_add], hr, h2, fun _ e => by subst e; simp at hl0⟩⟩
  obtain ⟨q, _, hq⟩ := List.mem_flatMap.1 hu
  simp only [List.mem_cons, List.not_mem_nil, or_false] at hq
  rcases hq with rfl | rfl | rfl | rfl <;> rfl
theorem sli_fits {st : Bool} {l : List Int} : ∀ (v : Value) (m' : Mem) (css : List (List Value)), SlI st l v m' → Shape.fits .slice v = true := by
 rintro v m' css ⟨a, c, rfl, _⟩; rfl
theorem slq_fits {st : Bool} {l : List QS} : ∀ (v : Value) (m' : Mem) (css : List (List Value)), SlQ st l v m' → Shape.fits .slice v = true := by
 rintro v m' css ⟨a, c, rfl, _⟩; rfl
def FolG (m : Mem) (a : Option Addr) (fol : List (List Int)) : Prop := ∃ vs, rowRd m a vs ∧ vs.length = fol.length ∧ ∀ (i : Nat) (v : Value) (l : List Int), vs[i]? = some v → fol[i]? = some l → SlI true l v m
theorem FolG.mono {m m' : Mem} {a : Option Addr} {fol : List (List Int)} (h : FolG m a fol) (k : m.le m') : FolG m' a fol := by
 obtain ⟨vs, h1, h2, h3⟩ := h
 exact ⟨vs, h1.mono k, h2, fun i v l hv hl => (h3 i v l hv hl).mono k⟩
theorem row_one {m : Mem} {b : Nat} {v : Value} : rowRd (m.add b [v]) (some ⟨b, 0, none⟩) [v] := .inr ⟨b, 0, rfl, fun j u hj => by rw [Nat.zero_add, Mem.add_same]; exact hj⟩
theorem folG_snoc {m m2 M : Mem} {a' : Option Addr} {fol : List (List Int)} {l : List Int} {w : Value} {vs : List Value} (h2 : vs.length = fol.length) (h3 : ∀ (i : Nat) (v : Value) (l : List Int), vs[i]? = some v → fol[i]? = some l → SlI true l v m) (hm : m.le M) (hr : rowRd m2 a' (vs ++ [w])) (hm2 : m2.le M) (hw : SlI true l w M) : FolG M a' (fol ++ [l]) := by
 refine ⟨vs ++ [w], hr.mono hm2, by simp [h2], fun i v l' hv hl' => ?_⟩
 rw [List.getElem?_append] at hv hl'
 split at hv
 ·rw [if_pos (by omega)] at hl'
  exact (h3 i v l' hv hl').mono hm
 ·rw [if_neg (by omega)] at hl'
  have e1 := List.getElem?_eq_some_iff.1 hv
  have e2 := List.getElem?_eq_some_iff.1 hl'
  obtain ⟨_, e1⟩ := e1
  obtain ⟨_, e2⟩ := e2
  rw [List.getElem_singleton] at e1 e2
  subst e1 e2; exact hw
theorem cx_CopyN (A : Nf) (v : Value) (m : Mem) (h : NfR true A v m) (hN : A.fol.length ≤ 1000) : CX Try.prog 26 #[v] m [] (fun v m' _ => NfR true A v m') := by
 obtain ⟨s, f, x, y, rfl, ⟨sa, sc, rfl, hs, hsl, hsn⟩, ⟨fa, fc, vs, rfl, hf, hfn, hfl, hfv⟩, ⟨xa, xc, rfl, hx, hxl, hxn⟩, ⟨ya, yc, rfl, hy, hyl, hyn⟩⟩ := h
 apply cx_nfa_Copy
 unfold VC_nfa_Copy
 intro b0 m1 hm1 _ b1
 refine ⟨fun i _ _ => if i = 2 then (fun v m' _ => SlQ true A.sets v m') else if i = 5 then (fun v m' _ => SlI true A.first v m') else (fun v m' _ => SlI true A.last v m'), ?_⟩
 refine ⟨_, rfl, cx_CloneQ A.sets _ m1 ⟨sa, sc, rfl, hs.mono hm1, hsl, hsn⟩, slq_fits, fun a2 n2 c2 m2 hm2 hR2 => ?_⟩
 refine ⟨_, rfl, cx_CloneI A.first _ m2 ⟨xa, xc, rfl, (hx.mono hm1).mono hm2, hxl, hxn⟩, sli_fits, fun a3 n3 c3 m3 hm3 hR3 => ?_⟩
 refine ⟨_, rfl, cx_CloneI A.last _ m3 ⟨ya, yc, rfl, ((hy.mono hm1).mono hm2).mono hm3, hyl, hyn⟩, sli_fits, fun a4 n4 c4 m4 hm4 hR4 => ?_⟩
 intro b2 M _ hM2 hM3 hM4
 have hm0M : m.le M := Mem.le_trans hm1 (Mem.le_trans hm2 hM2)
 have hs2 : SlQ true A.sets (.slice a2 n2 c2) M := (show SlQ true A.sets _ m2 from hR2).mono hM2
 have hs3 : SlI true A.first (.slice a3 n3 c3) M := (show SlI true A.first _ m3 from hR3).mono hM3
 have hs4 : SlI true A.last (.slice a4 n4 c4) M := (show SlI true A.last _ m4 from hR4).mono hM4
 refine ⟨fun xs css tvs m' q => ∃ (k : Nat) (a : Option Addr) (c : Nat), k ≤ A.fol.length ∧ xs = [.int .i64 k] ∧ css = [[.slice a2 n2 c2, .slice a k c, .slice a3 n3 c3, .slice a4 n4 c4, .bool A.empty]] ∧ tvs = [.slice a k c] ∧ M.le m' ∧ FolG m' a (A.fol.take k) ∧ q = A.fol.length - k, ⟨_, 0, none, 0, Nat.zero_le _, rfl, rfl, rfl, Mem.le_refl _, ⟨[], .inl rfl, rfl, fun i v l hv => by simp at hv⟩, rfl⟩, ?_⟩
 rintro z cs a n c m5 q hm5 ⟨k, a', c', hk, hz, hcs, htv, _, hG, hq⟩
 obtain rfl : z = k := by simpa using hz
 obtain rfl : cs = _ := by simpa using hcs
 simp only [List.cons.injEq, Value.slice.injEq, and_true] at htv
 obtain ⟨rfl, rfl, rfl⟩ := htv
 subst hq
 refine br_intro (fun hlt => ?_) (fun hge => ?_)
 ·have hlt' : n < A.fol.length := by have := of_decide_eq_true hlt; omega
  obtain ⟨l, hl⟩ := at_some' hlt'
  obtain ⟨u, hu⟩ := at_some' (l := vs) (k := n) (by omega)
  have hum := hfv n u l hu hl
  obtain ⟨fb, fo, hfa, hfrd⟩ := row1_get (hf.mono (Mem.le_trans hm0M hm5)) hu
  refine ⟨fb, fo, hfa, ⟨by omega, by omega⟩, _, (by rw [Int.toNat_natCast]; exact hfrd), fun _ _ _ => (fun v m' _ => SlI true l v m'), look_intro (v := .slice a n c) rfl ⟨_, rfl, cx_CloneI l u m5 (hum.mono (Mem.le_trans hm0M hm5)), sli_fits, fun a6 n6 c6 m6 hm6 hR6 b4 hb4 => chk_intro rfl ?_⟩⟩
  obtain ⟨ws, hw1, hw2, hw3⟩ := hG
  have htl : (A.fol.take n).length = n := by rw [List.length_take]; omega
  have hle4 := Mem.le_add hb4 [Value.slice a6 n6 c6]
  refine ⟨.inl rfl, ws, [.slice a6 n6 c6], by rw [hw2, htl]; simp [slN], rfl, (hw1.mono hm6).mono hle4, row_one, by simp [Value.oneCell'], by show (n + 1) * 24 ≤ _; omega, by show n + 1 ≤ _; omega, fun a7 c7 m7 hm7 hr7 => chk_intro rfl fun M2 hK1 hK2 hK3 hK4 => ⟨rfl, _, by omega, n + 1, a7, c7, hlt', by rw [wrap64 (by omega) (by omega)]; rfl, rfl, rfl, Mem.le_trans hm5 hK1, ?_, rfl⟩⟩
  have e : A.fol.take (n + 1) = A.fol.take n ++ [l] := by rw [List.take_add_one, hl]; rfl
  rw [e]
  exact folG_snoc hw2 hw3 hK1 hr7 hK4 ((show SlI true l _ m6 from hR6).mono hK2)
 ·have : n = A.fol.length := by have := of_decide_eq_false hge; omega
  subst this
  rw [List.take_length] at hG
  obtain ⟨ws, hw1, hw2, hw3⟩ := hG
  refine chk_intro rfl ⟨_, Mem.le_trans hm0M hm5, Mem.le_refl _, _, _, _, _, rfl, hs2.mono hm5, ⟨a, c, ws, rfl, hw1, hw2, by omega, hw3⟩, hs3.mono hm5, hs4.mono hm5⟩
end Go.Proofs.Ytplacemlpkhmfaa

