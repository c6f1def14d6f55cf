/- Trees of regexes, what they mean, and how they lie in memory; plain, no program is named. No condition. -/
import Derived.Test.YtplacemlpkhmfaaMc
set_option linter.unusedVariables false
set_option linter.unusedSimpArgs false
namespace Go.Rx
open Go Go.Eng
inductive T where
 | node (k s0 s1 s2 s3 mn mx : Int) (a : Option Addr) (c : Nat) (subs : List T)
def T.k : T → Int
 | .node k _ _ _ _ _ _ _ _ _ => k
def T.s0 : T → Int
 | .node _ s _ _ _ _ _ _ _ _ => s
def T.s1 : T → Int
 | .node _ _ s _ _ _ _ _ _ _ => s
def T.s2 : T → Int
 | .node _ _ _ s _ _ _ _ _ _ => s
def T.s3 : T → Int
 | .node _ _ _ _ s _ _ _ _ _ => s
def T.mn : T → Int
 | .node _ _ _ _ _ x _ _ _ _ => x
def T.mx : T → Int
 | .node _ _ _ _ _ _ x _ _ _ => x
def T.a : T → Option Addr
 | .node _ _ _ _ _ _ _ a _ _ => a
def T.c : T → Nat
 | .node _ _ _ _ _ _ _ _ c _ => c
def T.subs : T → List T
 | .node _ _ _ _ _ _ _ _ _ l => l
def T.sl (t : T) : Value := .slice t.a t.subs.length t.c
def T.cs (t : T) : List Value := [.int .u8 t.k, .int .u64 t.s0, .int .u64 t.s1, .int .u64 t.s2, .int .u64 t.s3, .int .i64 t.mn, .int .i64 t.mx, t.sl]
def T.v (t : T) : Value := .agg #[.int .u8 t.k, .int .u64 t.s0, .int .u64 t.s1, .int .u64 t.s2, .int .u64 t.s3, .int .i64 t.mn, .int .i64 t.mx, .slice t.a t.subs.length t.c]
structure OkN (k s0 s1 s2 s3 mn mx : Int) : Prop where
 k : 0 ≤ k ∧ k < 256
 s0 : 0 ≤ s0 ∧ s0 < 18446744073709551616
 s1 : 0 ≤ s1 ∧ s1 < 18446744073709551616
 s2 : 0 ≤ s2 ∧ s2 < 18446744073709551616
 s3 : 0 ≤ s3 ∧ s3 < 18446744073709551616
 mn : -9223372036854775808 ≤ mn ∧ mn ≤ 9223372036854775807
 mx : -9223372036854775808 ≤ mx ∧ mx ≤ 9223372036854775807
mutual
def Rep (m : Mem) : T → Prop
 | .node k s0 s1 s2 s3 mn mx a _ l => l.length ≤ 1000000000000000 ∧ (l = [] ∨ ∃ b o, a = some ⟨b, o, none⟩ ∧ RepAt m b o l) ∧ OkN k s0 s1 s2 s3 mn mx
def RepAt (m : Mem) (b : Nat) : Nat → List T → Prop
 | _, [] => True
 | o, t :: l => m.reads b o t.cs ∧ Rep m t ∧ RepAt m b (o + 8) l
end
theorem Rep_iff {m : Mem} {t : T} : Rep m t → (t.subs.length ≤ 1000000000000000 ∧ (t.subs = [] ∨ ∃ b o, t.a = some ⟨b, o, none⟩ ∧ RepAt m b o t.subs)) := by
 cases t; simp only [Rep, T.subs, T.a]; exact fun h => ⟨h.1, h.2.1⟩
theorem Rep_ok {m : Mem} {t : T} : Rep m t → OkN t.k t.s0 t.s1 t.s2 t.s3 t.mn t.mx := by
 cases t; simp only [Rep]; exact fun h => h.2.2
mutual
theorem Rep.mono {m m' : Mem} (h : m.le m') : ∀ t : T, Rep m t → Rep m' t
 | .node _ _ _ _ _ _ _ a _ l, hr => by
  simp only [Rep] at *
  refine ⟨hr.1, ?_, hr.2.2⟩
  rcases hr.2.1 with hr | ⟨b, o, h1, h2⟩
  ·exact .inl hr
  ·exact .inr ⟨b, o, h1, RepAt.mono h b o l h2⟩
theorem RepAt.mono {m m' : Mem} (h : m.le m') (b : Nat) : ∀ (o : Nat) (l : List T), RepAt m b o l → RepAt m' b o l
 | _, [], _ => by simp only [RepAt]
 | o, t :: l, hr => by
  simp only [RepAt] at *
  exact ⟨hr.1.mono h, Rep.mono h t hr.2.1, RepAt.mono h b (o + 8) l hr.2.2⟩
end
theorem RepAt.get {m : Mem} {b : Nat} : ∀ {o : Nat} {l : List T} {i : Nat} {t : T}, RepAt m b o l → l[i]? = some t → m.reads b (o + i * 8) t.cs ∧ Rep m t
 | o, [], i, t, _, hi => by simp at hi
 | o, x :: l, 0, t, h, hi => by
  simp only [RepAt] at h
  simp at hi; subst hi
  exact ⟨by simpa using h.1, h.2.1⟩
 | o, x :: l, i + 1, t, h, hi => by
  simp only [RepAt] at h
  have := h.2.2.get (i := i) (by simpa using hi)
  rw [show o + (i + 1) * 8 = o + 8 + i * 8 by omega]
  exact this
mutual
def T.nodes : T → List T
 | .node k s0 s1 s2 s3 mn mx a c l => .node k s0 s1 s2 s3 mn mx a c l :: nodesL l
def nodesL : List T → List T
 | [] => []
 | t :: l => t.nodes ++ nodesL l
end
theorem nodes_eq (t : T) : t.nodes = t :: nodesL t.subs := by cases t; simp only [T.nodes, T.subs]
theorem nodesL_append (l r : List T) : nodesL (l ++ r) = nodesL l ++ nodesL r := by
 induction l with
 | nil => simp [nodesL]
 | cons t l ih => simp [nodesL, ih, List.append_assoc]
theorem nodesL_take {l : List T} {i : Nat} {t : T} (h : l[i]? = some t) : nodesL (l.take (i + 1)) = nodesL (l.take i) ++ t.nodes := by
 have : l.take (i + 1) = l.take i ++ [t] := by
  rw [List.take_add_one, h]; rfl
 rw [this, nodesL_append]; simp [nodesL]
theorem nodesL_split {l : List T} {i : Nat} {t : T} (h : l[i]? = some t) : nodesL l = nodesL (l.take i) ++ (t.nodes ++ nodesL (l.drop (i + 1))) := by
 have hlt := (List.getElem?_eq_some_iff.1 h).1
 have e : l = l.take i ++ (t :: l.drop (i + 1)) := by
  have := List.drop_eq_getElem_cons hlt
  rw [(List.getElem?_eq_some_iff.1 h).2] at this
  rw [← this, List.take_append_drop]
 conv => lhs; rw [e, nodesL_append]
 simp [nodesL]
theorem nodes_at {t x z : T} {i q : Nat} (hx : t.subs[i]? = some x) (hz : x.nodes[q]? = some z) : t.nodes[1 + (nodesL (t.subs.take i)).length + q]? = some z := by
 have hq := (List.getElem?_eq_some_iff.1 hz).1
 rw [nodes_eq, show 1 + (nodesL (t.subs.take i)).length + q = ((nodesL (t.subs.take i)).length + q) + 1 by omega, List.getElem?_cons_succ, nodesL_split hx, List.getElem?_append_right (by omega), List.getElem?_append_left (by omega), show (nodesL (List.take i t.subs)).length + q - (nodesL (List.take i t.subs)).length = q by omega]
 exact hz
theorem sub_lt {t x : T} (h : x ∈ t.subs) : SizeOf.sizeOf x < SizeOf.sizeOf t := by
 cases t with
 | node k s0 s1 s2 s3 mn mx a c l =>
  have h' : x ∈ l := h
  have := List.sizeOf_lt_of_mem h'
  simp only [T.node.sizeOf_spec]
  omega
theorem fits_v (t : T) : Shape.fitsL [.agg [.int .u8, .int .u64, .int .u64, .int .u64, .int .u64, .int .i64, .int .i64, .slice]] [t.v] = true := by
 simp [Shape.fitsL, Shape.fits, T.v]
mutual
theorem rep_node {m : Mem} : ∀ (t : T), Rep m t → ∀ x ∈ t.nodes, Rep m x
 | .node k s0 s1 s2 s3 mn mx a c l, hr, x, hx => by
  simp only [T.nodes, List.mem_cons] at hx
  rcases hx with rfl | hx
  ·exact hr
  ·simp only [Rep] at hr
   rcases hr.2.1 with h | ⟨b, o, _, h⟩
   ·subst h; simp [nodesL] at hx
   ·exact rep_nodeL b o l h x hx
theorem rep_nodeL {m : Mem} (b : Nat) : ∀ (o : Nat) (l : List T), RepAt m b o l → ∀ x ∈ nodesL l, Rep m x
 | _, [], _, x, hx => by simp [nodesL] at hx
 | o, t :: l, hr, x, hx => by
  simp only [RepAt] at hr
  simp only [nodesL, List.mem_append] at hx
  rcases hx with hx | hx
  ·exact rep_node t hr.2.1 x hx
  ·exact rep_nodeL b (o + 8) l hr.2.2 x hx
end
theorem rep_nodes {m : Mem} {t x : T} (h : Rep m t) (hx : x ∈ t.nodes) : Rep m x := rep_node t h x hx
def bounds (least most : Int) : Bool := !(decide (least < 0) || decide (least > 16) || (least == 1 && most == 1)) && (most == -1 || (decide (most ≥ 1) && decide (most ≤ 16) && decide (most ≥ least)))
def T.has (t : T) (k : Int) : Bool := t.subs.any fun x => x.k == k
def T.light (t : T) : Bool := decide (t.nodes.length ≤ 10000)
def T.setZ (t : T) : Bool := t.s0 == 0 && t.s1 == 0 && t.s2 == 0 && t.s3 == 0
def T.right (t : T) : Bool :=
 !(t.k != 2 && !t.setZ || (t.k != 5 && (t.mn != 0 || t.mx != 0) || (decide (t.k < 3) && decide (0 < t.subs.length)))) &&
 (if t.k = 1 then true else if t.k = 2 then !t.setZ else if t.k = 3 then decide (1 < t.subs.length) && (!t.has 1 && !t.has 3) else if t.k = 4 then decide (1 < t.subs.length) && !t.has 4
  else if t.k = 5 then t.subs.length == 1 && (bounds t.mn t.mx && !t.has 1) else t.k == 6 && t.subs.length == 1)
def T.clean (t : T) : Bool := t.light && t.nodes.all T.right
def T.size (t : T) : Int := if t.light then t.nodes.length else 10001
def T.groups (t : T) : Int := if t.light then (t.nodes.countP fun x => x.k == 6 : Nat) else 10001
def imax (x y : Int) : Int := if y > x then y else x
def imin (x y : Int) : Int := if y < x then y else x
def posR (k mn mx sum : Int) : Int := imin (if k = 5 then sum * imin (if mx = -1 then imax (imax mn 0) 1 else imax (imax mn 0) mx) 10001 else sum) 10001
mutual
def T.pos : T → Int
 | .node k _ _ _ _ mn mx _ _ l => posR k mn mx ((if k = 2 then 1 else 0) + posL l)
def posL : List T → Int
 | [] => 0
 | t :: l => t.pos + posL l
end
def T.positions (t : T) : Int := if t.light then t.pos else 10001
def T.check (t : T) : Int := if t.clean = false then 80 else if t.size > 120 then 81 else if t.positions > 400 then 82 else if t.groups > 9 then 83 else 0
mutual
def T.same : T → T → Bool
 | .node k s0 s1 s2 s3 mn mx _ _ l, .node k' s0' s1' s2' s3' mn' mx' _ _ l' => k == k' && ((s0 == s0' && s1 == s1' && s2 == s2' && s3 == s3') && (mn == mn' && (mx == mx' && sameL l l')))
def sameL : List T → List T → Bool
 | [], [] => true
 | t :: l, t' :: l' => t.same t' && sameL l l'
 | _, _ => false
end
theorem same_eq (t u : T) : t.same u = (t.k == u.k && ((t.s0 == u.s0 && t.s1 == u.s1 && t.s2 == u.s2 && t.s3 == u.s3) && (t.mn == u.mn && (t.mx == u.mx && sameL t.subs u.subs)))) := by
 cases t; cases u; simp only [T.same, T.k, T.s0, T.s1, T.s2, T.s3, T.mn, T.mx, T.subs]
theorem sameL_len : ∀ {l r : List T}, ¬ l.length = r.length → sameL l r = false
 | [], [], h => by simp at h
 | [], _ :: _, _ => by simp [sameL]
 | _ :: _, [], _ => by simp [sameL]
 | x :: l, y :: r, h => by
  simp only [sameL, sameL_len (l := l) (r := r) (by simpa using h), Bool.and_false]
theorem sameL_at : ∀ {l r : List T} {i : Nat} {x y : T}, l[i]? = some x → r[i]? = some y → x.same y = false → sameL l r = false
 | [], r, i, x, y, h, _, _ => by simp at h
 | _ :: _, [], i, x, y, _, h, _ => by simp at h
 | a :: l, b :: r, 0, x, y, h, k, e => by
  simp at h k; subst h k
  simp [sameL, e]
 | a :: l, b :: r, i + 1, x, y, h, k, e => by
  simp only [sameL, sameL_at (l := l) (r := r) (i := i) (by simpa using h) (by simpa using k) e, Bool.and_false]
theorem sameL_take : ∀ {l r : List T} {i : Nat} {x y : T}, l[i]? = some x → r[i]? = some y → sameL (l.take i) (r.take i) = true → x.same y = true → True → sameL (l.take (i + 1)) (r.take (i + 1)) = true
 | [], r, i, x, y, h, _, _, _, _ => by simp at h
 | _ :: _, [], i, x, y, _, h, _, _, _ => by simp at h
 | a :: l, b :: r, 0, x, y, h, k, _, e, _ => by
  simp at h k; subst h k
  simp [sameL, e]
 | a :: l, b :: r, i + 1, x, y, h, k, hs, e, _ => by
  simp only [List.take_succ_cons, sameL, Bool.and_eq_true] at hs ⊢
  exact ⟨hs.1, sameL_take (by simpa using h) (by simpa using k) hs.2 e trivial⟩
theorem pos_eq (t : T) : t.pos = posR t.k t.mn t.mx ((if t.k = 2 then 1 else 0) + posL t.subs) := by
 cases t; simp only [T.pos, T.k, T.mn, T.mx, T.subs]; congr 1
theorem posL_append (l r : List T) : posL (l ++ r) = posL l + posL r := by
 induction l with
 | nil => simp [posL]
 | cons t l ih => simp [posL, ih, Int.add_assoc]
theorem posL_take {l : List T} {i : Nat} {t : T} (h : l[i]? = some t) : posL (l.take (i + 1)) = posL (l.take i) + t.pos := by
 have : l.take (i + 1) = l.take i ++ [t] := by
  rw [List.take_add_one, h]; rfl
 rw [this, posL_append]; simp [posL]
theorem imax_le (x y : Int) : x ≤ imax x y ∧ y ≤ imax x y := by unfold imax; split <;> omega
theorem imin_le (x y : Int) : imin x y ≤ x ∧ imin x y ≤ y := by unfold imin; split <;> omega
theorem imin_nn {x y : Int} (h : 0 ≤ x) (k : 0 ≤ y) : 0 ≤ imin x y := by unfold imin; split <;> omega
def posF (mn mx : Int) : Int := imin (if mx = -1 then imax (imax mn 0) 1 else imax (imax mn 0) mx) 10001
theorem posF_bd (mn mx : Int) : 0 ≤ posF mn mx ∧ posF mn mx ≤ 10001 := by
 unfold posF
 refine ⟨imin_nn ?_ (by omega), (imin_le _ _).2⟩
 have h1 := imax_le mn 0
 split
 ·have := imax_le (imax mn 0) 1; omega
 ·have := imax_le (imax mn 0) mx; omega
theorem posR_bd {k mn mx sum : Int} (h : 0 ≤ sum) : 0 ≤ posR k mn mx sum ∧ posR k mn mx sum ≤ 10001 := by
 have h2 := Int.mul_nonneg h (posF_bd mn mx).1
 unfold posR
 refine ⟨imin_nn ?_ (by omega), (imin_le _ _).2⟩
 split
 ·exact h2
 ·exact h
mutual
theorem pos_bd : ∀ t : T, 0 ≤ t.pos ∧ t.pos ≤ 10001
 | .node k _ _ _ _ mn mx _ _ l => by
  simp only [T.pos]
  have := posL_nn l
  exact posR_bd (by split <;> omega)
theorem posL_nn : ∀ l : List T, 0 ≤ posL l
 | [] => by simp [posL]
 | t :: l => by
  simp only [posL]
  have := pos_bd t
  have := posL_nn l
  omega
end
theorem posL_le : ∀ l : List T, posL l ≤ 10001 * l.length
 | [] => by simp [posL]
 | t :: l => by
  simp only [posL, List.length_cons]
  have := pos_bd t
  have := posL_le l
  omega
theorem subs_le (t : T) : t.subs.length < t.nodes.length := by
 rw [nodes_eq, List.length_cons]
 have : ∀ l : List T, l.length ≤ (nodesL l).length := by
  intro l
  induction l with
  | nil => simp [nodesL]
  | cons x l ih => simp only [nodesL, List.length_cons, List.length_append]; rw [nodes_eq]; simp; omega
 have := this t.subs
 omega
theorem sub_nodes {t x : T} (h : x ∈ t.subs) : x.nodes.length < t.nodes.length := by
 obtain ⟨i, hi⟩ := List.getElem?_of_mem h
 rw [nodes_eq t, List.length_cons, nodesL_split hi]
 simp; omega
def T.hasB (t : T) (c : Nat) : Bool := ((if c / 64 = 0 then t.s0 else if c / 64 = 1 then t.s1 else if c / 64 = 2 then t.s2 else t.s3).toNat).testBit (c % 64)
end Go.Rx
namespace Go.Rx
open Go Go.Eng Go.RowKit
def wdN (f j : Nat) : Nat := (f >>> (64 * j)) % 2 ^ 64
theorem wdN_lt (f j : Nat) : wdN f j < 18446744073709551616 := by
 unfold wdN
 exact Nat.mod_lt _ (by decide)
theorem wdN_bit (f j k : Nat) : (wdN f j).testBit k = (decide (k < 64) && f.testBit (64 * j + k)) := by
 unfold wdN
 rw [Nat.testBit_mod_two_pow, Nat.testBit_shiftRight]
theorem wdN_or (f g j : Nat) : wdN (f ||| g) j = wdN f j ||| wdN g j := by
 apply Nat.eq_of_testBit_eq
 intro k
 simp only [wdN_bit, Nat.testBit_or]
 cases decide (k < 64) <;> simp
theorem wdN_pow {q r j : Nat} (hr : r < 64) : wdN (2 ^ (64 * q + r)) j = if j = q then 2 ^ r else 0 := by
 apply Nat.eq_of_testBit_eq
 intro k
 rw [wdN_bit, Nat.testBit_two_pow]
 by_cases hj : j = q
 ·subst hj
  rw [if_pos rfl, Nat.testBit_two_pow]
  by_cases hk : k < 64
  ·simp [hk]
  ·have : ¬ r = k := by omega
   simp [hk, this]
 ·rw [if_neg hj]
  simp only [Nat.zero_testBit, Bool.and_eq_false_iff, decide_eq_false_iff_not]
  omega
theorem wrapU (n : Nat) (h : n < 18446744073709551616) : IntKind.u64.wrap (n : Int) = n := by
 unfold IntKind.wrap
 have e : (2 : Int) ^ 64 = 18446744073709551616 := by decide
 simp only [IntKind.bits, IntKind.signed, Bool.false_and, Bool.false_eq_true, if_false, e]
 omega
theorem bvOf (a : Nat) (h : a < 18446744073709551616) : (BitVec.ofInt 64 (a : Int)).toNat = a := by
 rw [BitVec.toNat_ofInt]
 have e : ((2 : Nat) ^ 64 : Nat) = 18446744073709551616 := by decide
 rw [e]; omega
theorem or_words (a b : Nat) (ha : a < 18446744073709551616) (hb : b < 18446744073709551616) : IntKind.u64.wrap ((BitVec.ofInt 64 (a : Int) ||| BitVec.ofInt 64 (b : Int)).toNat : Int) = ((a ||| b : Nat) : Int) := by
 rw [BitVec.toNat_or, bvOf a ha, bvOf b hb]
 exact wrapU _ (Nat.or_lt_two_pow (n := 64) ha hb)
theorem bit_word (a r : Nat) (ha : a < 18446744073709551616) : (IntKind.u64.wrap ((BitVec.ofInt 64 (Int.fdiv (a : Int) (2 ^ r)) &&& BitVec.ofInt 64 1).toNat : Int) == 1) = a.testBit r := by
 have e : Int.fdiv (a : Int) (2 ^ r) = ((a >>> r : Nat) : Int) := by
  rw [Nat.shiftRight_eq_div_pow, Int.fdiv_eq_ediv_of_nonneg _ (Int.pow_nonneg (by omega))]
  push_cast
  rfl
 have hlt : a >>> r < 18446744073709551616 := Nat.lt_of_le_of_lt (Nat.shiftRight_le a r) ha
 rw [e, BitVec.toNat_and, bvOf _ hlt]
 have h1 : (BitVec.ofInt 64 1).toNat = 1 := by decide
 rw [h1, wrapU _ (Nat.lt_of_le_of_lt Nat.and_le_left hlt), Nat.and_one_is_mod]
 have e2 : a.testBit r = decide (a >>> r % 2 = 1) := by
  rw [Nat.shiftRight_eq_div_pow]; exact Nat.testBit_eq_decide_div_mod_eq
 rw [e2, Bool.eq_iff_iff]
 simp only [beq_iff_eq, decide_eq_true_eq]
 omega
def plV (f : Nat) : Value := .agg #[.int .u64 (wdN f 0 : Nat), .int .u64 (wdN f 1 : Nat), .int .u64 (wdN f 2 : Nat), .int .u64 (wdN f 3 : Nat), .int .u64 (wdN f 4 : Nat), .int .u64 (wdN f 5 : Nat), .int .u64 (wdN f 6 : Nat), .int .u64 (wdN f 7 : Nat), .int .u64 (wdN f 8 : Nat)]
end Go.Rx
set_option linter.unusedSectionVars false
namespace Go.Rx
open Go Go.Eng Go.RowKit
def Byt (m : Mem) (a : Option Addr) (s : List Nat) : Prop := (s = [] ∨ ∃ b o, a = some ⟨b, o, none⟩ ∧ m.reads b o (s.map fun c : Nat => Value.int .u8 c)) ∧ ∀ c ∈ s, c < 256
theorem Byt.mono {m m' : Mem} {a s} (h : Byt m a s) (hm : m.le m') : Byt m' a s := by
 refine ⟨?_, h.2⟩
 rcases h.1 with h | ⟨b, o, h1, h2⟩
 ·exact .inl h
 ·exact .inr ⟨b, o, h1, h2.mono hm⟩
theorem Byt.get {m : Mem} {a s} (h : Byt m a s) {i c : Nat} (hi : s[i]? = some c) : (∃ b o, a = some ⟨b, o, none⟩ ∧ m b (o + i) = some (.int .u8 c)) ∧ c < 256 := by
 refine ⟨?_, h.2 c (List.mem_of_getElem? hi)⟩
 rcases h.1 with h | ⟨b, o, h1, h2⟩
 ·subst h; simp at hi
 ·exact ⟨b, o, h1, h2 i _ (by rw [List.getElem?_map, hi]; rfl)⟩
def clsAt (t : T) (back : Bool) (f i c out : Nat) : Nat := if (f.testBit (if back then i + 1 else i) && t.hasB c) = true then out ||| 2 ^ (if back then i else i + 1) else out
def clsL (t : T) (back : Bool) (f : Nat) : List Nat → Nat → Nat → Nat
 | [], _, out => out
 | c :: s, i, out => clsL t back f s (i + 1) (clsAt t back f i c out)
def iter (g : Nat → Nat) : Nat → Nat → Nat
 | 0, f => f
 | n + 1, f => iter g n (g f)
def starF (g : Nat → Nat) (mx : Int) : Nat → Int → Nat → Nat → Nat
 | 0, _, out, _ => out
 | n + 1, k, out, last => if k = mx then out else if out ||| g last = out then out else starF g mx n (IntKind.i64.wrap (k + 1)) (out ||| g last) (g last)
@[irreducible] def E576 : Nat := 576
abbrev B576 : Nat := 2 ^ E576
def repN (g : Nat → Nat) (mn mx : Int) (f : Nat) : Nat := starF g mx (B576 + 1) mn (iter g mn.toNat f) (iter g mn.toNat f)
mutual
def T.lead (s : List Nat) (back : Bool) : T → Nat → Nat
 | .node k s0 s1 s2 s3 mn mx a c l => fun f =>
  if k = 1 then f else if k = 2 then clsL (.node k s0 s1 s2 s3 mn mx a c l) back f s 0 0
  else if k = 3 then (if back then leadB s back l f else leadF s back l f)
  else if k = 4 then altL s back l f 0
  else if k = 5 then repN (headL s back l) mn mx f
  else if k = 6 then headL s back l f else 0
def leadF (s : List Nat) (back : Bool) : List T → Nat → Nat
 | [] => fun f => f
 | t :: l => fun f => leadF s back l (t.lead s back f)
def leadB (s : List Nat) (back : Bool) : List T → Nat → Nat
 | [] => fun f => f
 | t :: l => fun f => t.lead s back (leadB s back l f)
def altL (s : List Nat) (back : Bool) : List T → Nat → Nat → Nat
 | [] => fun _ out => out
 | t :: l => fun f out => altL s back l f (out ||| t.lead s back f)
def headL (s : List Nat) (back : Bool) : List T → Nat → Nat
 | [] => fun f => f
 | t :: _ => fun f => t.lead s back f
end
section
variable {s : List Nat} {back : Bool}
end
theorem drop_at {α : Type} {l : List α} {i : Nat} {x : α} (h : l[i]? = some x) : l.drop i = x :: l.drop (i + 1) := by
 obtain ⟨h1, h2⟩ := List.getElem?_eq_some_iff.1 h
 rw [List.drop_eq_getElem_cons h1, h2]
theorem take_at {α : Type} {l : List α} {i : Nat} {x : α} (h : l[i]? = some x) : l.take (i + 1) = l.take i ++ [x] := by
 rw [List.take_add_one, h]; rfl
section
variable (s : List Nat) (back : Bool) (hs : s.length ≤ 512)
include hs
end
end Go.Rx
namespace Go.Rx
open Go Go.Eng Go.RowKit
def T0 : T := .node 0 0 0 0 0 0 0 none 0 []
def T1 : T := .node 1 0 0 0 0 0 0 none 0 []
theorem rep_T0 (m : Mem) : Rep m T0 := by simp only [T0, Rep]; exact ⟨by simp, .inl trivial, by constructor <;> decide⟩
theorem rep_T1 (m : Mem) : Rep m T1 := by simp only [T1, Rep]; exact ⟨by simp, .inl trivial, by constructor <;> decide⟩
def T.isNone (t : T) : Bool := t.k == 0 && (t.light && (T0.light && t.same T0))
def T.wrong (t : T) (len : Nat) (i : Int) : Int := if (!t.isNone && !(t.check == 0)) = true then 130 else if (len : Int) > 512 then 3 else if i < 0 ∨ i > len then 2 else 0
structure Rg where
 bg : Bool
 en : Bool
 t : T
def Rg.v (r : Rg) : Value := .agg #[.bool r.bg, .bool r.en, .int .u8 r.t.k, .int .u64 r.t.s0, .int .u64 r.t.s1, .int .u64 r.t.s2, .int .u64 r.t.s3, .int .i64 r.t.mn, .int .i64 r.t.mx, .slice r.t.a r.t.subs.length r.t.c]
def Rg.cs (r : Rg) : List Value := [.bool r.bg, .bool r.en, .int .u8 r.t.k, .int .u64 r.t.s0, .int .u64 r.t.s1, .int .u64 r.t.s2, .int .u64 r.t.s3, .int .i64 r.t.mn, .int .i64 r.t.mx, .slice r.t.a r.t.subs.length r.t.c]
def Rgs (m : Mem) (a : Option Addr) (l : List Rg) : Prop := l.length ≤ 1000000000000000 ∧ (l = [] ∨ ∃ b o, a = some ⟨b, o, none⟩ ∧ ∀ i r, l[i]? = some r → m.reads b (o + i * 10) r.cs) ∧ ∀ r ∈ l, Rep m r.t
theorem Rgs.mono {m m' : Mem} {a l} (h : Rgs m a l) (hm : m.le m') : Rgs m' a l := by
 refine ⟨h.1, ?_, fun r hr => (h.2.2 r hr).mono hm⟩
 rcases h.2.1 with h | ⟨b, o, h1, h2⟩
 ·exact .inl h
 ·exact .inr ⟨b, o, h1, fun i r hi => (h2 i r hi).mono hm⟩
def bitsOf (f : Nat) : List Nat := (List.range 513).filter fun i => f.testBit i
def firstLe (n : Nat) : List Nat → Option Nat
 | [] => none
 | i :: _ => if i > n then none else some i
def Rg.from (s : List Nat) (n : Nat) (r : Rg) : Option Nat := if (r.en && decide ((n : Int) < s.length)) = true then none else if r.bg then (if (r.t.lead s true (2 ^ n)).testBit 0 then some 0 else none) else
 firstLe n (bitsOf (r.t.lead s true (2 ^ n)))
def Rg.wrong (r : Rg) (len : Nat) (n : Int) : Int := if r.t.check = 0 then r.t.wrong len n else 130
end Go.Rx
namespace Go.Rx
open Go Go.Eng Go.RowKit
def TreeR (φ : T → Prop) : Value → Mem → List (List Value) → Prop := fun v m' _ => ∃ t : T, v = t.v ∧ Rep m' t ∧ φ t
abbrev TRK := Int → Int → Int → Int → Int → Int → Int → Option Addr → Nat → Nat → Mem → Prop
theorem tree_k {φ : T → Prop} {m : Mem} {K : TRK} (k : ∀ (t : T) (m' : Mem), m.le m' → Rep m' t → φ t → K t.k t.s0 t.s1 t.s2 t.s3 t.mn t.mx t.a t.subs.length t.c m') :
  ∀ (n0 n1 n2 n3 n4 n5 n6 : Int) (a : Option Addr) (n c : Nat) (m' : Mem), m.le m' → TreeR φ (.agg #[.int .u8 n0, .int .u64 n1, .int .u64 n2, .int .u64 n3, .int .u64 n4, .int .i64 n5, .int .i64 n6, .slice a n c]) m' [] → K n0 n1 n2 n3 n4 n5 n6 a n c m' := by
 rintro n0 n1 n2 n3 n4 n5 n6 a n c m' hm ⟨t, hv, hr, hp⟩
 simp only [T.v, Value.agg.injEq, Array.mk.injEq, List.cons.injEq, Value.int.injEq, Value.slice.injEq, true_and, and_true] at hv
 obtain ⟨rfl, rfl, rfl, rfl, rfl, rfl, rfl, rfl, rfl, rfl⟩ := hv
 exact k t m' hm hr hp
theorem tree_fits {φ : T → Prop} : ∀ (v : Value) (m' : Mem) (css : List (List Value)), TreeR φ v m' css → Shape.fits (.agg [.int .u8, .int .u64, .int .u64, .int .u64, .int .u64, .int .i64, .int .i64, .slice]) v = true := fun v _ _ ⟨t, e, _⟩ => by rw [e]; rfl
def wordI (c j : Nat) : Int := if c / 64 = j then ((2 ^ (c % 64) : Nat) : Int) else 0
def letterT (c : Nat) : T := .node 2 (wordI c 0) (wordI c 1) (wordI c 2) (wordI c 3) 0 0 none 0 []
theorem wordI_ok (c j : Nat) : 0 ≤ wordI c j ∧ wordI c j < 18446744073709551616 := by
 unfold wordI
 split
 ·have h : (2 : Nat) ^ (c % 64) < 2 ^ 64 := Nat.pow_lt_pow_right (by omega) (by omega)
  have e : (2 : Nat) ^ 64 = 18446744073709551616 := by decide
  rw [e] at h
  generalize (2 : Nat) ^ (c % 64) = w at *
  exact ⟨by omega, by omega⟩
 ·omega
theorem rep_letter (c : Nat) (m : Mem) : Rep m (letterT c) := by
 simp only [letterT, Rep]
 exact ⟨by simp, .inl trivial, ⟨by omega, wordI_ok c 0, wordI_ok c 1, wordI_ok c 2, wordI_ok c 3, by omega, by omega⟩⟩
def RepL (m : Mem) (a : Option Addr) (l : List T) : Prop := l.length ≤ 1000000000000000 ∧ (l = [] ∨ ∃ b o, a = some ⟨b, o, none⟩ ∧ RepAt m b o l)
theorem RepL.mono {m m' : Mem} {a l} (h : RepL m a l) (hm : m.le m') : RepL m' a l := by
 refine ⟨h.1, ?_⟩
 rcases h.2 with h | ⟨b, o, h1, h2⟩
 ·exact .inl h
 ·exact .inr ⟨b, o, h1, h2.mono hm⟩
theorem Rep.subs {m : Mem} {t : T} (h : Rep m t) : RepL m t.a t.subs := Rep_iff h
def nodeT (k mn mx : Int) (a : Option Addr) (c : Nat) (l : List T) : T := .node k 0 0 0 0 mn mx a c l
theorem rep_node_mk {m : Mem} {k mn mx : Int} {a : Option Addr} {c : Nat} {l : List T} (h : RepL m a l) (hk : 0 ≤ k ∧ k < 256) (h1 : -9223372036854775808 ≤ mn ∧ mn ≤ 9223372036854775807) (h2 : -9223372036854775808 ≤ mx ∧ mx ≤ 9223372036854775807) : Rep m (nodeT k mn mx a c l) := by
 simp only [nodeT, Rep]
 exact ⟨h.1, h.2, ⟨hk, by omega, by omega, by omega, by omega, h1, h2⟩⟩
theorem repL_one {m : Mem} {b : Nat} {t : T} (h : m.reads b 0 t.cs) (hr : Rep m t) : RepL m (some ⟨b, 0, none⟩) [t] := ⟨by simp, .inr ⟨b, 0, rfl, by simp only [RepAt]; exact ⟨h, hr, trivial⟩⟩⟩
def cellsL (l : List T) : List Value := (l.map T.cs).flatten
theorem cellsL_len (l : List T) : (cellsL l).length = l.length * 8 := by
 induction l with
 | nil => rfl
 | cons t l ih => simp [cellsL, T.cs] at ih ⊢; omega
theorem cellsL_append (l r : List T) : cellsL (l ++ r) = cellsL l ++ cellsL r := by simp [cellsL]
theorem repAt_of {m : Mem} {b : Nat} : ∀ {o : Nat} {l : List T}, m.reads b o (cellsL l) → (∀ t ∈ l, Rep m t) → RepAt m b o l
 | o, [], _, _ => by simp only [RepAt]
 | o, t :: l, h, hr => by
  simp only [RepAt]
  refine ⟨fun j v hj => ?_, hr t (by simp), repAt_of (fun j v hj => ?_) fun x hx => hr x (by simp [hx])⟩
  ·refine h j v ?_
   simp only [cellsL, List.map_cons, List.flatten_cons]
   rw [List.getElem?_append_left (List.getElem?_eq_some_iff.1 hj).1]; exact hj
  ·have := h (8 + j) v (by
    simp only [cellsL, List.map_cons, List.flatten_cons]
    rw [List.getElem?_append_right (by simp [T.cs])]
    have e : 8 + j - t.cs.length = j := by simp [T.cs]
    rw [e]; exact hj)
   rw [show o + 8 + j = o + (8 + j) by omega]; exact this
theorem repL_of {m : Mem} {a : Option Addr} {l : List T} (h : rowRd m a (cellsL l)) (hr : ∀ t ∈ l, Rep m t) (hl : l.length ≤ 1000000000000000) : RepL m a l := by
 refine ⟨hl, ?_⟩
 cases l with
 | nil => exact .inl rfl
 | cons t l =>
  rcases h with h | ⟨b, o, h1, h2⟩
  ·simp [cellsL, T.cs] at h
  ·exact .inr ⟨b, o, h1, repAt_of h2 hr⟩
theorem row_of_repL {m : Mem} {a : Option Addr} {l : List T} (h : RepL m a l) : rowRd m a (cellsL l) := by
 have key : ∀ (l : List T) (b o : Nat), RepAt m b o l → m.reads b o (cellsL l) := by
  intro l
  induction l with
  | nil => intro b o _ j v hj; simp [cellsL] at hj
  | cons t l ih =>
   intro b o hr j v hj
   simp only [RepAt] at hr
   simp only [cellsL, List.map_cons, List.flatten_cons] at hj
   by_cases hlt : j < 8
   ·rw [List.getElem?_append_left (by simpa [T.cs] using hlt)] at hj
    exact hr.1 j v hj
   ·rw [List.getElem?_append_right (by simp [T.cs]; omega)] at hj
    have := ih b (o + 8) hr.2.2 (j - 8) v (by simpa [T.cs, cellsL] using hj)
    rw [show o + 8 + (j - 8) = o + j by omega] at this; exact this
 rcases h.2 with h | ⟨b, o, h1, h2⟩
 ·subst h; exact .inl rfl
 ·exact .inr ⟨b, o, h1, key l b o h2⟩
theorem repL_reps {m : Mem} {a : Option Addr} {l : List T} (h : RepL m a l) : ∀ t ∈ l, Rep m t := by
 rcases h.2 with h | ⟨b, o, _, h⟩
 ·subst h; simp
 ·intro t ht
  obtain ⟨i, hi⟩ := List.getElem?_of_mem ht
  exact (h.get hi).2
def setF (j : Nat) (w c : Nat) : Nat := if c / 64 = j then w ||| 2 ^ (c % 64) else w
def setW (bs : List Nat) (j : Nat) : Nat := bs.foldl (setF j) 0
theorem setW_snoc (l : List Nat) (c j : Nat) : setW (l ++ [c]) j = if c / 64 = j then setW l j ||| 2 ^ (c % 64) else setW l j := by
 unfold setW
 rw [List.foldl_append]; rfl
theorem setW_lt (l : List Nat) (j : Nat) : setW l j < 18446744073709551616 := by
 have key : ∀ (l : List Nat) (w : Nat), w < 2 ^ 64 → l.foldl (setF j) w < 2 ^ 64 := by
  intro l
  induction l with
  | nil => intro w h; exact h
  | cons c l ih =>
   intro w h
   refine ih _ ?_
   unfold setF
   split
   ·exact Nat.or_lt_two_pow h (Nat.pow_lt_pow_right (by omega) (by omega))
   ·exact h
 exact key l 0 (by decide)
def classT (bs : List Nat) : T := .node 2 (setW bs 0 : Nat) (setW bs 1 : Nat) (setW bs 2 : Nat) (setW bs 3 : Nat) 0 0 none 0 []
theorem rep_class (bs : List Nat) (m : Mem) : Rep m (classT bs) := by
 simp only [classT, Rep]
 have h := setW_lt bs
 exact ⟨by simp, .inl trivial, ⟨by omega, ⟨by omega, by have := h 0; omega⟩, ⟨by omega, by have := h 1; omega⟩, ⟨by omega, by have := h 2; omega⟩, ⟨by omega, by have := h 3; omega⟩, by omega, by omega⟩⟩
def setsL (bs : List Nat) : List Value := [.int .u64 (setW bs 0 : Nat), .int .u64 (setW bs 1 : Nat), .int .u64 (setW bs 2 : Nat), .int .u64 (setW bs 3 : Nat)]
theorem setsL_get (bs : List Nat) {j : Nat} (h : j < 4) : (setsL bs)[j]? = some (.int .u64 (setW bs j : Nat)) := by
 have : j = 0 ∨ j = 1 ∨ j = 2 ∨ j = 3 := by omega
 rcases this with rfl | rfl | rfl | rfl <;> rfl
theorem setsL_step (l : List Nat) {c j : Nat} (hj : c / 64 = j) (h : j < 4) : splice (setsL l) j [.int .u64 ((setW l j ||| 2 ^ (c % 64) : Nat) : Int)] = setsL (l ++ [c]) := by
 unfold setsL
 simp only [setW_snoc, hj]
 have : j = 0 ∨ j = 1 ∨ j = 2 ∨ j = 3 := by omega
 rcases this with rfl | rfl | rfl | rfl <;> rfl
def lettersB (n : Nat) : List Nat := ([[97], [98], [97, 98], [97], [98], [99], [97, 98, 99], [98, 99], [10], [0, 255], [97], [98]][n % 12]?).getD []
end Go.Rx
namespace Go.Rx
open Go Go.Eng Go.RowKit
def T.good (t : T) : Bool := t.nodes.all T.right
def isG (t : T) : Bool := t.k == 6
theorem nodesL_all (p : T → Bool) : ∀ l : List T, (nodesL l).all p = l.all fun t => t.nodes.all p
 | [] => rfl
 | t :: l => by simp only [nodesL, List.all_append, List.all_cons, nodesL_all p l]
theorem good_eq (t : T) : t.good = (t.right && t.subs.all T.good) := by
 unfold T.good; rw [nodes_eq, List.all_cons, nodesL_all]
def grL (l : List T) : Nat := (nodesL l).countP isG
def szL (l : List T) : Nat := (nodesL l).length
def T.gr (t : T) : Nat := t.nodes.countP isG
theorem szL_append (l r : List T) : szL (l ++ r) = szL l + szL r := by unfold szL; rw [nodesL_append, List.length_append]
theorem grL_append (l r : List T) : grL (l ++ r) = grL l + grL r := by unfold grL; rw [nodesL_append, List.countP_append]
theorem szL_one (t : T) : szL [t] = t.nodes.length := by simp [szL, nodesL]
theorem grL_one (t : T) : grL [t] = t.gr := by simp [grL, nodesL, T.gr]
theorem posL_one (t : T) : posL [t] = t.pos := by simp [posL]
theorem szL_cons (t : T) (l : List T) : szL (t :: l) = t.nodes.length + szL l := by simp [szL, nodesL]
theorem grL_cons (t : T) (l : List T) : grL (t :: l) = t.gr + grL l := by simp [grL, nodesL, T.gr, List.countP_append]
theorem sz_eq (t : T) : t.nodes.length = 1 + szL t.subs := by rw [nodes_eq, List.length_cons, szL]; omega
theorem gr_eq (t : T) : t.gr = (if isG t = true then 1 else 0) + grL t.subs := by
 unfold T.gr; rw [nodes_eq, List.countP_cons, grL]; omega
theorem len_szL (l : List T) : l.length ≤ szL l := by
 induction l with
 | nil => simp
 | cons t l ih => rw [szL_cons, sz_eq, List.length_cons]; omega
def joinL (k : Int) (t : T) : List T := if t.k = k then t.subs else if k = 3 ∧ t.k = 1 then [] else [t]
def mkJoin (k : Int) (a : Option Addr) (c : Nat) : List T → T
 | [] => T1
 | [x] => x
 | x :: y :: l => nodeT k 0 0 a c (x :: y :: l)
theorem has_false {t : T} {k : Int} (h : t.has k = false) : ∀ x ∈ t.subs, x.k ≠ k := by
 intro x hx e
 unfold T.has at h
 have := List.any_eq_false.1 h x hx
 simp [e] at this
theorem has_of {t : T} {k : Int} (h : ∀ x ∈ t.subs, x.k ≠ k) : t.has k = false := by
 unfold T.has
 rw [List.any_eq_false]
 intro x hx
 have := h x hx
 simpa using this
theorem joinL_ok {k : Int} {t : T} (hk : k = 3 ∨ k = 4) (hg : t.good = true) (hp : t.pos ≤ 10000) : (∀ x ∈ joinL k t, x.good = true ∧ x.k ≠ k ∧ (k = 3 → x.k ≠ 1)) ∧ szL (joinL k t) ≤ t.nodes.length ∧ grL (joinL k t) ≤ t.gr ∧ posL (joinL k t) ≤ t.pos := by
 have hg' := hg
 rw [good_eq, Bool.and_eq_true, List.all_eq_true] at hg'
 unfold joinL
 split
 ·rename_i hkk
  refine ⟨fun x hx => ⟨hg'.2 x hx, ?_⟩, by rw [sz_eq]; omega, by rw [gr_eq]; omega, ?_⟩
  ·have hr := hg'.1
   unfold T.right at hr
   rw [Bool.and_eq_true] at hr
   have hr := hr.2
   rcases hk with rfl | rfl
   ·simp only [hkk] at hr
    simp at hr
    exact ⟨has_false hr.2.2 x hx, fun _ => has_false hr.2.1 x hx⟩
   ·simp only [hkk] at hr
    simp at hr
    exact ⟨has_false hr.2 x hx, fun h => by omega⟩
  ·rw [pos_eq] at hp ⊢
   have h5 : ¬ t.k = 5 := by omega
   have h2 : ¬ t.k = 2 := by omega
   unfold posR at hp ⊢
   rw [if_neg h5, if_neg h2, Int.zero_add] at hp ⊢
   unfold imin at hp ⊢
   split at hp
   ·omega
   ·split <;> omega
 ·rename_i hkk
  split
  ·refine ⟨fun x hx => by simp at hx, by simp [szL, nodesL], by simp [grL, nodesL], ?_⟩
   simp only [posL]; exact (pos_bd t).1
  ·rename_i h31
   refine ⟨fun x hx => ?_, by rw [szL_one]; exact Nat.le_refl _, by rw [grL_one]; exact Nat.le_refl _, by rw [posL_one]; exact Int.le_refl _⟩
   simp at hx; subst hx
   exact ⟨hg, hkk, fun h => fun h1 => h31 ⟨h, h1⟩⟩
theorem mkJoin_ok {k : Int} (hk : k = 3 ∨ k = 4) (a : Option Addr) (c : Nat) : ∀ {l : List T}, (∀ x ∈ l, x.good = true ∧ x.k ≠ k ∧ (k = 3 → x.k ≠ 1)) → (mkJoin k a c l).good = true ∧ (mkJoin k a c l).nodes.length ≤ 1 + szL l ∧ (mkJoin k a c l).gr ≤ grL l ∧ (mkJoin k a c l).pos ≤ posL l
 | [], _ => ⟨show T1.good = true by decide, show T1.nodes.length ≤ 1 by decide, show T1.gr ≤ 0 by decide, show T1.pos ≤ 0 by decide⟩
 | [x], h => by
  rw [szL_one, grL_one, posL_one]
  exact ⟨(h x (by simp)).1, by show x.nodes.length ≤ _; omega, Nat.le_refl _, Int.le_refl _⟩
 | x :: y :: l, h => by
  show (nodeT k 0 0 a c (x :: y :: l)).good = true ∧ (nodeT k 0 0 a c (x :: y :: l)).nodes.length ≤ _ ∧ (nodeT k 0 0 a c (x :: y :: l)).gr ≤ _ ∧ (nodeT k 0 0 a c (x :: y :: l)).pos ≤ _
  have hs : (nodeT k 0 0 a c (x :: y :: l)).subs = x :: y :: l := rfl
  have hkk : (nodeT k 0 0 a c (x :: y :: l)).k = k := rfl
  have hz : (nodeT k 0 0 a c (x :: y :: l)).setZ = true := rfl
  have hmn : (nodeT k 0 0 a c (x :: y :: l)).mn = 0 := rfl
  have hmx : (nodeT k 0 0 a c (x :: y :: l)).mx = 0 := rfl
  refine ⟨?_, by rw [sz_eq, hs]; exact Nat.le_refl _, ?_, ?_⟩
  ·rw [good_eq, Bool.and_eq_true, List.all_eq_true, hs]
   refine ⟨?_, fun z hz => (h z hz).1⟩
   have h1 : k = 3 → (nodeT k 0 0 a c (x :: y :: l)).has 1 = false := fun e => has_of fun z hz => (h z hz).2.2 e
   have h2 : (nodeT k 0 0 a c (x :: y :: l)).has k = false := has_of fun z hz => (h z hz).2.1
   unfold T.right
   rw [hkk, hz, hmn, hmx, hs]
   rcases hk with rfl | rfl
   ·simp [h1 rfl, h2]
   ·simp [h2]
  ·rw [gr_eq, hs, isG, hkk]
   rcases hk with rfl | rfl <;> simp
  ·rw [pos_eq, hkk, hmn, hmx, hs]
   unfold posR
   rw [if_neg (by omega), if_neg (by omega), Int.zero_add]
   exact (imin_le _ _).1
structure J (i : Nat) (ts : List T) (u g : Nat) : Prop where
 good : ∀ t ∈ ts, t.good = true
 sz : szL ts ≤ i
 pos : posL ts ≤ (i * u : Nat)
 u1 : 1 ≤ u
 u16 : u ≤ 16
 gr : grL ts ≤ g
 g9 : g ≤ 9
theorem J.zero : J 0 [] 1 0 := ⟨by simp, by simp [szL, nodesL], by simp [posL], by omega, by omega, by simp [grL, nodesL], by omega⟩
theorem J.skip {i ts u g} (h : J i ts u g) : J (i + 1) ts u g :=
 ⟨h.good, by have := h.sz; omega, by have := h.pos; have e : (i + 1) * u = i * u + u := Nat.succ_mul i u; rw [e]; omega, h.u1, h.u16, h.gr, h.g9⟩
theorem J.push {i ts u g} (h : J i ts u g) {t : T} (hg : t.good = true) (hs : t.nodes.length = 1) (hp : t.pos ≤ 1) (hr : t.gr = 0) : J (i + 1) (ts ++ [t]) u g := by
 refine ⟨fun x hx => ?_, ?_, ?_, h.u1, h.u16, ?_, h.g9⟩
 ·rcases List.mem_append.1 hx with hx | hx
  ·exact h.good x hx
  ·simp at hx; subst hx; exact hg
 ·rw [szL_append, szL_one, hs]; have := h.sz; omega
 ·rw [posL_append, posL_one]; have := h.pos; have := h.u1; have e : (i + 1) * u = i * u + u := Nat.succ_mul i u; rw [e]; omega
 ·rw [grL_append, grL_one, hr]; have := h.gr; omega
theorem J.pos400 {i ts u g} (h : J i ts u g) (hi : i ≤ 25) : posL ts ≤ 400 := by
 have h1 := h.pos
 have : i * u ≤ 25 * 16 := Nat.mul_le_mul hi h.u16
 omega
theorem J.join {i ts u g} {x y : T} (h : J i (ts ++ [x, y]) u g) (hi : i ≤ 25) {k : Int} (hk : k = 3 ∨ k = 4) (a : Option Addr) (c : Nat) : J (i + 1) (ts ++ [mkJoin k a c (joinL k x ++ joinL k y)]) u g := by
 have h4 := h.pos400 hi
 have hz := h.sz
 have hp := h.pos
 have hgr := h.gr
 rw [show ts ++ [x, y] = ts ++ ([x] ++ [y]) from rfl] at h4 hz hp hgr
 rw [posL_append, posL_append, posL_one, posL_one] at h4 hp
 rw [szL_append, szL_append, szL_one, szL_one] at hz
 rw [grL_append, grL_append, grL_one, grL_one] at hgr
 have n1 := posL_nn ts
 have n2 := (pos_bd x).1
 have n3 := (pos_bd y).1
 obtain ⟨a1, a2, a3, a4⟩ := joinL_ok hk (h.good x (by simp)) (by omega)
 obtain ⟨b1, b2, b3, b4⟩ := joinL_ok hk (h.good y (by simp)) (by omega)
 obtain ⟨c1, c2, c3, c4⟩ := mkJoin_ok hk a c (l := joinL k x ++ joinL k y) (fun z hz => by
  rcases List.mem_append.1 hz with hz | hz
  ·exact a1 z hz
  ·exact b1 z hz)
 rw [szL_append] at c2
 rw [grL_append] at c3
 rw [posL_append] at c4
 refine ⟨fun z hz => ?_, ?_, ?_, h.u1, h.u16, ?_, h.g9⟩
 ·rcases List.mem_append.1 hz with hz | hz
  ·exact h.good z (by simp [hz])
  ·simp at hz; subst hz; exact c1
 ·rw [szL_append, szL_one]; omega
 ·rw [posL_append, posL_one]; have e : (i + 1) * u = i * u + u := Nat.succ_mul i u; rw [e]; omega
 ·rw [grL_append, grL_one]; omega
theorem J.group {i ts u g} {x : T} (h : J i (ts ++ [x]) u g) (hg : g < 9) (a : Option Addr) (c : Nat) : J (i + 1) (ts ++ [nodeT 6 0 0 a c [x]]) u (g + 1) := by
 have hz := h.sz
 have hp := h.pos
 have hgr := h.gr
 rw [posL_append, posL_one] at hp
 rw [szL_append, szL_one] at hz
 rw [grL_append, grL_one] at hgr
 have hs : (nodeT 6 0 0 a c [x]).subs = [x] := rfl
 refine ⟨fun z hz => ?_, ?_, ?_, h.u1, h.u16, ?_, by omega⟩
 ·rcases List.mem_append.1 hz with hz | hz
  ·exact h.good z (by simp [hz])
  ·simp at hz; subst hz
   rw [good_eq, Bool.and_eq_true, List.all_eq_true]
   refine ⟨rfl, fun z hz => ?_⟩
   rw [hs] at hz; simp at hz; subst hz
   exact h.good z (by simp)
 ·rw [szL_append, szL_one, sz_eq, hs, szL_one]; omega
 ·rw [posL_append, posL_one, pos_eq, hs, posL_one]
  have : posR (nodeT 6 0 0 a c [x]).k (nodeT 6 0 0 a c [x]).mn (nodeT 6 0 0 a c [x]).mx ((if (nodeT 6 0 0 a c [x]).k = 2 then 1 else 0) + x.pos) ≤ x.pos := by
   show imin (if (6 : Int) = 5 then _ else (if (6 : Int) = 2 then 1 else 0) + x.pos) 10001 ≤ _
   rw [if_neg (by omega), if_neg (by omega), Int.zero_add]
   exact (imin_le _ _).1
  have e : (i + 1) * u = i * u + u := Nat.succ_mul i u
  rw [e]; omega
 ·rw [grL_append, grL_one, gr_eq, hs, grL_one]
  split <;> omega
theorem J.rep {i ts u g} {x : T} (h : J i (ts ++ [x]) u g) (hx : x.k ≠ 1) {mn mx : Int} (hb : bounds mn mx = true) {w : Nat} (hw : posF mn mx ≤ w) (h1 : 1 ≤ w) (hu : u * w ≤ 16) (a : Option Addr) (c : Nat) : J (i + 1) (ts ++ [nodeT 5 mn mx a c [x]]) (u * w) g := by
 have hz := h.sz
 have hp := h.pos
 have hgr := h.gr
 rw [posL_append, posL_one] at hp
 rw [szL_append, szL_one] at hz
 rw [grL_append, grL_one] at hgr
 have hs : (nodeT 5 mn mx a c [x]).subs = [x] := rfl
 have n1 := posL_nn ts
 have n2 := (pos_bd x).1
 refine ⟨fun z hz => ?_, ?_, ?_, ?_, hu, ?_, h.g9⟩
 ·rcases List.mem_append.1 hz with hz | hz
  ·exact h.good z (by simp [hz])
  ·simp at hz; subst hz
   rw [good_eq, Bool.and_eq_true, List.all_eq_true]
   refine ⟨?_, fun z hz => ?_⟩
   ·have hh : (nodeT 5 mn mx a c [x]).has 1 = false := has_of fun z hz => by rw [hs] at hz; simp at hz; subst hz; exact hx
    unfold T.right
    rw [hh, hs, show (nodeT 5 mn mx a c [x]).k = 5 from rfl, show (nodeT 5 mn mx a c [x]).setZ = true from rfl, show (nodeT 5 mn mx a c [x]).mn = mn from rfl, show (nodeT 5 mn mx a c [x]).mx = mx from rfl, hb]
    simp
   ·rw [hs] at hz; simp at hz; subst hz
    exact h.good z (by simp)
 ·rw [szL_append, szL_one, sz_eq, hs, szL_one]; omega
 ·rw [posL_append, posL_one, pos_eq, hs, posL_one]
  have key : posR (nodeT 5 mn mx a c [x]).k (nodeT 5 mn mx a c [x]).mn (nodeT 5 mn mx a c [x]).mx ((if (nodeT 5 mn mx a c [x]).k = 2 then 1 else 0) + x.pos) ≤ x.pos * w := by
   show imin (if (5 : Int) = 5 then ((if (5 : Int) = 2 then 1 else 0) + x.pos) * posF mn mx else _) 10001 ≤ _
   rw [if_pos rfl, if_neg (by omega), Int.zero_add]
   exact Int.le_trans (imin_le _ _).1 (Int.mul_le_mul_of_nonneg_left hw n2)
  have k2 : posL ts ≤ posL ts * w := by
   have := Int.mul_le_mul_of_nonneg_left (show (1 : Int) ≤ w by omega) n1
   rw [Int.mul_one] at this; exact this
  have k3 : (posL ts + x.pos) * w ≤ ((i * u : Nat) : Int) * w := Int.mul_le_mul_of_nonneg_right hp (by omega)
  rw [Int.add_mul] at k3
  have e : (i + 1) * (u * w) = i * u * w + u * w := by rw [Nat.succ_mul, Nat.mul_assoc]
  have e2 : (((i * u : Nat) : Int) * w) = ((i * u * w : Nat) : Int) := by push_cast; rfl
  rw [e2] at k3
  rw [e]
  generalize i * u * w = A at *
  generalize u * w = B at *
  generalize posL ts * (w : Int) = D at *
  generalize x.pos * (w : Int) = F at *
  omega
 ·have := Nat.mul_le_mul h.u1 h1; omega
 ·rw [grL_append, grL_one, gr_eq, hs, grL_one, isG, show (nodeT 5 mn mx a c [x]).k = 5 from rfl]
  simp; omega
structure F (t : T) (l : List T) : Prop where
 good : t.good = true
 goods : ∀ x ∈ l, x.good = true
 sz : t.nodes.length + szL l + l.length ≤ 60
 pos : t.pos + posL l ≤ 400
 gr : t.gr + grL l ≤ 9
theorem F.start {i u g} {t : T} {l : List T} (h : J i (t :: l) u g) (hi : i ≤ 25) : F t l := by
 have h1 := h.sz
 have h2 := h.pos400 hi
 have h3 := h.gr
 rw [szL_cons] at h1
 rw [grL_cons] at h3
 have := len_szL l
 have := h.g9
 exact ⟨h.good t (by simp), fun x hx => h.good x (by simp [hx]), by omega, by simpa [posL] using h2, by omega⟩
theorem F.step {t x : T} {l : List T} (h : F t (x :: l)) (a : Option Addr) (c : Nat) : F (mkJoin 4 a c (joinL 4 t ++ joinL 4 x)) l := by
 have h1 := h.sz
 have h2 := h.pos
 have h3 := h.gr
 rw [szL_cons, List.length_cons] at h1
 rw [grL_cons] at h3
 simp only [posL] at h2
 have n1 := posL_nn l
 have n2 := (pos_bd x).1
 have n3 := (pos_bd t).1
 obtain ⟨a1, a2, a3, a4⟩ := joinL_ok (.inr rfl) h.good (by omega) (t := t)
 obtain ⟨b1, b2, b3, b4⟩ := joinL_ok (.inr rfl) (h.goods x (by simp)) (by omega)
 obtain ⟨c1, c2, c3, c4⟩ := mkJoin_ok (.inr rfl) a c (l := joinL 4 t ++ joinL 4 x) (fun z hz => by
  rcases List.mem_append.1 hz with hz | hz
  ·exact a1 z hz
  ·exact b1 z hz)
 rw [szL_append] at c2
 rw [grL_append] at c3
 rw [posL_append] at c4
 exact ⟨c1, fun z hz => h.goods z (by simp [hz]), by omega, by omega, by omega⟩
theorem F.done {t : T} {l : List T} (h : F t l) : t.check = 0 := by
 have h1 := h.sz
 have h2 := h.pos
 have h3 := h.gr
 have n1 := posL_nn l
 have hl : t.light = true := by unfold T.light; exact decide_eq_true (by omega)
 have hc : t.clean = true := by unfold T.clean; rw [hl]; exact h.good
 have hg : ((t.nodes.countP fun x => x.k == 6 : Nat)) = t.gr := rfl
 unfold T.check
 rw [hc]
 unfold T.size T.positions T.groups
 rw [hl, hg]
 simp only [if_true, Bool.true_eq_false, if_false]
 rw [if_neg (by omega), if_neg (by omega), if_neg (by omega)]
theorem class_ok (n : Nat) : (classT (lettersB n)).good = true ∧ (classT (lettersB n)).nodes.length = 1 ∧ (classT (lettersB n)).pos ≤ 1 ∧ (classT (lettersB n)).gr = 0 := by
 have h : n % 12 = 0 ∨ n % 12 = 1 ∨ n % 12 = 2 ∨ n % 12 = 3 ∨ n % 12 = 4 ∨ n % 12 = 5 ∨ n % 12 = 6 ∨ n % 12 = 7 ∨ n % 12 = 8 ∨ n % 12 = 9 ∨ n % 12 = 10 ∨ n % 12 = 11 := by omega
 unfold lettersB
 rcases h with e | e | e | e | e | e | e | e | e | e | e | e <;> rw [e] <;> exact ⟨by decide, by decide, by decide, by decide⟩
theorem T1_ok : T1.good = true ∧ T1.nodes.length = 1 ∧ T1.pos ≤ 1 ∧ T1.gr = 0 := ⟨by decide, by decide, by decide, by decide⟩
theorem joinL_len {k : Int} {t : T} : (joinL k t).length ≤ t.nodes.length := by
 unfold joinL
 have := subs_le t
 have := sz_eq t
 split
 ·omega
 ·split <;> simp <;> omega
end Go.Rx
namespace Go.Rx
open Go Go.Eng Go.RowKit
def bwL (f : Nat) : List Value := [.int .u64 (wdN f 0 : Nat), .int .u64 (wdN f 1 : Nat), .int .u64 (wdN f 2 : Nat), .int .u64 (wdN f 3 : Nat), .int .u64 (wdN f 4 : Nat), .int .u64 (wdN f 5 : Nat), .int .u64 (wdN f 6 : Nat)]
def bwV (f : Nat) : Value := .agg #[.int .u64 (wdN f 0 : Nat), .int .u64 (wdN f 1 : Nat), .int .u64 (wdN f 2 : Nat), .int .u64 (wdN f 3 : Nat), .int .u64 (wdN f 4 : Nat), .int .u64 (wdN f 5 : Nat), .int .u64 (wdN f 6 : Nat)]
theorem bwL_get {f j : Nat} (h : j < 7) : (bwL f)[j]? = some (.int .u64 (wdN f j : Nat)) := by
 have : j = 0 ∨ j = 1 ∨ j = 2 ∨ j = 3 ∨ j = 4 ∨ j = 5 ∨ j = 6 := by omega
 rcases this with rfl | rfl | rfl | rfl | rfl | rfl | rfl <;> rfl
theorem bw_put {f q r : Nat} (hq : q < 7) (hr : r < 64) : splice (bwL f) q [.int .u64 ((wdN f q ||| 2 ^ r : Nat) : Int)] = bwL (f ||| 2 ^ (64 * q + r)) := by
 unfold bwL
 simp only [wdN_or, wdN_pow hr]
 have : q = 0 ∨ q = 1 ∨ q = 2 ∨ q = 3 ∨ q = 4 ∨ q = 5 ∨ q = 6 := by omega
 rcases this with rfl | rfl | rfl | rfl | rfl | rfl | rfl <;> simp [splice, Nat.or_zero]
theorem bw_zero : bwL 0 = [.int .u64 0, .int .u64 0, .int .u64 0, .int .u64 0, .int .u64 0, .int .u64 0, .int .u64 0] := by simp [bwL, wdN]
def orB (f g k : Nat) : List Value := (List.range 7).map fun j => .int .u64 ((if j < k then wdN (f ||| g) j else wdN f j : Nat) : Int)
theorem orB_get {f g k j : Nat} (h : j < 7) : (orB f g k)[j]? = some (.int .u64 ((if j < k then wdN (f ||| g) j else wdN f j : Nat) : Int)) := by
 simp [orB, h]
theorem orB_len (f g k : Nat) : (orB f g k).length = 7 := by simp [orB]
theorem bwL_len (f : Nat) : (bwL f).length = 7 := rfl
theorem orB_step {f g k : Nat} (h : k < 7) : splice (orB f g k) k [.int .u64 ((wdN f k ||| wdN g k : Nat) : Int)] = orB f g (k + 1) := by
 rw [← wdN_or]
 have : k = 0 ∨ k = 1 ∨ k = 2 ∨ k = 3 ∨ k = 4 ∨ k = 5 ∨ k = 6 := by omega
 rcases this with rfl | rfl | rfl | rfl | rfl | rfl | rfl <;> rfl
theorem splice_mid {A L B : List Value} {q : Nat} {v : Value} (h : q < L.length) : splice (A ++ L ++ B) (A.length + q) [v] = A ++ splice L q [v] ++ B := by
 simp only [splice, List.length_singleton]
 have h1 : (A ++ L ++ B).take (A.length + q) = A ++ L.take q := by
  rw [List.append_assoc, List.take_append, List.take_of_length_le (by omega), Nat.add_sub_cancel_left, List.take_append_of_le_length (by omega)]
 have h2 : (A ++ L ++ B).drop (A.length + q + 1) = L.drop (q + 1) ++ B := by
  rw [List.append_assoc, Nat.add_assoc, List.drop_append, List.drop_eq_nil_of_le (by omega), List.nil_append, Nat.add_sub_cancel_left, List.drop_append_of_le_length (by omega)]
 rw [h1, h2]; simp
theorem mid_get {A L B : List Value} {q : Nat} {v : Value} (h : L[q]? = some v) : (A ++ L ++ B)[A.length + q]? = some v := by
 have hq := (List.getElem?_eq_some_iff.1 h).1
 rw [List.append_assoc, List.getElem?_append_right (by omega), Nat.add_sub_cancel_left, List.getElem?_append_left hq, h]
def bitsW (f : Nat) : List Nat := (List.range 448).filter fun i => f.testBit i
theorem bitsW_take (f k : Nat) (h : k ≤ 448) : (bitsW f).take (((List.range k).filter fun i => f.testBit i).length) = (List.range k).filter fun i => f.testBit i := by
 have e : List.range 448 = List.range k ++ (List.range 448).drop k := by
  have := (List.take_append_drop k (List.range 448)).symm
  rwa [List.take_range, Nat.min_eq_left h] at this
 unfold bitsW
 conv => lhs; rw [e, List.filter_append]
 rw [List.take_left']
 rfl
theorem bitsW_at (f k : Nat) (h : k < 448) (hb : f.testBit k = true) : (bitsW f)[((List.range k).filter fun i => f.testBit i).length]? = some k := by
 have h1 := bitsW_take f (k + 1) (by omega)
 have e : (List.range (k + 1)).filter (fun i => f.testBit i) = (List.range k).filter (fun i => f.testBit i) ++ [k] := by
  rw [List.range_succ, List.filter_append]; simp [hb]
 rw [e] at h1
 have h2 := congrArg (fun l => l[((List.range k).filter fun i => f.testBit i).length]?) h1
 simpa [List.getElem?_take] using h2
theorem bitsW_len (f : Nat) : (bitsW f).length ≤ 448 := by
 unfold bitsW
 exact Nat.le_trans (List.length_filter_le _ _) (by simp)
theorem bitsW_mem {f i : Nat} : i ∈ bitsW f ↔ i < 448 ∧ f.testBit i = true := by simp [bitsW]
theorem bitsW_sorted (f : Nat) : (bitsW f).Pairwise (· < ·) := (List.pairwise_lt_range (n := 448)).filter _
end Go.Rx
namespace Go.Rx
open Go Go.Eng Go.RowKit
structure Pt where
 first : Nat
 last : Nat
 null : Bool
structure Ms where
 sets : List (Int × Int × Int × Int)
 fol : List Nat
def Pt.v (p : Pt) : Value := .agg #[.int .u64 (wdN p.first 0 : Nat), .int .u64 (wdN p.first 1 : Nat), .int .u64 (wdN p.first 2 : Nat), .int .u64 (wdN p.first 3 : Nat), .int .u64 (wdN p.first 4 : Nat), .int .u64 (wdN p.first 5 : Nat), .int .u64 (wdN p.first 6 : Nat), .int .u64 (wdN p.last 0 : Nat), .int .u64 (wdN p.last 1 : Nat), .int .u64 (wdN p.last 2 : Nat), .int .u64 (wdN p.last 3 : Nat), .int .u64 (wdN p.last 4 : Nat), .int .u64 (wdN p.last 5 : Nat), .int .u64 (wdN p.last 6 : Nat), .bool p.null]
def Pt.cs (p : Pt) : List Value := bwL p.first ++ bwL p.last ++ [Value.bool p.null]
theorem Pt.v_cs (p : Pt) : p.v = .agg p.cs.toArray := rfl
def loopF (fol : List Nat) (a b : Nat) : List Nat := fol.mapIdx fun i x => if a.testBit i then x ||| b else x
theorem loopF_len (fol : List Nat) (a b : Nat) : (loopF fol a b).length = fol.length := by simp [loopF]
def thenP (p q : Pt) : Pt := ⟨if p.null then p.first ||| q.first else p.first, if q.null then q.last ||| p.last else q.last, p.null && q.null⟩
def thenM (p q : Pt) (s : Ms) : Pt × Ms := (thenP p q, ⟨s.sets, loopF s.fol p.last q.first⟩)
def altP (p q : Pt) : Pt := ⟨p.first ||| q.first, p.last ||| q.last, p.null || q.null⟩
def repM (f : Ms → Pt × Ms) (mn mx : Int) (n : Nat) : Nat → Nat → Pt → Ms → Pt × Ms
 | 0, _, out, s => (out, s)
 | q + 1, i, out, s =>
  let x := (f s).1
  let s1 := (f s).2
  let s2 : Ms := if mx = -1 ∧ i + 1 = n then ⟨s1.sets, loopF s1.fol x.last x.first⟩ else s1
  let y : Pt := ⟨x.first, x.last, x.null || decide ((i : Int) ≥ mn)⟩
  repM f mn mx n q (i + 1) (thenM out y s2).1 (thenM out y s2).2
def rndN (mn mx : Int) : Nat := (if mx = -1 then max mn 1 else mx).toNat
mutual
def mk : T → Ms → Pt × Ms
 | .node k s0 s1 s2 s3 mn mx _ _ l, s =>
  if k = 0 then (⟨0, 0, false⟩, s)
  else if k = 1 then (⟨0, 0, true⟩, s)
  else if k = 2 then (⟨2 ^ s.sets.length, 2 ^ s.sets.length, false⟩, ⟨s.sets ++ [(s0, s1, s2, s3)], s.fol ++ [0]⟩)
  else if k = 3 then mkCat l ⟨0, 0, true⟩ s
  else if k = 4 then mkAlt l ⟨0, 0, false⟩ s
  else if k = 5 then repM (fun s => mkHd l s) mn mx (rndN mn mx) (rndN mn mx) 0 ⟨0, 0, true⟩ s
  else mkHd l s
def mkHd : List T → Ms → Pt × Ms
 | [], s => (⟨0, 0, false⟩, s)
 | t :: _, s => mk t s
def mkCat : List T → Pt → Ms → Pt × Ms
 | [], out, s => (out, s)
 | t :: l, out, s => mkCat l (thenM out (mk t s).1 (mk t s).2).1 (thenM out (mk t s).1 (mk t s).2).2
def mkAlt : List T → Pt → Ms → Pt × Ms
 | [], out, s => (out, s)
 | t :: l, out, s => mkAlt l (altP out (mk t s).1) (mk t s).2
end
def setCs (l : List (Int × Int × Int × Int)) : List Value := l.flatMap fun q => [.int .u64 q.1, .int .u64 q.2.1, .int .u64 q.2.2.1, .int .u64 q.2.2.2]
def folCs (l : List Nat) : List Value := l.flatMap bwL
theorem setCs_len (l : List (Int × Int × Int × Int)) : (setCs l).length = l.length * 4 := by
 induction l with
 | nil => rfl
 | cons a l ih => simp only [setCs, List.flatMap_cons, List.length_append, List.length_cons, List.length_nil] at *; omega
theorem folCs_len (l : List Nat) : (folCs l).length = l.length * 7 := by
 induction l with
 | nil => rfl
 | cons a l ih => simp only [folCs, List.flatMap_cons, List.length_append, bwL_len, List.length_cons] at *; omega
theorem setCs_app (l l' : List (Int × Int × Int × Int)) : setCs (l ++ l') = setCs l ++ setCs l' := by simp [setCs]
theorem folCs_app (l l' : List Nat) : folCs (l ++ l') = folCs l ++ folCs l' := by simp [folCs]
def Yof (v0 v1 : Value) (b : Nat) : Prop := (Tok.mk v0 4).blk = some b ∨ (Tok.mk v1 7).blk = some b
def RowOk (m : Mem) (v : Value) (k : Nat) (cs : List Value) : Prop := (k = 0 ∧ v = .slice none 0 0) ∨ ∃ b c, v = .slice (some ⟨b, 0, none⟩) k c ∧ m.reads b 0 cs ∧ k ≠ 0
structure MkRow (m : Mem) (v0 v1 : Value) (s : Ms) : Prop where
 row0 : RowOk m v0 s.sets.length (setCs s.sets)
 row1 : RowOk m v1 s.fol.length (folCs s.fol)
 ne : ∀ b, (Tok.mk v0 4).blk = some b → (Tok.mk v1 7).blk ≠ some b
structure MkOk (M0 m : Mem) (v0 v1 : Value) (s : Ms) : Prop extends MkRow m v0 v1 s where
 base : M0.le (m.off (Yof v0 v1))
theorem off_chain {m m' : Mem} {Y Y' : Nat → Prop} (h : (m.off Y).le m') (hn : ∀ b, Y' b → Y b ∨ m.free b) : (m.off Y).le (m'.off Y') := fun b o v hv => by
 unfold Mem.off at hv ⊢
 split at hv
 ·cases hv
 ·rename_i hY
  have : ¬ Y' b := fun h' => by
   rcases hn b h' with h1 | h1
   ·exact hY h1
   ·rw [h1 o] at hv; cases hv
  rw [if_neg this]
  have := h b o v (by unfold Mem.off; rw [if_neg hY]; exact hv)
  exact this
theorem MkOk.next {M0 m m' : Mem} {v0 v1 v0' v1' : Value} {s s' : Ms} (h : MkOk M0 m v0 v1 s) (hle : (m.off (Yof v0 v1)).le m') (hn : ∀ b, Yof v0' v1' b → Yof v0 v1 b ∨ m.free b) (hr : MkRow m' v0' v1' s') : MkOk M0 m' v0' v1' s' :=
 {hr with base := Mem.le_trans h.base (off_chain hle hn) }
theorem MkOk.free {M0 m : Mem} {v0 v1 : Value} {s : Ms} (h : MkOk M0 m v0 v1 s) {b : Nat} (hb : Yof v0 v1 b) : M0.free b := fun o => by
 cases he : M0 b o with
 | none => rfl
 | some u =>
  have := h.base b o u he
  unfold Mem.off at this
  rw [if_pos hb] at this; cases this
theorem MkOk.le {M0 m : Mem} {v0 v1 : Value} {s : Ms} (h : MkOk M0 m v0 v1 s) : M0.le m := Mem.le_trans h.base (Mem.off_le m _)
theorem RowOk.mono {m m' : Mem} {v : Value} {k : Nat} {cs : List Value} (h : RowOk m v k cs) (hm : m.le m') : RowOk m' v k cs := by
 rcases h with h | ⟨b, c, h1, h2, h3⟩
 ·exact .inl h
 ·exact .inr ⟨b, c, h1, h2.mono hm, h3⟩
theorem MkRow.mono {m m' : Mem} {v0 v1 : Value} {s : Ms} (h : MkRow m v0 v1 s) (hm : m.le m') : MkRow m' v0 v1 s := ⟨h.row0.mono hm, h.row1.mono hm, h.ne⟩
theorem folCs_split (l r : List Nat) (f : Nat) : folCs (l ++ f :: r) = folCs l ++ bwL f ++ folCs r := by simp [folCs]
theorem folCs_at {l : List Nat} {i f : Nat} (h : l[i]? = some f) : folCs l = folCs (l.take i) ++ bwL f ++ folCs (l.drop (i + 1)) := by
 obtain ⟨hi, hf⟩ := List.getElem?_eq_some_iff.1 h
 have e : l = l.take i ++ f :: l.drop (i + 1) := by
  conv => lhs; rw [← List.take_append_drop i l]
  rw [List.drop_eq_getElem_cons hi, hf]
 conv => lhs; rw [e]
 exact folCs_split _ _ _
theorem folCs_set {l : List Nat} {i f : Nat} (hi : i < l.length) : folCs (l.set i f) = folCs (l.take i) ++ bwL f ++ folCs (l.drop (i + 1)) := by
 have e : l.set i f = l.take i ++ f :: l.drop (i + 1) := List.set_eq_take_append_cons_drop.trans (if_pos hi)
 rw [e]; exact folCs_split _ _ _
def doneF (fol ds : List Nat) (b : Nat) : List Nat := fol.mapIdx fun i x => if i ∈ ds then x ||| b else x
theorem doneF_nil (fol : List Nat) (b : Nat) : doneF fol [] b = fol := by
 unfold doneF
 apply List.ext_getElem? fun i => ?_
 simp
theorem doneF_get {fol ds : List Nat} {b i x : Nat} (h : fol[i]? = some x) (hi : i ∉ ds) : (doneF fol ds b)[i]? = some x := by
 simp [doneF, h, hi]
theorem doneF_snoc {fol ds : List Nat} {b i x : Nat} (h : fol[i]? = some x) (hi : i ∉ ds) : doneF fol (ds ++ [i]) b = (doneF fol ds b).set i (x ||| b) := by
 apply List.ext_getElem? fun j => ?_
 rw [List.getElem?_set]
 have hlt := (List.getElem?_eq_some_iff.1 h).1
 by_cases e : i = j
 ·subst e
  have hx := (List.getElem?_eq_some_iff.1 h).2
  simp [doneF, hlt, hx]
 ·rw [if_neg e]
  have : j ≠ i := fun h => e h.symm
  simp [doneF, this]
theorem doneF_all {fol ds : List Nat} {a b : Nat} (h : ∀ i, i < fol.length → (i ∈ ds ↔ a.testBit i = true)) : doneF fol ds b = loopF fol a b := by
 unfold doneF loopF
 apply List.ext_getElem? fun j => ?_
 rw [List.getElem?_mapIdx, List.getElem?_mapIdx]
 cases hj : fol[j]? with
 | none => rfl
 | some x =>
  have := h j (List.getElem?_eq_some_iff.1 hj).1
  simp only [Option.map_some, Option.some.injEq]
  by_cases hd : j ∈ ds
  ·rw [if_pos hd, if_pos (this.1 hd)]
  ·rw [if_neg hd, if_neg (fun h => hd (this.2 h))]
end Go.Rx
namespace Go.Rx
open Go Go.Eng Go.RowKit
def PtIn (n : Nat) (p : Pt) : Prop := (∀ i, p.first.testBit i = true → i < n) ∧ (∀ i, p.last.testBit i = true → i < n)
structure MsOk (s : Ms) : Prop where
 len : s.fol.length = s.sets.length
 fol : ∀ (j x : Nat), s.fol[j]? = some x → ∀ i, x.testBit i = true → i < s.sets.length
theorem PtIn.mono {n n' : Nat} {p : Pt} (h : PtIn n p) (hn : n ≤ n') : PtIn n' p := ⟨fun i hi => Nat.lt_of_lt_of_le (h.1 i hi) hn, fun i hi => Nat.lt_of_lt_of_le (h.2 i hi) hn⟩
theorem ptIn_zero (n : Nat) (b : Bool) : PtIn n ⟨0, 0, b⟩ := ⟨fun i hi => by simp at hi, fun i hi => by simp at hi⟩
theorem bit_or {a b i : Nat} (h : (a ||| b).testBit i = true) : a.testBit i = true ∨ b.testBit i = true := by
 simpa [Nat.testBit_or] using h
theorem MsOk.loop {s : Ms} (h : MsOk s) (a b : Nat) (hb : ∀ i, b.testBit i = true → i < s.sets.length) : MsOk ⟨s.sets, loopF s.fol a b⟩ := by
 refine ⟨by simp [loopF, h.len], fun j x hj i hi => ?_⟩
 simp only [loopF, List.getElem?_mapIdx] at hj
 obtain ⟨y, hy, rfl⟩ := Option.map_eq_some_iff.1 hj
 by_cases hab : a.testBit j = true
 ·rw [if_pos hab] at hi
  rcases bit_or hi with h1 | h1
  ·exact h.fol j y hy i h1
  ·exact hb i h1
 ·rw [if_neg hab] at hi
  exact h.fol j y hy i hi
theorem thenP_in {n : Nat} {p q : Pt} (hp : PtIn n p) (hq : PtIn n q) : PtIn n (thenP p q) := by
 obtain ⟨pf, pl, pn⟩ := p
 obtain ⟨qf, ql, qn⟩ := q
 constructor
 ·intro i hi
  cases pn
  ·exact hp.1 i hi
  ·rcases bit_or hi with h | h
   ·exact hp.1 i h
   ·exact hq.1 i h
 ·intro i hi
  cases qn
  ·exact hq.2 i hi
  ·rcases bit_or hi with h | h
   ·exact hq.2 i h
   ·exact hp.2 i h
theorem altP_in {n : Nat} {p q : Pt} (hp : PtIn n p) (hq : PtIn n q) : PtIn n (altP p q) :=
 ⟨fun i hi => (bit_or hi).elim (hp.1 i) (hq.1 i), fun i hi => (bit_or hi).elim (hp.2 i) (hq.2 i)⟩
structure Grows (s : Ms) (r : Pt × Ms) : Prop where
 le : s.sets.length ≤ r.2.sets.length
 ok : MsOk r.2
 pt : PtIn r.2.sets.length r.1
theorem thenM_grows {p q : Pt} {s : Ms} (h : MsOk s) (hp : PtIn s.sets.length p) (hq : PtIn s.sets.length q) : Grows s (thenM p q s) :=
 ⟨Nat.le_refl _, h.loop _ _ hq.1, thenP_in hp hq⟩
theorem Grows.trans {s s1 : Ms} {p : Pt} {r : Pt × Ms} (h : Grows s (p, s1)) (k : Grows s1 r) : Grows s r := ⟨Nat.le_trans h.le k.le, k.ok, k.pt⟩
theorem repM_grows {f : Ms → Pt × Ms} (hf : ∀ s, MsOk s → Grows s (f s)) (mn mx : Int) (n : Nat) : ∀ (q i : Nat) (out : Pt) (s : Ms), MsOk s → PtIn s.sets.length out → Grows s (repM f mn mx n q i out s)
 | 0, i, out, s, h, hp => ⟨Nat.le_refl _, h, hp⟩
 | q + 1, i, out, s, h, hp => by
  unfold repM
  have h1 := hf s h
  simp only
  generalize hs2 : (if mx = -1 ∧ i + 1 = n then (⟨(f s).2.sets, loopF (f s).2.fol (f s).1.last (f s).1.first⟩ : Ms) else (f s).2) = s2
  have e : s2.sets = (f s).2.sets := by rw [← hs2]; split <;> rfl
  have h2 : MsOk s2 := by
   rw [← hs2]; split
   ·exact h1.ok.loop _ _ h1.pt.1
   ·exact h1.ok
  have hle : s.sets.length ≤ s2.sets.length := by rw [e]; exact h1.le
  have h3 : Grows s2 (thenM out ⟨(f s).1.first, (f s).1.last, (f s).1.null || decide ((i : Int) ≥ mn)⟩ s2) := thenM_grows h2 (hp.mono hle) (by rw [e]; exact h1.pt)
  have h4 := repM_grows hf mn mx n q (i + 1) _ _ h3.ok h3.pt
  exact ⟨Nat.le_trans hle (Nat.le_trans h3.le h4.le), h4.ok, h4.pt⟩
theorem pow_in {n i : Nat} (h : (2 ^ n).testBit i = true) : i = n := by
 rw [Nat.testBit_two_pow] at h; exact (of_decide_eq_true h).symm
theorem one_grows {s : Ms} (h : MsOk s) (q : Int × Int × Int × Int) : Grows s (⟨2 ^ s.sets.length, 2 ^ s.sets.length, false⟩, ⟨s.sets ++ [q], s.fol ++ [0]⟩) := by
 refine ⟨by simp, ⟨by simp [h.len], fun j x hj i hi => ?_⟩, ?_, ?_⟩
 ·rw [List.getElem?_append] at hj
  split at hj
  ·have := h.fol j x hj i hi
   simp; omega
  ·have := (List.getElem?_eq_some_iff.1 hj)
   obtain ⟨_, h2⟩ := this
   have : x = 0 := by
    rw [List.getElem_singleton] at h2; exact h2.symm
   subst this; simp at hi
 ·intro i hi; have := pow_in hi; simp; omega
 ·intro i hi; have := pow_in hi; simp; omega
mutual
theorem mk_grows : ∀ (t : T) (s : Ms), MsOk s → Grows s (mk t s)
 | .node k s0 s1 s2 s3 mn mx a c l, s, h => by
  unfold mk
  split
  ·exact ⟨Nat.le_refl _, h, ptIn_zero _ _⟩
  split
  ·exact ⟨Nat.le_refl _, h, ptIn_zero _ _⟩
  split
  ·exact one_grows h _
  split
  ·exact mkCat_grows l _ s h (ptIn_zero _ _)
  split
  ·exact mkAlt_grows l _ s h (ptIn_zero _ _)
  split
  ·exact repM_grows (fun s h => mkHd_grows l s h) _ _ _ _ _ _ _ h (ptIn_zero _ _)
  ·exact mkHd_grows l s h
theorem mkHd_grows : ∀ (l : List T) (s : Ms), MsOk s → Grows s (mkHd l s)
 | [], s, h => by unfold mkHd; exact ⟨Nat.le_refl _, h, ptIn_zero _ _⟩
 | t :: l, s, h => by unfold mkHd; exact mk_grows t s h
theorem mkCat_grows : ∀ (l : List T) (out : Pt) (s : Ms), MsOk s → PtIn s.sets.length out → Grows s (mkCat l out s)
 | [], out, s, h, hp => by unfold mkCat; exact ⟨Nat.le_refl _, h, hp⟩
 | t :: l, out, s, h, hp => by
  unfold mkCat
  have h1 := mk_grows t s h
  have h2 := thenM_grows h1.ok (hp.mono h1.le) h1.pt
  have h3 := mkCat_grows l _ _ h2.ok h2.pt
  exact ⟨Nat.le_trans h1.le (Nat.le_trans h2.le h3.le), h3.ok, h3.pt⟩
theorem mkAlt_grows : ∀ (l : List T) (out : Pt) (s : Ms), MsOk s → PtIn s.sets.length out → Grows s (mkAlt l out s)
 | [], out, s, h, hp => by unfold mkAlt; exact ⟨Nat.le_refl _, h, hp⟩
 | t :: l, out, s, h, hp => by
  unfold mkAlt
  have h1 := mk_grows t s h
  have h3 := mkAlt_grows l _ _ h1.ok (altP_in (hp.mono h1.le) h1.pt)
  exact ⟨Nat.le_trans h1.le h3.le, h3.ok, h3.pt⟩
end
theorem mk_eq (t : T) (s : Ms) : mk t s = (if t.k = 0 then (⟨0, 0, false⟩, s)
  else if t.k = 1 then (⟨0, 0, true⟩, s)
  else if t.k = 2 then (⟨2 ^ s.sets.length, 2 ^ s.sets.length, false⟩, ⟨s.sets ++ [(t.s0, t.s1, t.s2, t.s3)], s.fol ++ [0]⟩)
  else if t.k = 3 then mkCat t.subs ⟨0, 0, true⟩ s
  else if t.k = 4 then mkAlt t.subs ⟨0, 0, false⟩ s
  else if t.k = 5 then repM (fun s => mkHd t.subs s) t.mn t.mx (rndN t.mn t.mx) (rndN t.mn t.mx) 0 ⟨0, 0, true⟩ s
  else mkHd t.subs s) := by
 cases t; rw [mk]; rfl
theorem mkCat_drop {l : List T} {k : Nat} {t : T} (h : l[k]? = some t) (out : Pt) (s : Ms) : mkCat (l.drop k) out s = mkCat (l.drop (k + 1)) (thenM out (mk t s).1 (mk t s).2).1 (thenM out (mk t s).1 (mk t s).2).2 := by
 obtain ⟨hk, he⟩ := List.getElem?_eq_some_iff.1 h
 rw [List.drop_eq_getElem_cons hk, he, mkCat]
theorem mkAlt_drop {l : List T} {k : Nat} {t : T} (h : l[k]? = some t) (out : Pt) (s : Ms) : mkAlt (l.drop k) out s = mkAlt (l.drop (k + 1)) (altP out (mk t s).1) (mk t s).2 := by
 obtain ⟨hk, he⟩ := List.getElem?_eq_some_iff.1 h
 rw [List.drop_eq_getElem_cons hk, he, mkAlt]
theorem repM_count {f : Ms → Pt × Ms} {c : Nat} (hf : ∀ s, (f s).2.sets.length = s.sets.length + c) (mn mx : Int) (n : Nat) : ∀ (q i : Nat) (out : Pt) (s : Ms), (repM f mn mx n q i out s).2.sets.length = s.sets.length + q * c
 | 0, i, out, s => by simp [repM]
 | q + 1, i, out, s => by
  unfold repM
  simp only
  rw [repM_count hf]
  have h2 : (if mx = -1 ∧ i + 1 = n then (⟨(f s).2.sets, loopF (f s).2.fol (f s).1.last (f s).1.first⟩ : Ms) else (f s).2).sets.length = s.sets.length + c := by
   split <;> exact hf s
  show (Ms.sets _).length + _ = _
  simp only [thenM]
  rw [h2, Nat.add_mul]; omega
theorem imin_lt {x : Int} (h : imin x 10001 ≤ 10000) : imin x 10001 = x ∧ x ≤ 10000 := by
 unfold imin at *
 split at h
 ·omega
 ·rename_i h2; exact ⟨if_neg h2, h⟩
theorem rndN_pos {mn mx : Int} (h : bounds mn mx = true) : imin (if mx = -1 then imax (imax mn 0) 1 else imax (imax mn 0) mx) 10001 = (rndN mn mx : Nat) ∧ 1 ≤ rndN mn mx := by
 unfold bounds at h
 simp only [Bool.and_eq_true, Bool.not_eq_true', Bool.or_eq_false_iff, Bool.or_eq_true, decide_eq_false_iff_not, decide_eq_true_eq, beq_iff_eq] at h
 unfold rndN imin imax
 by_cases hm : mx = -1
 ·simp only [hm, if_true]
  split <;> split <;> split <;> omega
 ·simp only [hm, if_false]
  split <;> split <;> split <;> omega
theorem right_kinds {t : T} (h : t.right = true) : (t.k = 1 ∧ t.subs = []) ∨ (t.k = 2 ∧ t.subs = [] ∧ t.setZ = false) ∨ t.k = 3 ∨ t.k = 4 ∨ (t.k = 5 ∧ t.subs.length = 1 ∧ bounds t.mn t.mx = true) ∨ (t.k = 6 ∧ t.subs.length = 1) := by
 unfold T.right at h
 rw [Bool.and_eq_true] at h
 obtain ⟨h0, h2⟩ := h
 simp only [Bool.not_eq_true', Bool.or_eq_false_iff, Bool.and_eq_false_iff, decide_eq_false_iff_not] at h0
 have hz : t.k < 3 → t.subs = [] := fun hk => by
  have h1 := h0.2.2
  rcases h1 with h1 | h1
  ·omega
  ·cases hs : t.subs with
   | nil => rfl
   | cons a l => rw [hs] at h1; simp at h1
 by_cases h1 : t.k = 1; · exact .inl ⟨h1, hz (by omega)⟩
 by_cases h3 : t.k = 2
 ·rw [if_neg h1, if_pos h3] at h2
  exact .inr (.inl ⟨h3, hz (by omega), by simpa using h2⟩)
 by_cases h4 : t.k = 3; · exact .inr (.inr (.inl h4))
 by_cases h5 : t.k = 4; · exact .inr (.inr (.inr (.inl h5)))
 by_cases h6 : t.k = 5
 ·rw [if_neg h1, if_neg h3, if_neg h4, if_neg h5, if_pos h6] at h2
  simp only [Bool.and_eq_true, beq_iff_eq] at h2
  exact .inr (.inr (.inr (.inr (.inl ⟨h6, h2.1, h2.2.1⟩))))
 ·rw [if_neg h1, if_neg h3, if_neg h4, if_neg h5, if_neg h6] at h2
  simp only [Bool.and_eq_true, beq_iff_eq] at h2
  exact .inr (.inr (.inr (.inr (.inr h2))))
mutual
theorem mk_count : ∀ (t : T), (∀ x ∈ t.nodes, x.right = true) → t.pos ≤ 10000 → ∀ s : Ms, (mk t s).2.sets.length = s.sets.length + t.pos.toNat
 | .node k s0 s1 s2 s3 mn mx a c l, hall, hp, s => by
  have hr := right_kinds (hall (.node k s0 s1 s2 s3 mn mx a c l) (by simp [T.nodes]))
  have hl : ∀ x ∈ nodesL l, x.right = true := fun x hx => hall x (by simp [T.nodes, hx])
  simp only [T.k, T.subs, T.mn, T.mx] at hr
  have hnn := posL_nn l
  simp only [T.pos, posR] at hp ⊢
  rw [mk]
  rcases hr with ⟨hk, hs⟩ | ⟨hk, hs, _⟩ | hk | hk | ⟨hk, h1, hb⟩ | ⟨hk, h1⟩
  ·subst hk hs; simp [posL, imin]
  ·subst hk hs; simp [posL, imin]
  ·subst hk
   have hq := imin_lt hp
   rw [hq.1]
   simp only [show ¬ (3 : Int) = 0 by omega, show ¬ (3 : Int) = 1 by omega, show ¬ (3 : Int) = 2 by omega, show ¬ (3 : Int) = 5 by omega, if_false, if_true, Int.zero_add] at hq ⊢
   exact mkCat_count l hl (by omega) _ s
  ·subst hk
   have hq := imin_lt hp
   rw [hq.1]
   simp only [show ¬ (4 : Int) = 0 by omega, show ¬ (4 : Int) = 1 by omega, show ¬ (4 : Int) = 2 by omega, show ¬ (4 : Int) = 3 by omega, show ¬ (4 : Int) = 5 by omega, if_false, if_true, Int.zero_add] at hq ⊢
   exact mkAlt_count l hl (by omega) _ s
  ·subst hk
   have hq := imin_lt hp
   rw [hq.1]
   obtain ⟨hF, hF1⟩ := rndN_pos hb
   simp only [show ¬ (5 : Int) = 0 by omega, show ¬ (5 : Int) = 1 by omega, show ¬ (5 : Int) = 2 by omega, show ¬ (5 : Int) = 3 by omega, show ¬ (5 : Int) = 4 by omega, if_false, if_true, Int.zero_add, hF] at hq ⊢
   have hle : posL l ≤ 10000 := by
    have h2 : posL l * 1 ≤ posL l * (rndN mn mx : Nat) := Int.mul_le_mul_of_nonneg_left (by omega) hnn
    omega
   have hf := fun s => mkHd_count l h1 hl hle s
   rw [repM_count hf]
   obtain ⟨z, hz⟩ : ∃ z : Nat, posL l = z := ⟨(posL l).toNat, by omega⟩
   rw [hz, Int.toNat_natCast, ← Int.natCast_mul, Int.toNat_natCast, Nat.mul_comm]
  ·subst hk
   have hq := imin_lt hp
   rw [hq.1]
   simp only [show ¬ (6 : Int) = 0 by omega, show ¬ (6 : Int) = 1 by omega, show ¬ (6 : Int) = 2 by omega, show ¬ (6 : Int) = 3 by omega, show ¬ (6 : Int) = 4 by omega, show ¬ (6 : Int) = 5 by omega, if_false, if_true, Int.zero_add] at hq ⊢
   exact mkHd_count l h1 hl (by omega) s
theorem mkHd_count : ∀ (l : List T), l.length = 1 → (∀ x ∈ nodesL l, x.right = true) → posL l ≤ 10000 → ∀ s : Ms, (mkHd l s).2.sets.length = s.sets.length + (posL l).toNat
 | [], h, _, _, _ => by simp at h
 | [t], _, hall, hp, s => by
  simp only [mkHd, posL, Int.add_zero] at hp ⊢
  exact mk_count t (fun x hx => hall x (by simp [nodesL, hx])) hp s
 | _ :: _ :: _, h, _, _, _ => by simp at h
theorem mkCat_count : ∀ (l : List T), (∀ x ∈ nodesL l, x.right = true) → posL l ≤ 10000 → ∀ (out : Pt) (s : Ms), (mkCat l out s).2.sets.length = s.sets.length + (posL l).toNat
 | [], _, _, out, s => by simp [mkCat, posL]
 | t :: l, hall, hp, out, s => by
  have h1 := pos_bd t
  have h2 := posL_nn l
  simp only [mkCat, posL] at hp ⊢
  rw [mkCat_count l (fun x hx => hall x (by simp [nodesL, hx])) (by omega)]
  show (mk t s).2.sets.length + _ = _
  rw [mk_count t (fun x hx => hall x (by simp [nodesL, hx])) (by omega) s]
  omega
theorem mkAlt_count : ∀ (l : List T), (∀ x ∈ nodesL l, x.right = true) → posL l ≤ 10000 → ∀ (out : Pt) (s : Ms), (mkAlt l out s).2.sets.length = s.sets.length + (posL l).toNat
 | [], _, _, out, s => by simp [mkAlt, posL]
 | t :: l, hall, hp, out, s => by
  have h1 := pos_bd t
  have h2 := posL_nn l
  simp only [mkAlt, posL] at hp ⊢
  rw [mkAlt_count l (fun x hx => hall x (by simp [nodesL, hx])) (by omega)]
  rw [mk_count t (fun x hx => hall x (by simp [nodesL, hx])) (by omega) s]
  omega
end
end Go.Rx
namespace Go.Rx
open Go Go.Eng Go.RowKit
abbrev QS := Int × Int × Int × Int
structure Nf where
 sets : List QS
 fol : List (List Int)
 first : List Int
 last : List Int
 empty : Bool
deriving DecidableEq
def intVs (l : List Int) : List Value := l.map fun i => .int .i64 i
theorem intVs_len (l : List Int) : (intVs l).length = l.length := by simp [intVs]
def SlI (st : Bool) (l : List Int) (v : Value) (m : Mem) : Prop := ∃ a c, v = .slice a l.length c ∧ rowRd m a (intVs l) ∧ l.length ≤ 1000000 ∧ (st = true → l = [] → a = none)
def SlQ (st : Bool) (l : List QS) (v : Value) (m : Mem) : Prop := ∃ a c, v = .slice a l.length c ∧ rowRd m a (setCs l) ∧ l.length ≤ 1000000 ∧ (st = true → l = [] → a = none)
def FolR (st : Bool) (fol : List (List Int)) (v : Value) (m : Mem) : Prop := ∃ a c vs, v = .slice a fol.length c ∧ rowRd m a vs ∧ vs.length = fol.length ∧ fol.length ≤ 1000000 ∧ ∀ (i : Nat) (v : Value) (l : List Int), vs[i]? = some v → fol[i]? = some l → SlI st l v m
def NfR (st : Bool) (A : Nf) (v : Value) (m : Mem) : Prop := ∃ s f x y, v = .agg #[s, f, x, y, .bool A.empty] ∧ SlQ st A.sets s m ∧ FolR st A.fol f m ∧ SlI st A.first x m ∧ SlI st A.last y m
theorem SlI.mono {st : Bool} {l : List Int} {v : Value} {m m' : Mem} (h : SlI st l v m) (k : m.le m') : SlI st l v m' := by
 obtain ⟨a, c, h1, h2, h3⟩ := h; exact ⟨a, c, h1, h2.mono k, h3⟩
theorem SlQ.mono {st : Bool} {l : List QS} {v : Value} {m m' : Mem} (h : SlQ st l v m) (k : m.le m') : SlQ st l v m' := by
 obtain ⟨a, c, h1, h2, h3⟩ := h; exact ⟨a, c, h1, h2.mono k, h3⟩
theorem FolR.mono {st : Bool} {l : List (List Int)} {v : Value} {m m' : Mem} (h : FolR st l v m) (k : m.le m') : FolR st l v m' := by
 obtain ⟨a, c, vs, h1, h2, h3, h4, h5⟩ := h; exact ⟨a, c, vs, h1, h2.mono k, h3, h4, fun i v l hv hl => (h5 i v l hv hl).mono k⟩
theorem NfR.mono {st : Bool} {A : Nf} {v : Value} {m m' : Mem} (h : NfR st A v m) (k : m.le m') : NfR st A v m' := by
 obtain ⟨s, f, x, y, h1, h2, h3, h4, h5⟩ := h; exact ⟨s, f, x, y, h1, h2.mono k, h3.mono k, h4.mono k, h5.mono k⟩
theorem rowI_get {m : Mem} {a : Option Addr} {l : List Int} (h : rowRd m a (intVs l)) {i : Nat} {x : Int} (hx : l[i]? = some x) : ∃ b o, a = some ⟨b, o, none⟩ ∧ m b (o + i * 1) = some (.int .i64 x) := by
 have hv : (intVs l)[i]? = some (.int .i64 x) := by simp [intVs, hx]
 rcases h with h | ⟨b, o, h1, h2⟩
 ·rw [h] at hv; simp at hv
 ·exact ⟨b, o, h1, by have := h2 i _ hv; rwa [Nat.mul_one]⟩
theorem row1_get {m : Mem} {a : Option Addr} {l : List Value} (h : rowRd m a l) {i : Nat} {x : Value} (hx : l[i]? = some x) : ∃ b o, a = some ⟨b, o, none⟩ ∧ m b (o + i * 1) = some x := by
 rcases h with h | ⟨b, o, h1, h2⟩
 ·rw [h] at hx; simp at hx
 ·exact ⟨b, o, h1, by have := h2 i _ hx; rwa [Nat.mul_one]⟩
def qCs (q : QS) : List Value := [.int .u64 q.1, .int .u64 q.2.1, .int .u64 q.2.2.1, .int .u64 q.2.2.2]
theorem setCs_at {l : List QS} {i : Nat} {q : QS} (h : l[i]? = some q) {j : Nat} {v : Value} (hv : (qCs q)[j]? = some v) : (setCs l)[i * 4 + j]? = some v := by
 have hj : j < 4 := by have := (List.getElem?_eq_some_iff.1 hv).1; simpa [qCs] using this
 induction l generalizing i with
 | nil => simp at h
 | cons a l ih =>
  show (qCs a ++ setCs l)[i * 4 + j]? = some v
  cases i with
  | zero =>
   simp at h; subst h
   rw [Nat.zero_mul, Nat.zero_add, List.getElem?_append_left (by simpa [qCs] using hj)]; exact hv
  | succ i =>
   rw [List.getElem?_append_right (by simp [qCs]; omega)]
   have := ih (by simpa using h)
   rw [show (i + 1) * 4 + j - (qCs a).length = i * 4 + j by simp [qCs]; omega]; exact this
theorem rowQ_get {m : Mem} {a : Option Addr} {l : List QS} (h : rowRd m a (setCs l)) {i : Nat} {x : QS} (hx : l[i]? = some x) : ∃ b o, a = some ⟨b, o, none⟩ ∧ m.reads b (o + i * 4) [.int .u64 x.1, .int .u64 x.2.1, .int .u64 x.2.2.1, .int .u64 x.2.2.2] := by
 rcases h with h | ⟨b, o, h1, h2⟩
 ·have := setCs_at hx (j := 0) (v := .int .u64 x.1) rfl
  rw [h] at this; simp at this
 ·refine ⟨b, o, h1, fun j v hv => ?_⟩
  have := h2 _ _ (setCs_at hx hv)
  rwa [← Nat.add_assoc] at this
def riseF : List Int → Int → Int → Bool
 | [], _, _ => true
 | p :: l, lo, hi => decide (lo < p) && (decide (p ≤ hi) && riseF l p hi)
def zQ : QS := (0, 0, 0, 0)
def Nf.top (A : Nf) : Int := (A.sets.length : Int) - 1
def Nf.right (A : Nf) : Bool :=
 decide (A.sets.length ≤ 400) && (decide (A.fol.length = A.sets.length) && (riseF A.first (-1) A.top && (riseF A.last (-1) A.top && ((A.fol.zip A.sets).all fun p => riseF p.1 (-1) A.top && !(p.2 == zQ)))))
theorem riseF_iff {l : List Int} : ∀ {lo hi : Int}, riseF l lo hi = true ↔ (l.Pairwise (· < ·) ∧ ∀ x ∈ l, lo < x ∧ x ≤ hi) := by
 induction l with
 | nil => intro lo hi; simp [riseF]
 | cons p l ih =>
  intro lo hi
  simp only [riseF, Bool.and_eq_true, decide_eq_true_eq, ih, List.pairwise_cons, List.mem_cons, forall_eq_or_imp]
  constructor
  ·rintro ⟨h1, h2, h3, h4⟩
   exact ⟨⟨fun x hx => (h4 x hx).1, h3⟩, ⟨h1, h2⟩, fun x hx => ⟨Int.lt_trans h1 (h4 x hx).1, (h4 x hx).2⟩⟩
  ·rintro ⟨⟨h1, h2⟩, ⟨h3, h4⟩, h5⟩
   exact ⟨h3, h4, h2, fun x hx => ⟨h1 x hx, (h5 x hx).2⟩⟩
def bitsI (f : Nat) : List Int := (bitsW f).map fun i : Nat => (i : Int)
theorem bitsI_mem {f : Nat} {x : Int} : x ∈ bitsI f ↔ ∃ i : Nat, i < 448 ∧ f.testBit i = true ∧ x = i := by
 simp only [bitsI, List.mem_map, bitsW_mem]
 constructor
 ·rintro ⟨i, ⟨h1, h2⟩, rfl⟩; exact ⟨i, h1, h2, rfl⟩
 ·rintro ⟨i, h1, h2, rfl⟩; exact ⟨i, ⟨h1, h2⟩, rfl⟩
theorem bitsI_sorted (f : Nat) : (bitsI f).Pairwise (· < ·) := by
 unfold bitsI
 rw [List.pairwise_map]
 exact (bitsW_sorted f).imp (by intro a b h; omega)
theorem bitsI_len (f : Nat) : (bitsI f).length ≤ 448 := by simp [bitsI, bitsW_len]
theorem bitsI_rise {f n : Nat} (hn : n ≤ 448) (h : ∀ i, f.testBit i = true → i < n) : riseF (bitsI f) (-1) ((n : Int) - 1) = true := by
 rw [riseF_iff]
 refine ⟨bitsI_sorted f, fun x hx => ?_⟩
 obtain ⟨i, h1, h2, rfl⟩ := bitsI_mem.1 hx
 have := h i h2; omega
theorem sortedI_ext {l r : List Int} (hl : l.Pairwise (· < ·)) (hr : r.Pairwise (· < ·)) (h : ∀ x, x ∈ l ↔ x ∈ r) : l = r := by
 induction l generalizing r with
 | nil =>
  cases r with
  | nil => rfl
  | cons a r => have := (h a).2 (by simp); simp at this
 | cons a l ih =>
  cases r with
  | nil => have := (h a).1 (by simp); simp at this
  | cons b r =>
   rw [List.pairwise_cons] at hl hr
   have e : a = b := by
    have h1 := (h a).1 (by simp)
    have h2 := (h b).2 (by simp)
    rcases List.mem_cons.1 h1 with h1 | h1
    ·exact h1
    ·rcases List.mem_cons.1 h2 with h2 | h2
     ·exact h2.symm
     ·have := hr.1 _ h1; have := hl.1 _ h2; omega
   subst e
   congr 1
   refine ih hl.2 hr.2 fun x => ?_
   constructor
   ·intro hx
    rcases List.mem_cons.1 ((h x).1 (by simp [hx])) with h1 | h1
    ·have := hl.1 _ hx; omega
    ·exact h1
   ·intro hx
    rcases List.mem_cons.1 ((h x).2 (by simp [hx])) with h1 | h1
    ·have := hr.1 _ hx; omega
    ·exact h1
def autoOf (r : Pt × Ms) : Nf := ⟨r.2.sets, r.2.fol.map bitsI, bitsI r.1.first, bitsI r.1.last, r.1.null⟩
def T.auto (t : T) : Nf := autoOf (mk t ⟨[], []⟩)
def T.nfit (t : T) : Bool := t.clean && (decide (t.size ≤ 120) && decide (t.positions ≤ 400))
def nf0 : Nf := ⟨[], [], [], [], false⟩
def T.ofN (t : T) : Nf := if t.isNone then nf0 else if t.nfit then t.auto else nf0
def T.ofE (t : T) : Int := if t.isNone then 0 else if t.nfit then 0 else 170
end Go.Rx
namespace Go.Rx
open Go Go.Eng Go.RowKit
def pushP (p : Nat) (cur : List (List Int)) (q : Int) : List (List Int) := cur.modify q.toNat (fun l => l ++ [(p : Int)])
def turnRow (p : Nat) (cur : List (List Int)) (l : List Int) : List (List Int) := l.foldl (pushP p) cur
def turnRows : List (List Int) → Nat → List (List Int) → List (List Int)
 | [], _, cur => cur
 | l :: r, p, cur => turnRows r (p + 1) (turnRow p cur l)
def turnF (fol : List (List Int)) : List (List Int) := turnRows fol 0 (List.replicate fol.length [])
def Nf.turn (A : Nf) : Nf := ⟨A.sets, turnF A.fol, A.last, A.first, A.empty⟩
theorem pushP_len (p : Nat) (cur : List (List Int)) (q : Int) : (pushP p cur q).length = cur.length := by simp [pushP]
theorem pushP_get {p : Nat} {cur : List (List Int)} {q : Int} {i : Nat} {l : List Int} (h : cur[i]? = some l) : (pushP p cur q)[i]? = some (if q.toNat = i then l ++ [(p : Int)] else l) := by
 unfold pushP
 rw [List.getElem?_modify, h]
 split <;> rfl
theorem turnRow_len (p : Nat) (l : List Int) : ∀ cur : List (List Int), (turnRow p cur l).length = cur.length := by
 induction l with
 | nil => intro cur; rfl
 | cons q l ih => intro cur; show (turnRow p (pushP p cur q) l).length = _; rw [ih, pushP_len]
theorem turnRows_len : ∀ (r : List (List Int)) (p : Nat) (cur : List (List Int)), (turnRows r p cur).length = cur.length
 | [], p, cur => rfl
 | l :: r, p, cur => by rw [turnRows, turnRows_len, turnRow_len]
theorem turnF_len (fol : List (List Int)) : (turnF fol).length = fol.length := by simp [turnF, turnRows_len]
theorem turnRow_get {p i : Nat} : ∀ {l : List Int}, l.Pairwise (· < ·) → (∀ x ∈ l, 0 ≤ x) → ∀ {cur : List (List Int)} {c : List Int}, cur[i]? = some c → (turnRow p cur l)[i]? = some (c ++ if (i : Int) ∈ l then [(p : Int)] else [])
 | [], _, _, cur, c, h => by simp [turnRow, h]
 | q :: l, hl, hn, cur, c, h => by
  rw [List.pairwise_cons] at hl
  show (turnRow p (pushP p cur q) l)[i]? = _
  rw [turnRow_get hl.2 (fun x hx => hn x (by simp [hx])) (pushP_get h)]
  have hq := hn q (by simp)
  by_cases hqi : q.toNat = i
  ·have : (i : Int) = q := by omega
   have hni : (i : Int) ∉ l := fun hm => by have := hl.1 _ hm; omega
   rw [if_pos hqi, if_neg hni, if_pos (by simp [this]), List.append_nil]
  ·have : ¬ (i : Int) = q := by omega
   rw [if_neg hqi]
   simp [this]
theorem turnRows_get {i : Nat} : ∀ {r : List (List Int)} {p : Nat}, (∀ l ∈ r, l.Pairwise (· < ·) ∧ ∀ x ∈ l, 0 ≤ x) → ∀ {cur : List (List Int)} {c : List Int}, cur[i]? = some c → (turnRows r p cur)[i]? = some (c ++ (((List.range r.length).filter fun k => decide ((i : Int) ∈ (r[k]?).getD [])).map fun k : Nat => ((p + k : Nat) : Int)))
 | [], p, _, cur, c, h => by simp [turnRows, h]
 | l :: r, p, hr, cur, c, h => by
  have h1 := hr l (by simp)
  rw [turnRows, turnRows_get (fun l hl => hr l (by simp [hl])) (turnRow_get h1.1 h1.2 h), List.length_cons, List.range_succ_eq_map, List.filter_cons, List.append_assoc]
  congr 2
  have e : (List.map Nat.succ (List.range r.length)).filter (fun k => decide ((i : Int) ∈ ((l :: r)[k]?).getD [])) = ((List.range r.length).filter fun k => decide ((i : Int) ∈ (r[k]?).getD [])).map Nat.succ := by
   rw [List.filter_map]; rfl
  rw [e]
  have e2 : (((List.range r.length).filter fun k => decide ((i : Int) ∈ (r[k]?).getD [])).map Nat.succ).map (fun k : Nat => ((p + k : Nat) : Int)) = ((List.range r.length).filter fun k => decide ((i : Int) ∈ (r[k]?).getD [])).map fun k : Nat => ((p + 1 + k : Nat) : Int) := by
   rw [List.map_map]; apply List.map_congr_left; intro k _; simp; omega
  by_cases hi : (i : Int) ∈ l
  ·rw [if_pos hi, if_pos (by simp [hi]), List.map_cons, e2]; simp
  ·rw [if_neg hi, if_neg (by simp [hi]), e2]; simp
theorem turnF_get {fol : List (List Int)} {i : Nat} (hi : i < fol.length) (hr : ∀ l ∈ fol, l.Pairwise (· < ·) ∧ ∀ x ∈ l, 0 ≤ x) : (turnF fol)[i]? = some (((List.range fol.length).filter fun k => decide ((i : Int) ∈ (fol[k]?).getD [])).map fun k : Nat => (k : Int)) := by
 unfold turnF
 rw [turnRows_get hr (c := []) (by simp [hi])]
 simp
theorem turnF_mem {fol : List (List Int)} {i : Nat} {l : List Int} (h : (turnF fol)[i]? = some l) (hr : ∀ l ∈ fol, l.Pairwise (· < ·) ∧ ∀ x ∈ l, 0 ≤ x) {x : Int} : x ∈ l ↔ ∃ (k : Nat) (r : List Int), x = k ∧ fol[k]? = some r ∧ (i : Int) ∈ r := by
 have hi : i < fol.length := by have := (List.getElem?_eq_some_iff.1 h).1; rwa [turnF_len] at this
 rw [turnF_get hi hr] at h
 cases h
 simp only [List.mem_map, List.mem_filter, List.mem_range, decide_eq_true_eq]
 constructor
 ·rintro ⟨k, ⟨h1, h2⟩, rfl⟩
  rw [List.getElem?_eq_getElem h1] at h2
  exact ⟨k, fol[k], rfl, List.getElem?_eq_getElem h1, h2⟩
 ·rintro ⟨k, r, rfl, h1, h2⟩
  exact ⟨k, ⟨(List.getElem?_eq_some_iff.1 h1).1, by rw [h1]; exact h2⟩, rfl⟩
theorem turnF_sorted {fol : List (List Int)} {i : Nat} {l : List Int} (h : (turnF fol)[i]? = some l) (hr : ∀ l ∈ fol, l.Pairwise (· < ·) ∧ ∀ x ∈ l, 0 ≤ x) : l.Pairwise (· < ·) ∧ l.length ≤ fol.length := by
 have hi : i < fol.length := by have := (List.getElem?_eq_some_iff.1 h).1; rwa [turnF_len] at this
 rw [turnF_get hi hr] at h
 cases h
 constructor
 ·rw [List.pairwise_map]
  exact ((List.pairwise_lt_range (n := fol.length)).filter _).imp (by intro a b h; omega)
 ·rw [List.length_map]; exact Nat.le_trans (List.length_filter_le _ _) (by simp)
structure Nf.Ok (A : Nf) : Prop where
 n : A.sets.length ≤ 400
 len : A.fol.length = A.sets.length
 first : A.first.Pairwise (· < ·) ∧ ∀ x ∈ A.first, -1 < x ∧ x ≤ A.top
 last : A.last.Pairwise (· < ·) ∧ ∀ x ∈ A.last, -1 < x ∧ x ≤ A.top
 fol : ∀ l ∈ A.fol, l.Pairwise (· < ·) ∧ ∀ x ∈ l, -1 < x ∧ x ≤ A.top
 sets : ∀ q ∈ A.sets, q ≠ zQ
theorem right_ok {A : Nf} : A.right = true ↔ A.Ok := by
 unfold Nf.right
 simp only [Bool.and_eq_true, decide_eq_true_eq, List.all_eq_true, riseF_iff, Bool.not_eq_true', beq_eq_false_iff_ne]
 constructor
 ·rintro ⟨h1, h2, h3, h4, h5⟩
  refine ⟨h1, h2, h3, h4, fun l hl => ?_, fun q hq => ?_⟩
  ·obtain ⟨i, hi⟩ := List.getElem?_of_mem hl
   have hlt := (List.getElem?_eq_some_iff.1 hi).1
   have : (A.fol.zip A.sets)[i]? = some (l, A.sets[i]'(by omega)) := List.getElem?_zip_eq_some.2 ⟨hi, List.getElem?_eq_getElem (by omega)⟩
   exact (h5 _ (List.mem_of_getElem? this)).1
  ·obtain ⟨i, hi⟩ := List.getElem?_of_mem hq
   have hlt := (List.getElem?_eq_some_iff.1 hi).1
   have : (A.fol.zip A.sets)[i]? = some (A.fol[i]'(by omega), q) := List.getElem?_zip_eq_some.2 ⟨List.getElem?_eq_getElem (by omega), hi⟩
   exact (h5 _ (List.mem_of_getElem? this)).2
 ·rintro ⟨h1, h2, h3, h4, h5, h6⟩
  refine ⟨h1, h2, h3, h4, fun p hp => ?_⟩
  obtain ⟨l, q⟩ := p
  exact ⟨h5 l (List.of_mem_zip hp).1, h6 q (List.of_mem_zip hp).2⟩
theorem Nf.Ok.rows {A : Nf} (h : A.Ok) : ∀ l ∈ A.fol, l.Pairwise (· < ·) ∧ ∀ x ∈ l, 0 ≤ x := fun l hl => ⟨(h.fol l hl).1, fun x hx => by have := ((h.fol l hl).2 x hx).1; omega⟩
theorem turn_ok {A : Nf} (h : A.Ok) : A.turn.Ok := by
 refine ⟨h.n, by show (turnF A.fol).length = _; rw [turnF_len]; exact h.len, h.last, h.first, fun l hl => ?_, h.sets⟩
 obtain ⟨i, hi⟩ := List.getElem?_of_mem (show l ∈ turnF A.fol from hl)
 refine ⟨(turnF_sorted hi h.rows).1, fun x hx => ?_⟩
 obtain ⟨k, r, rfl, h1, h2⟩ := (turnF_mem hi h.rows).1 hx
 have := (List.getElem?_eq_some_iff.1 h1).1
 have := h.len
 show _ ∧ (k : Int) ≤ A.top
 unfold Nf.top; omega
theorem turn_turn {A : Nf} (h : A.Ok) : A.turn.turn = A := by
 have ht := turn_ok h
 obtain ⟨s, f, x, y, e⟩ := A
 simp only [Nf.turn]
 congr 1
 apply List.ext_getElem?
 intro i
 have hl1 : (turnF (turnF f)).length = f.length := by rw [turnF_len, turnF_len]
 by_cases hi : i < f.length
 ·obtain ⟨l, hl⟩ : ∃ l, (turnF (turnF f))[i]? = some l := ⟨_, List.getElem?_eq_getElem (by omega)⟩
  rw [hl, List.getElem?_eq_getElem hi]
  congr 1
  have hr := h.rows
  have htr := ht.rows
  refine sortedI_ext (turnF_sorted hl htr).1 (h.fol _ (List.getElem_mem hi)).1 fun z => ?_
  rw [turnF_mem hl htr]
  constructor
  ·rintro ⟨k, r, rfl, h1, h2⟩
   obtain ⟨k2, r2, h3, h4, h5⟩ := (turnF_mem h1 hr).1 h2
   obtain rfl : i = k2 := by omega
   rw [List.getElem?_eq_getElem hi] at h4
   cases h4; exact h5
  ·intro hz
   have hb := (h.fol _ (List.getElem_mem hi)).2 z hz
   have hlen := h.len
   simp only [Nf.top] at hb hlen
   obtain ⟨k, rfl⟩ : ∃ k : Nat, z = k := ⟨z.toNat, by omega⟩
   have hk : k < (turnF f).length := by rw [turnF_len]; omega
   refine ⟨k, _, rfl, List.getElem?_eq_getElem hk, (turnF_mem (List.getElem?_eq_getElem hk) hr).2 ⟨i, _, rfl, List.getElem?_eq_getElem hi, hz⟩⟩
 ·rw [List.getElem?_eq_none (by omega), List.getElem?_eq_none (by omega)]
structure TurnI (base m : Mem) (b : Nat) (F : Nat → Option (Nat × Nat)) (cur : List (List Int)) : Prop where
 le : base.le m
 fr : base.free b
 cell : ∀ (q : Nat) (l : List Int), cur[q]? = some l → (F q = none ∧ l = [] ∧ m b q = some (.slice none 0 0)) ∨ ∃ bq c, F q = some (bq, c) ∧ l ≠ [] ∧ l.length ≤ c ∧ m b q = some (.slice (some ⟨bq, 0, none⟩) l.length c) ∧ (∀ o, o < c → ∃ v, m bq o = some v) ∧ m.reads bq 0 (intVs l) ∧ base.free bq ∧ bq ≠ b
 ne : ∀ (q q' b0 c c' : Nat), F q = some (b0, c) → F q' = some (b0, c') → q = q'
 dom : ∀ (q : Nat) (x : Nat × Nat), F q = some x → q < cur.length
theorem free_of' {m m' : Mem} (h : m.le m') {b : Nat} (hf : m'.free b) : m.free b := fun o => by
 cases he : m b o with
 | none => rfl
 | some v => have := h _ _ _ he; rw [hf o] at this; cases this
theorem intVs_app (l r : List Int) : intVs (l ++ r) = intVs l ++ intVs r := by simp [intVs]
theorem TurnI.push {base m : Mem} {b : Nat} {F : Nat → Option (Nat × Nat)} {cur : List (List Int)} (h : TurnI base m b F cur) {q : Int} {p : Nat} {l : List Int} (hq0 : 0 ≤ q) (hq : cur[q.toNat]? = some l) {a : Option Addr} {c : Nat} (hm : m b q.toNat = some (.slice a l.length c)) {m1 m2 M : Mem} (hm1 : (m.cutA a (l.length * 1)).le m1)
  {a' : Option Addr} {c' : Nat} (hr : rowRd m2 a' (intVs l ++ [.int .i64 (p : Int)])) (hf : TokFact m1 a a' (l.length + 1) c') (hM0 : (m.cutA a (l.length * 1)).le M) (hM2 : m2.le M) (zs : List Value) (hz : zs.length = (c' - (l.length + 1)) * 1) :
  ∃ F', TurnI base ((M.upd b q.toNat [.slice a' (l.length + 1) c']).addA a' ((l.length + 1) * 1) zs) b F' (pushP p cur q) := by
 have hqlt := (List.getElem?_eq_some_iff.1 hq).1
 have ha0 : ∀ b o, a = some ⟨b, o, none⟩ → o = 0 := fun b1 o1 e => by
  rcases h.cell _ _ hq with ⟨_, _, h3⟩ | ⟨bq, c0, _, _, _, h4, _⟩
  ·rw [hm, e] at h3; simp at h3
  ·rw [hm, e] at h4; simp at h4; exact h4.1.2
 obtain ⟨hc', hblk⟩ := hf.old ha0
 rcases hr with hr | ⟨b', o', ha', hrd⟩
 ·have := congrArg List.length hr; simp at this
 rcases hblk with hb0 | ⟨b2, hb2, hb3⟩
 ·rw [hb0] at ha'; cases ha'
 rw [hb2] at ha'
 simp only [Option.some.injEq, Addr.mk.injEq, and_true] at ha'
 obtain ⟨rfl, rfl⟩ := ha'
 subst hb2
 have hcut : ∀ k o v, m k o = some v → (∀ bq c0, F q.toNat = some (bq, c0) → k ≠ bq) → M k o = some v := fun k o v hv hk => by
  refine hM0 k o v ?_
  unfold Mem.cutA
  split
  ·rename_i k0 o0 s0
   rcases h.cell _ _ hq with ⟨_, _, h3⟩ | ⟨bq, c0, h1, _, _, h4, _⟩
   ·rw [hm] at h3; simp only [Option.some.injEq, Value.slice.injEq] at h3; exact absurd h3.1 (by simp)
   ·rw [hm] at h4
    simp only [Option.some.injEq, Value.slice.injEq, Addr.mk.injEq] at h4
    rw [if_neg (fun hc => hk bq c0 h1 (hc.1.trans h4.1.1))]; exact hv
  ·exact hv
 have hb'k : ∀ k o v, m k o = some v → (∀ bq c0, F q.toNat = some (bq, c0) → k ≠ bq) → k ≠ b2 := fun k o v hv hk e => by
  subst e
  have hv1 : (m.cutA a (l.length * 1)) k o = some v := by
   unfold Mem.cutA
   split
   ·rename_i k0 o0 s0
    rcases h.cell _ _ hq with ⟨_, _, h3⟩ | ⟨bq, c0, h1, _, _, h4, _⟩
    ·rw [hm] at h3; simp only [Option.some.injEq, Value.slice.injEq] at h3; exact absurd h3.1 (by simp)
    ·rw [hm] at h4
     simp only [Option.some.injEq, Value.slice.injEq, Addr.mk.injEq] at h4
     rw [if_neg (fun hc => hk bq c0 h1 (hc.1.trans h4.1.1))]; exact hv
   ·exact hv
  rcases hb3 with hb3 | hb3
  ·rcases h.cell _ _ hq with ⟨_, _, h3⟩ | ⟨bq, c0, h1, _, _, h4, _⟩
   ·rw [hm, hb3] at h3; simp only [Option.some.injEq, Value.slice.injEq] at h3; exact absurd h3.1 (by simp)
   ·rw [hm, hb3] at h4
    simp only [Option.some.injEq, Value.slice.injEq, Addr.mk.injEq] at h4
    exact hk bq c0 h1 h4.1.1
  ·have := hm1 _ _ _ hv1
   rw [hb3 o] at this; cases this
 have hcb : ∀ q' x, cur[q']? = some x → ∃ v, m b q' = some v := fun q' x hx => by
  rcases h.cell _ _ hx with ⟨_, _, h3⟩ | ⟨_, _, _, _, _, h4, _⟩
  ·exact ⟨_, h3⟩
  ·exact ⟨_, h4⟩
 have hbq : ∀ bq c0, F q.toNat = some (bq, c0) → b ≠ bq := fun bq c0 h1 e => by
  rcases h.cell _ _ hq with ⟨h3, _, _⟩ | ⟨bq', c0', h1', _, _, _, _, _, _, h8⟩
  ·rw [h3] at h1; cases h1
  ·rw [h1] at h1'; cases h1'; exact h8 e.symm
 have hbb : b ≠ b2 := by
  obtain ⟨v, hv⟩ := hcb _ _ hq
  exact hb'k b _ v hv hbq
 let N := (M.upd b q.toNat [.slice (some ⟨b2, 0, none⟩) (l.length + 1) c']).addA (some ⟨b2, 0, none⟩) ((l.length + 1) * 1) zs
 have hN : ∀ k o, k ≠ b2 → (k ≠ b ∨ o ≠ q.toNat) → N k o = M k o := fun k o hk hko => by
  show Mem.addAt _ b2 _ zs k o = _
  unfold Mem.addAt
  rw [if_neg (fun hc => hk hc.1)]
  unfold Mem.upd
  rw [if_neg]
  rintro ⟨e1, e2, e3⟩
  simp at e3
  rcases hko with h | h
  ·exact h e1
  ·omega
 have hNb : N b q.toNat = some (.slice (some ⟨b2, 0, none⟩) (l.length + 1) c') := by
  show Mem.addAt _ b2 _ zs b q.toNat = _
  unfold Mem.addAt
  rw [if_neg (fun hc => hbb hc.1)]
  unfold Mem.upd
  rw [if_pos ⟨rfl, Nat.le_refl _, by simp⟩]; simp
 have hfb2 : base.free b2 := by
  rcases hb3 with hb3 | hb3
  ·rcases h.cell _ _ hq with ⟨_, _, h3⟩ | ⟨bq, c0, h1, _, _, h4, _, _, h7, _⟩
   ·rw [hm, hb3] at h3; simp only [Option.some.injEq, Value.slice.injEq] at h3; exact absurd h3.1 (by simp)
   ·rw [hm, hb3] at h4
    simp only [Option.some.injEq, Value.slice.injEq, Addr.mk.injEq] at h4
    rw [h4.1.1]; exact h7
  ·intro o
   cases he : base b2 o with
   | none => rfl
   | some v =>
    exfalso
    refine hb'k b2 o v (h.le _ _ _ he) (fun bq c0 h1 e => ?_) rfl
    rcases h.cell _ _ hq with ⟨h3, _, _⟩ | ⟨bq', c0', h1', _, _, _, _, _, h7, _⟩
    ·rw [h3] at h1; cases h1
    ·rw [h1] at h1'; cases h1'
     rw [e, h7 o] at he; cases he
 refine ⟨fun i => if i = q.toNat then some (b2, c') else F i, ?_⟩
 show TurnI base N b _ _
 refine ⟨fun k o v hv => ?_, h.fr, fun i x hx => ?_, fun i i' b0 c0 c0' h1 h2 => ?_, fun i x hx => ?_⟩
 ·have hk2 : k ≠ b2 := fun e => by subst e; rw [hfb2 o] at hv; cases hv
  have hkb : k ≠ b := fun e => by subst e; rw [h.fr o] at hv; cases hv
  rw [hN k o hk2 (.inl hkb)]
  refine hcut k o v (h.le _ _ _ hv) fun bq c0 h1 e => ?_
  rcases h.cell _ _ hq with ⟨h3, _, _⟩ | ⟨bq', c0', h1', _, _, _, _, _, h7, _⟩
  ·rw [h3] at h1; cases h1
  ·rw [h1] at h1'; cases h1'
   rw [e, h7 o] at hv; cases hv
 ·have hilt : i < cur.length := by have := (List.getElem?_eq_some_iff.1 hx).1; rwa [pushP_len] at this
  obtain ⟨y, hy⟩ : ∃ y, cur[i]? = some y := ⟨_, List.getElem?_eq_getElem hilt⟩
  rw [pushP_get hy] at hx
  by_cases hi : i = q.toNat
  ·subst hi
   rw [hq] at hy; cases hy
   rw [if_pos rfl] at hx; cases hx
   refine .inr ⟨b2, c', by simp, by simp, by simpa using hc', by rw [List.length_append]; exact hNb, fun o ho => ?_, fun j v hj => ?_, hfb2, hbb.symm⟩
   ·show ∃ v, Mem.addAt _ b2 _ zs b2 o = some v
    unfold Mem.addAt
    by_cases hol : 0 + (l.length + 1) * 1 ≤ o
    ·rw [if_pos ⟨rfl, hol⟩]
     have : o - (0 + (l.length + 1) * 1) < zs.length := by omega
     rw [List.getElem?_eq_getElem this]; exact ⟨_, rfl⟩
    ·rw [if_neg (fun hc => hol hc.2)]
     have hv := hrd o ((intVs l ++ [.int .i64 (p : Int)])[o]'(by simp [intVs_len]; omega)) (List.getElem?_eq_getElem _)
     rw [Nat.zero_add] at hv
     rw [Mem.upd_other _ hbb.symm]
     exact ⟨_, hM2 _ _ _ hv⟩
   ·show Mem.addAt _ b2 _ zs b2 (0 + j) = some v
    have hjl := (List.getElem?_eq_some_iff.1 hj).1
    rw [intVs_len, List.length_append, List.length_singleton] at hjl
    unfold Mem.addAt
    rw [if_neg (by omega), Mem.upd_other _ hbb.symm]
    rw [intVs_app] at hj
    exact hM2 _ _ _ (hrd j v hj)
  ·rw [if_neg (fun e => hi e.symm)] at hx
   obtain rfl : y = x := Option.some.inj hx
   have hqF : ∀ x, F i = some x → ∀ bq c0, F q.toNat = some (bq, c0) → x.1 ≠ bq := fun x h1 bq c0 h2 e => by
    obtain ⟨x1, x2⟩ := x
    simp only at e; subst e
    exact hi (h.ne _ _ _ _ _ h1 h2)
   rcases h.cell _ _ hy with ⟨h1, h2, h3⟩ | ⟨bq, c0, h1, h2, h3, h4, h5, h6, h7, h8⟩
   ·refine .inl ⟨by simp only [if_neg hi]; exact h1, h2, ?_⟩
    rw [hN b i hbb (.inr hi)]
    exact hcut _ _ _ h3 hbq
   ·have hk : ∀ bq' c0', F q.toNat = some (bq', c0') → bq ≠ bq' := fun bq' c0' h => hqF _ h1 bq' c0' h
    have hk2 : bq ≠ b2 := by
     cases y with
     | nil => exact absurd rfl h2
     | cons z y =>
      have := h6 0 (.int .i64 z) rfl
      exact hb'k _ _ _ this hk
    refine .inr ⟨bq, c0, by simp only [if_neg hi]; exact h1, h2, h3, ?_, fun o ho => ?_, fun j v hj => ?_, h7, h8⟩
    ·rw [hN b i hbb (.inr hi)]; exact hcut _ _ _ h4 hbq
    ·obtain ⟨v, hv⟩ := h5 o ho
     exact ⟨v, by rw [hN bq o hk2 (.inl h8)]; exact hcut _ _ _ hv hk⟩
    ·rw [hN bq _ hk2 (.inl h8)]; exact hcut _ _ _ (h6 j v hj) hk
 ·have key : ∀ j c1, F j = some (b2, c1) → j = q.toNat := fun j c1 hj => by
   have hjlt := h.dom _ _ hj
   rcases h.cell j _ (List.getElem?_eq_getElem hjlt) with ⟨h3, _, _⟩ | ⟨bq, c0, g1, g2, _, _, _, g6, _, _⟩
   ·rw [h3] at hj; cases hj
   ·rw [hj] at g1; cases g1
    cases hqF : F q.toNat with
    | none =>
     exfalso
     have : ∃ z y, cur[j]'hjlt = z :: y := by
      cases hc : cur[j]'hjlt with
      | nil => exact absurd hc g2
      | cons z y => exact ⟨z, y, rfl⟩
     obtain ⟨z, y, hzy⟩ := this
     have hv := g6 0 (.int .i64 z) (by rw [hzy]; rfl)
     exact hb'k _ _ _ hv (fun bq c0 h1 => by rw [hqF] at h1; cases h1) rfl
    | some x =>
     obtain ⟨x1, x2⟩ := x
     by_cases hx1 : x1 = b2
     ·subst hx1; exact h.ne _ _ _ _ _ hj hqF
     ·exfalso
      have : ∃ z y, cur[j]'hjlt = z :: y := by
       cases hc : cur[j]'hjlt with
       | nil => exact absurd hc g2
       | cons z y => exact ⟨z, y, rfl⟩
      obtain ⟨z, y, hzy⟩ := this
      have hv := g6 0 (.int .i64 z) (by rw [hzy]; rfl)
      exact hb'k _ _ _ hv (fun bq c0 h1 e => by rw [hqF] at h1; cases h1; exact hx1 e.symm) rfl
  split at h1 <;> split at h2
  ·omega
  ·simp only [Option.some.injEq, Prod.mk.injEq] at h1
   rw [← h1.1] at h2
   have := key _ _ h2; omega
  ·simp only [Option.some.injEq, Prod.mk.injEq] at h2
   rw [← h2.1] at h1
   have := key _ _ h1; omega
  ·exact h.ne _ _ _ _ _ h1 h2
 ·rw [pushP_len]
  split at hx
  ·omega
  ·exact h.dom _ _ hx
end Go.Rx
namespace Go.Rx
open Go Go.Eng Go.RowKit
def qNode (q : QS) : T := .node 2 q.1 q.2.1 q.2.2.1 q.2.2.2 0 0 none 0 []
def hasQ (q : QS) (c : Nat) : Bool := (qNode q).hasB c
def QOk (q : QS) : Prop := (0 ≤ q.1 ∧ q.1 < 18446744073709551616) ∧ (0 ≤ q.2.1 ∧ q.2.1 < 18446744073709551616) ∧ (0 ≤ q.2.2.1 ∧ q.2.2.1 < 18446744073709551616) ∧ (0 ≤ q.2.2.2 ∧ q.2.2.2 < 18446744073709551616)
theorem rep_q {q : QS} (h : QOk q) (m : Mem) : Rep m (qNode q) := by
 simp only [qNode, Rep]
 exact ⟨by simp, .inl trivial, ⟨by omega, h.1, h.2.1, h.2.2.1, h.2.2.2, by omega, by omega⟩⟩
def setM (l : List Int) (f : Nat) : Nat := l.foldl (fun f p => f ||| 2 ^ p.toNat) f
def Nf.fromL (A : Nf) (p : Int) : List Int := if p = -1 then A.first else (A.fol[p.toNat]?).getD []
def Nf.hasAt (A : Nf) (q : Int) (c : Nat) : Bool := hasQ ((A.sets[q.toNat]?).getD zQ) c
def Nf.step1 (A : Nf) (c : Nat) (f : Nat) (q : Int) : Nat := if A.hasAt q c then f ||| 2 ^ q.toNat else f
def Nf.stepM (A : Nf) (l : List Int) (c : Nat) (f : Nat) : Nat := l.foldl (fun f p => (A.fromL p).foldl (A.step1 c) f) f
def Nf.step (A : Nf) (l : List Int) (c : Nat) : List Int := bitsI (A.stepM l c 0)
def Nf.acc1 (A : Nf) (p : Int) : Bool := if p = -1 then A.empty else (setM A.last 0).testBit p.toNat
def Nf.accepts (A : Nf) (l : List Int) : Bool := l.any A.acc1
def Nf.states (A : Nf) (l : List Int) : Bool := riseF l (-2) A.top
theorem states_mem {A : Nf} {l : List Int} (h : A.states l = true) : ∀ p ∈ l, -1 ≤ p ∧ p ≤ A.top := fun p hp => by
 have := (riseF_iff.1 h).2 p hp; omega
theorem setM_bit : ∀ (l : List Int) (f i : Nat), (∀ p ∈ l, 0 ≤ p) → ((setM l f).testBit i = true ↔ f.testBit i = true ∨ (i : Int) ∈ l)
 | [], f, i, _ => by simp [setM]
 | p :: l, f, i, h => by
  have hp := h p (by simp)
  show (setM l (f ||| 2 ^ p.toNat)).testBit i = true ↔ _
  rw [setM_bit l _ i (fun p hp => h p (by simp [hp]))]
  simp only [Nat.testBit_or, Bool.or_eq_true, Nat.testBit_two_pow, decide_eq_true_eq, List.mem_cons]
  have : p.toNat = i ↔ (i : Int) = p := by omega
  rw [this, or_assoc]
theorem step1_bits {A : Nf} {c : Nat} : ∀ (l : List Int) (f i : Nat), (∀ p ∈ l, 0 ≤ p) → ((l.foldl (A.step1 c) f).testBit i = true ↔ f.testBit i = true ∨ ((i : Int) ∈ l ∧ A.hasAt i c = true))
 | [], f, i, _ => by simp
 | p :: l, f, i, h => by
  have hp := h p (by simp)
  rw [List.foldl_cons, step1_bits l _ i (fun p hp => h p (by simp [hp]))]
  have e : p.toNat = i ↔ (i : Int) = p := by omega
  unfold Nf.step1
  by_cases hh : A.hasAt p c = true
  ·rw [if_pos hh]
   simp only [Nat.testBit_or, Bool.or_eq_true, Nat.testBit_two_pow, decide_eq_true_eq, List.mem_cons, e]
   constructor
   ·rintro ((h1 | h1) | h1)
    ·exact .inl h1
    ·exact .inr ⟨.inl h1, by rw [h1]; exact hh⟩
    ·exact .inr ⟨.inr h1.1, h1.2⟩
   ·rintro (h1 | ⟨h1 | h1, h2⟩)
    ·exact .inl (.inl h1)
    ·exact .inl (.inr h1)
    ·exact .inr ⟨h1, h2⟩
  ·rw [if_neg hh]
   constructor
   ·rintro (h1 | h1)
    ·exact .inl h1
    ·exact .inr ⟨by simp [h1.1], h1.2⟩
   ·rintro (h1 | ⟨h1, h2⟩)
    ·exact .inl h1
    ·rcases List.mem_cons.1 h1 with h1 | h1
     ·rw [h1] at h2; exact absurd h2 hh
     ·exact .inr ⟨h1, h2⟩
theorem fromL_row {A : Nf} (h : A.Ok) (p : Int) : (A.fromL p).Pairwise (· < ·) ∧ ∀ x ∈ A.fromL p, -1 < x ∧ x ≤ A.top := by
 unfold Nf.fromL
 split
 ·exact h.first
 ·cases hl : A.fol[p.toNat]? with
  | none => exact ⟨by simp, by simp⟩
  | some l => exact h.fol l (List.mem_of_getElem? hl)
theorem stepM_bits {A : Nf} (hA : A.Ok) {c : Nat} : ∀ (l : List Int) (f i : Nat), ((A.stepM l c f).testBit i = true ↔ f.testBit i = true ∨ ((∃ p ∈ l, (i : Int) ∈ A.fromL p) ∧ A.hasAt i c = true))
 | [], f, i => by simp [Nf.stepM]
 | p :: l, f, i => by
  show (A.stepM l c ((A.fromL p).foldl (A.step1 c) f)).testBit i = true ↔ _
  rw [stepM_bits hA l, step1_bits _ _ _ (fun x hx => by have := (fromL_row hA p).2 x hx; omega)]
  constructor
  ·rintro ((h1 | h1) | ⟨⟨q, h1, h2⟩, h3⟩)
   ·exact .inl h1
   ·exact .inr ⟨⟨p, by simp, h1.1⟩, h1.2⟩
   ·exact .inr ⟨⟨q, by simp [h1], h2⟩, h3⟩
  ·rintro (h1 | ⟨⟨q, h1, h2⟩, h3⟩)
   ·exact .inl (.inl h1)
   ·rcases List.mem_cons.1 h1 with h1 | h1
    ·subst h1; exact .inl (.inr ⟨h2, h3⟩)
    ·exact .inr ⟨⟨q, h1, h2⟩, h3⟩
theorem step_mem {A : Nf} (hA : A.Ok) {l : List Int} {c : Nat} {x : Int} : x ∈ A.step l c ↔ 0 ≤ x ∧ (∃ p ∈ l, x ∈ A.fromL p) ∧ A.hasAt x c = true := by
 unfold Nf.step
 rw [bitsI_mem]
 constructor
 ·rintro ⟨i, h1, h2, rfl⟩
  have := (stepM_bits hA l 0 i).1 h2
  simp at this
  exact ⟨by omega, this.1, this.2⟩
 ·rintro ⟨h0, ⟨p, h1, h2⟩, h3⟩
  have hb := (fromL_row hA p).2 x h2
  have hn := hA.n
  unfold Nf.top at hb
  refine ⟨x.toNat, by omega, ?_, by omega⟩
  rw [stepM_bits hA]
  refine .inr ⟨⟨p, h1, ?_⟩, ?_⟩
  ·rw [show ((x.toNat : Nat) : Int) = x by omega]; exact h2
  ·rw [show ((x.toNat : Nat) : Int) = x by omega]; exact h3
theorem step_states {A : Nf} (hA : A.Ok) (l : List Int) (c : Nat) : A.states (A.step l c) = true := by
 unfold Nf.states
 rw [riseF_iff]
 refine ⟨bitsI_sorted _, fun x hx => ?_⟩
 obtain ⟨h0, ⟨p, _, h2⟩, _⟩ := (step_mem hA).1 hx
 have := (fromL_row hA p).2 x h2
 omega
def Nf.next (A : Nf) (again : Bool) (l : List Int) (c : Nat) : List Int := if again then -1 :: A.step l c else A.step l c
def Nf.runL {S : Type} (A : Nf) (again : Bool) (st : S → Nat → List Int → S) : List Nat → Nat → List Int → S → S
 | [], _, _, s => s
 | c :: bs, i, l, s => A.runL again st bs (i + 1) (A.next again l c) (st s (i + 1) (A.next again l c))
theorem next_states {A : Nf} (hA : A.Ok) (again : Bool) (l : List Int) (c : Nat) : A.states (A.next again l c) = true := by
 unfold Nf.next
 have h := step_states hA l c
 split
 ·unfold Nf.states at h ⊢
  rw [riseF_iff] at h ⊢
  refine ⟨?_, fun x hx => ?_⟩
  ·rw [List.pairwise_cons]
   refine ⟨fun x hx => ?_, h.1⟩
   obtain ⟨h0, _⟩ := (step_mem hA).1 hx
   omega
  ·rcases List.mem_cons.1 hx with rfl | hx
   ·exact ⟨by omega, by unfold Nf.top; omega⟩
   ·exact h.2 x hx
 ·exact h
def Nf.run (A : Nf) (b : List Nat) (l : List Int) : List Int := b.foldl (fun l c => A.step l c) l
def Nf.matches (A : Nf) (b : List Nat) : Bool := A.accepts (A.run b [-1])
def Nf.search (A : Nf) (b : List Nat) : List Int := A.runL true (fun s n l => if A.accepts l then s ++ [(n : Int)] else s) b 0 [-1] (if A.accepts [-1] then [0] else [])
theorem runL_run (A : Nf) : ∀ (b : List Nat) (i : Nat) (l : List Int), A.runL false (fun _ _ l => l) b i l l = A.run b l
 | [], i, l => rfl
 | c :: b, i, l => by rw [Nf.runL, runL_run A b]; rfl
theorem run_states {A : Nf} (hA : A.Ok) : ∀ (b : List Nat) (l : List Int), A.states l = true → A.states (A.run b l) = true
 | [], l, h => h
 | c :: b, l, h => run_states hA b _ (step_states hA l c)
theorem begin_states (A : Nf) : A.states [-1] = true := by
 unfold Nf.states
 rw [riseF_iff]
 exact ⟨by simp, fun x hx => by rw [List.mem_singleton] at hx; subst hx; unfold Nf.top; omega⟩
def Nf.err (A : Nf) (l : List Int) : Int := if A.right = false then 171 else if A.states l = false then 172 else 0
def Nf.runE (A : Nf) (n : Nat) : Int := if A.right = false then 171 else if 4096 < n then 3 else 0
inductive Nf.Reach (A : Nf) : Nat → Prop
 | first {p : Nat} (h : (p : Int) ∈ A.first) : A.Reach p
 | fol {p q : Nat} {l : List Int} (h : A.Reach p) (hl : A.fol[p]? = some l) (hq : (q : Int) ∈ l) : A.Reach q
end Go.Rx
namespace Go.Rx
open Go Go.Eng Go.RowKit
def unseen (f : Nat) : Nat := ((List.range 448).filter fun i => !f.testBit i).length
theorem filter_lt {α : Type} {p p' : α → Bool} : ∀ {l : List α} {x : α}, (∀ y, p' y = true → p y = true) → x ∈ l → p x = true → p' x = false → (l.filter p').length + 1 ≤ (l.filter p).length
 | [], x, _, h, _, _ => by simp at h
 | y :: l, x, hpp, h, h1, h2 => by
  have hle : ∀ l : List α, (l.filter p').length ≤ (l.filter p).length := fun l => by
   induction l with
   | nil => simp
   | cons z l ih =>
    simp only [List.filter_cons]
    by_cases hz : p' z = true
    ·rw [if_pos hz, if_pos (hpp z hz)]; simp; exact ih
    ·rw [if_neg hz]; split
     ·simp; omega
     ·exact ih
  simp only [List.filter_cons]
  rcases List.mem_cons.1 h with rfl | h
  ·rw [if_pos h1, if_neg (by simp [h2])]
   have := hle l
   simp; omega
  ·have ih := filter_lt hpp h h1 h2
   by_cases hz : p' y = true
   ·rw [if_pos hz, if_pos (hpp y hz)]; simp; omega
   ·rw [if_neg hz]; split
    ·simp; omega
    ·exact ih
theorem unseen_put {f i : Nat} (hi : i < 448) (h : f.testBit i = false) : unseen (f ||| 2 ^ i) + 1 ≤ unseen f := by
 unfold unseen
 refine filter_lt (x := i) (fun y hy => ?_) (by simp [hi]) (by simp [h]) (by simp [Nat.testBit_or, Nat.testBit_two_pow])
 simp only [Bool.not_eq_true', Nat.testBit_or, Bool.or_eq_false_iff] at hy ⊢
 exact hy.1
theorem unseen_le (f : Nat) : unseen f ≤ 448 := by
 unfold unseen
 exact Nat.le_trans (List.length_filter_le _ _) (by simp)
structure Seek (A : Nf) (todo : List Int) (f : Nat) : Prop where
 rng : ∀ x ∈ todo, 0 ≤ x ∧ x ≤ A.top ∧ A.Reach x.toNat
 in_ : ∀ i, f.testBit i = true → A.Reach i
 first : ∀ x ∈ A.first, x ∈ todo ∨ f.testBit x.toNat = true
 fol : ∀ (i : Nat) (l : List Int), f.testBit i = true → A.fol[i]? = some l → ∀ x ∈ l, x ∈ todo ∨ f.testBit x.toNat = true
theorem Seek.start {A : Nf} (hA : A.Ok) : Seek A A.first 0 := by
 refine ⟨fun x hx => ?_, fun i hi => by simp at hi, fun x hx => .inl hx, fun i l hi => by simp at hi⟩
 have := hA.first.2 x hx
 exact ⟨by omega, this.2, .first (by rw [show ((x.toNat : Nat) : Int) = x by omega]; exact hx)⟩
theorem Seek.skip {A : Nf} {x : Int} {todo : List Int} {f : Nat} (h : Seek A (x :: todo) f) (hx : f.testBit x.toNat = true) : Seek A todo f := by
 refine ⟨fun y hy => h.rng y (by simp [hy]), h.in_, fun y hy => ?_, fun i l hi hl y hy => ?_⟩
 ·rcases h.first y hy with h1 | h1
  ·rcases List.mem_cons.1 h1 with rfl | h1
   ·exact .inr hx
   ·exact .inl h1
  ·exact .inr h1
 ·rcases h.fol i l hi hl y hy with h1 | h1
  ·rcases List.mem_cons.1 h1 with rfl | h1
   ·exact .inr hx
   ·exact .inl h1
  ·exact .inr h1
theorem Seek.take {A : Nf} (hA : A.Ok) {x : Int} {todo l : List Int} {f : Nat} (h : Seek A (x :: todo) f) (hl : A.fol[x.toNat]? = some l) : Seek A (todo ++ l) (f ||| 2 ^ x.toNat) := by
 have hx := h.rng x (by simp)
 have hbit : ∀ i, (f ||| 2 ^ x.toNat).testBit i = true ↔ f.testBit i = true ∨ i = x.toNat := fun i => by
  simp only [Nat.testBit_or, Bool.or_eq_true, Nat.testBit_two_pow, decide_eq_true_eq]
  exact ⟨fun h => h.imp_right Eq.symm, fun h => h.imp_right Eq.symm⟩
 refine ⟨fun y hy => ?_, fun i hi => ?_, fun y hy => ?_, fun i r hi hr y hy => ?_⟩
 ·rcases List.mem_append.1 hy with hy | hy
  ·exact h.rng y (by simp [hy])
  ·have hb := (hA.fol l (List.mem_of_getElem? hl)).2 y hy
   exact ⟨by omega, hb.2, .fol hx.2.2 hl (by rw [show ((y.toNat : Nat) : Int) = y by omega]; exact hy)⟩
 ·rcases (hbit i).1 hi with h1 | rfl
  ·exact h.in_ i h1
  ·exact hx.2.2
 ·rcases h.first y hy with h1 | h1
  ·rcases List.mem_cons.1 h1 with rfl | h1
   ·exact .inr ((hbit _).2 (.inr rfl))
   ·exact .inl (by simp [h1])
  ·exact .inr ((hbit _).2 (.inl h1))
 ·rcases (hbit i).1 hi with h1 | rfl
  ·rcases h.fol i r h1 hr y hy with h2 | h2
   ·rcases List.mem_cons.1 h2 with rfl | h2
    ·exact .inr ((hbit _).2 (.inr rfl))
    ·exact .inl (by simp [h2])
   ·exact .inr ((hbit _).2 (.inl h2))
  ·rw [hl] at hr; cases hr
   exact .inl (by simp [hy])
theorem Seek.done {A : Nf} (hA : A.Ok) {f : Nat} (h : Seek A [] f) (i : Nat) : f.testBit i = true ↔ A.Reach i := by
 refine ⟨h.in_ i, fun hr => ?_⟩
 induction hr with
 | first hp =>
  rcases h.first _ hp with h1 | h1
  ·simp at h1
  ·simpa using h1
 | fol _ hl hq ih =>
  rcases h.fol _ _ ih hl _ hq with h1 | h1
  ·simp at h1
  ·simpa using h1
end Go.Rx
namespace Go.Rx
open Go Go.Eng Go.RowKit
def Src (l : List T) (s : Ms) (r : Pt × Ms) : Prop := ∀ q ∈ r.2.sets, q ∈ s.sets ∨ ∃ x ∈ l, x.k = 2 ∧ q = (x.s0, x.s1, x.s2, x.s3)
theorem Src.refl (l : List T) (s : Ms) (p : Pt) : Src l s (p, s) := fun q hq => .inl hq
theorem Src.mono {l l' : List T} {s : Ms} {r : Pt × Ms} (h : Src l s r) (hl : ∀ x ∈ l, x ∈ l') : Src l' s r := fun q hq => (h q hq).imp_right fun ⟨x, h1, h2⟩ => ⟨x, hl x h1, h2⟩
theorem Src.trans {l : List T} {s s1 : Ms} {p : Pt} {r : Pt × Ms} (h : Src l s (p, s1)) (k : Src l s1 r) : Src l s r := fun q hq => by
 rcases k q hq with h1 | h1
 ·exact h q h1
 ·exact .inr h1
theorem repM_src {f : Ms → Pt × Ms} {l : List T} (hf : ∀ s, Src l s (f s)) (mn mx : Int) (n : Nat) : ∀ (q i : Nat) (out : Pt) (s : Ms), Src l s (repM f mn mx n q i out s)
 | 0, i, out, s => Src.refl _ _ _
 | q + 1, i, out, s => by
  unfold repM
  simp only
  generalize hs2 : (if mx = -1 ∧ i + 1 = n then (⟨(f s).2.sets, loopF (f s).2.fol (f s).1.last (f s).1.first⟩ : Ms) else (f s).2) = s2
  have e : s2.sets = (f s).2.sets := by rw [← hs2]; split <;> rfl
  have h1 : Src l s (out, s2) := fun q hq => hf s q (by rw [← e]; exact hq)
  refine h1.trans (fun q hq => ?_)
  have := repM_src hf mn mx n _ _ _ _ q hq
  exact this
mutual
theorem mk_src : ∀ (t : T) (s : Ms), Src t.nodes s (mk t s)
 | .node k s0 s1 s2 s3 mn mx a c l, s => by
  unfold mk
  split
  ·exact Src.refl _ _ _
  split
  ·exact Src.refl _ _ _
  split
  ·rename_i hk
   intro q hq
   simp only [List.mem_append, List.mem_singleton] at hq
   rcases hq with hq | rfl
   ·exact .inl hq
   ·exact .inr ⟨.node k s0 s1 s2 s3 mn mx a c l, by rw [nodes_eq]; simp, hk, rfl⟩
  split
  ·exact (mkCat_src l _ s).mono (fun x hx => by rw [nodes_eq]; exact List.mem_cons_of_mem _ hx)
  split
  ·exact (mkAlt_src l _ s).mono (fun x hx => by rw [nodes_eq]; exact List.mem_cons_of_mem _ hx)
  split
  ·exact (repM_src (fun s => mkHd_src l s) _ _ _ _ _ _ _).mono (fun x hx => by rw [nodes_eq]; exact List.mem_cons_of_mem _ hx)
  ·exact (mkHd_src l s).mono (fun x hx => by rw [nodes_eq]; exact List.mem_cons_of_mem _ hx)
theorem mkHd_src : ∀ (l : List T) (s : Ms), Src (nodesL l) s (mkHd l s)
 | [], s => by unfold mkHd; exact Src.refl _ _ _
 | t :: l, s => by unfold mkHd; exact (mk_src t s).mono (fun x hx => by simp [nodesL, hx])
theorem mkCat_src : ∀ (l : List T) (out : Pt) (s : Ms), Src (nodesL l) s (mkCat l out s)
 | [], out, s => by unfold mkCat; exact Src.refl _ _ _
 | t :: l, out, s => by
  unfold mkCat
  have h1 : Src (nodesL (t :: l)) s (mk t s) := (mk_src t s).mono (fun x hx => by simp [nodesL, hx])
  have h2 : Src (nodesL (t :: l)) s (out, (thenM out (mk t s).1 (mk t s).2).2) := h1
  exact h2.trans ((mkCat_src l _ _).mono (fun x hx => by simp [nodesL, hx]))
theorem mkAlt_src : ∀ (l : List T) (out : Pt) (s : Ms), Src (nodesL l) s (mkAlt l out s)
 | [], out, s => by unfold mkAlt; exact Src.refl _ _ _
 | t :: l, out, s => by
  unfold mkAlt
  have h1 : Src (nodesL (t :: l)) s (mk t s) := (mk_src t s).mono (fun x hx => by simp [nodesL, hx])
  have h2 : Src (nodesL (t :: l)) s (out, (mk t s).2) := h1
  exact h2.trans ((mkAlt_src l _ _).mono (fun x hx => by simp [nodesL, hx]))
end
theorem nfit_spec {t : T} (h : t.nfit = true) : t.light = true ∧ (∀ x ∈ t.nodes, x.right = true) ∧ t.pos ≤ 400 := by
 unfold T.nfit at h
 simp only [Bool.and_eq_true, decide_eq_true_eq] at h
 obtain ⟨hc, _, hp⟩ := h
 unfold T.clean at hc
 simp only [Bool.and_eq_true, List.all_eq_true] at hc
 refine ⟨hc.1, hc.2, ?_⟩
 unfold T.positions at hp
 rw [hc.1] at hp; simpa using hp
theorem auto_sets {t : T} (h : t.nfit = true) : (t.auto.sets.length : Int) = t.pos := by
 obtain ⟨_, h1, h2⟩ := nfit_spec h
 have := mk_count t h1 (by omega) ⟨[], []⟩
 have h3 := (pos_bd t).1
 show ((mk t ⟨[], []⟩).2.sets.length : Int) = _
 rw [this]; simp; omega
theorem auto_ok {t : T} (h : t.nfit = true) : t.auto.Ok := by
 obtain ⟨_, h1, h2⟩ := nfit_spec h
 have hc := auto_sets h
 have hg := mk_grows t ⟨[], []⟩ ⟨rfl, fun j x hj => by simp at hj⟩
 have hn : t.auto.sets.length ≤ 400 := by omega
 have hn' : (mk t ⟨[], []⟩).2.sets.length ≤ 400 := hn
 have hl : t.auto.fol.length = t.auto.sets.length := by
  show ((mk t ⟨[], []⟩).2.fol.map bitsI).length = _
  rw [List.length_map]; exact hg.ok.len
 have hbits : ∀ f : Nat, (∀ i, f.testBit i = true → i < (mk t ⟨[], []⟩).2.sets.length) → (bitsI f).Pairwise (· < ·) ∧ ∀ x ∈ bitsI f, -1 < x ∧ x ≤ t.auto.top := fun f hf => by
  have := bitsI_rise (f := f) (n := t.auto.sets.length) (by omega) hf
  rw [riseF_iff] at this
  exact this
 refine ⟨hn, hl, hbits _ hg.pt.1, hbits _ hg.pt.2, fun l hl => ?_, fun q hq e => ?_⟩
 ·obtain ⟨f, hf, rfl⟩ := List.mem_map.1 (show l ∈ (mk t ⟨[], []⟩).2.fol.map bitsI from hl)
  obtain ⟨j, hj⟩ := List.getElem?_of_mem hf
  exact hbits f (hg.ok.fol j f hj)
 ·rcases mk_src t ⟨[], []⟩ q hq with h3 | ⟨x, hx, hk, rfl⟩
  ·simp at h3
  ·have hr := right_kinds (h1 x hx)
   rw [hk] at hr
   have hz : x.setZ = false := by
    rcases hr with h4 | h4 | h4 | h4 | h4 | h4
    ·omega
    ·exact h4.2.2
    ·omega
    ·omega
    ·omega
    ·omega
   unfold zQ at e
   simp only [Prod.mk.injEq] at e
   unfold T.setZ at hz
   rw [e.1, e.2.1, e.2.2.1, e.2.2.2] at hz; simp at hz
theorem auto_right {t : T} (h : t.nfit = true) : t.auto.right = true := right_ok.2 (auto_ok h)
theorem auto_q {t : T} {m : Mem} (h : Rep m t) : ∀ q ∈ t.auto.sets, QOk q := fun q hq => by
 rcases mk_src t ⟨[], []⟩ q hq with h3 | ⟨x, hx, hk, rfl⟩
 ·simp at h3
 ·have := Rep_ok (rep_nodes h hx)
  exact ⟨this.s0, this.s1, this.s2, this.s3⟩
theorem nfit_check {t : T} (h : t.check = 0) : t.nfit = true ∧ t.isNone = false := by
 unfold T.check at h
 have hc : t.clean = true := by
  cases hc : t.clean with
  | true => rfl
  | false => rw [hc] at h; simp at h
 rw [if_neg (by rw [hc]; simp)] at h
 by_cases hs : t.size > 120
 ·rw [if_pos hs] at h; omega
 rw [if_neg hs] at h
 by_cases hp : t.positions > 400
 ·rw [if_pos hp] at h; omega
 refine ⟨by unfold T.nfit; rw [hc]; simp; omega, ?_⟩
 have hr : t.right = true := by
  unfold T.clean at hc
  simp only [Bool.and_eq_true, List.all_eq_true] at hc
  exact hc.2 t (by rw [nodes_eq]; simp)
 unfold T.isNone
 rcases right_kinds hr with h1 | h1 | h1 | h1 | h1 | h1
 ·rw [h1.1]; rfl
 ·rw [h1.1]; rfl
 ·rw [h1]; rfl
 ·rw [h1]; rfl
 ·rw [h1.1]; rfl
 ·rw [h1.1]; rfl
theorem ofN_check {t : T} (h : t.check = 0) : t.ofN = t.auto ∧ t.ofE = 0 := by
 obtain ⟨h1, h2⟩ := nfit_check h
 unfold T.ofN T.ofE
 rw [h1, h2]; exact ⟨rfl, rfl⟩
end Go.Rx
namespace Go.Rx
open Go Go.Eng Go.RowKit
def Nf.Via (A : Nf) : Int → List Nat → Int → Prop
 | _, [], _ => False
 | p, c :: b, q => A.hasAt p c = true ∧ ((b = [] ∧ p = q) ∨ ∃ r, r ∈ A.fromL p ∧ A.Via r b q)
theorem fromL_nn {A : Nf} (hA : A.Ok) {p r : Int} (h : r ∈ A.fromL p) : 0 ≤ r ∧ r ≤ A.top := by
 have := (fromL_row hA p).2 r h; omega
theorem via_snoc {A : Nf} : ∀ (b : List Nat) (p q : Int) (c : Nat), b ≠ [] → (A.Via p (b ++ [c]) q ↔ ∃ r, A.Via p b r ∧ q ∈ A.fromL r ∧ A.hasAt q c = true)
 | [], _, _, _, h => absurd rfl h
 | [d], p, q, c, _ => by
  show (A.hasAt p d = true ∧ (([c] = ([] : List Nat) ∧ p = q) ∨ ∃ r, r ∈ A.fromL p ∧ A.Via r [c] q)) ↔ _
  constructor
  ·rintro ⟨h1, h2 | ⟨r, h2, h3, h4 | ⟨r', h4, h5⟩⟩⟩
   ·exact absurd h2.1 (by simp)
   ·obtain ⟨_, rfl⟩ := h4
    exact ⟨p, ⟨h1, .inl ⟨rfl, rfl⟩⟩, h2, h3⟩
   ·exact h5.elim
  ·rintro ⟨r, ⟨h1, h2 | ⟨r', h2, h3⟩⟩, h4, h5⟩
   ·obtain ⟨_, rfl⟩ := h2
    exact ⟨h1, .inr ⟨q, h4, h5, .inl ⟨rfl, rfl⟩⟩⟩
   ·exact h3.elim
 | d :: e :: b, p, q, c, _ => by
  have ih := fun r => via_snoc (A := A) (e :: b) r q c (by simp)
  show (A.hasAt p d = true ∧ ((e :: b ++ [c] = ([] : List Nat) ∧ p = q) ∨ ∃ r, r ∈ A.fromL p ∧ A.Via r (e :: b ++ [c]) q)) ↔ _
  constructor
  ·rintro ⟨h1, h2 | ⟨r, h2, h3⟩⟩
   ·exact absurd h2.1 (by simp)
   ·obtain ⟨r', h4, h5, h6⟩ := (ih r).1 h3
    exact ⟨r', ⟨h1, .inr ⟨r, h2, h4⟩⟩, h5, h6⟩
  ·rintro ⟨r', ⟨h1, h2 | ⟨r, h2, h3⟩⟩, h5, h6⟩
   ·exact absurd h2.1 (by simp)
   ·exact ⟨h1, .inr ⟨r, h2, (ih r).2 ⟨r', h3, h5, h6⟩⟩⟩
theorem turn_from {A : Nf} (hA : A.Ok) {p q : Int} (hp : 0 ≤ p) (hq : 0 ≤ q) : p ∈ A.turn.fromL q ↔ q ∈ A.fromL p := by
 have hlen := hA.len
 unfold Nf.fromL
 rw [if_neg (by omega), if_neg (by omega)]
 show p ∈ ((turnF A.fol)[q.toNat]?).getD [] ↔ _
 constructor
 ·intro h
  cases hl : (turnF A.fol)[q.toNat]? with
  | none => rw [hl] at h; simp at h
  | some l =>
   rw [hl] at h
   obtain ⟨k, r, rfl, h1, h2⟩ := (turnF_mem hl hA.rows).1 h
   rw [Int.toNat_natCast, h1]
   rwa [show ((q.toNat : Nat) : Int) = q by omega] at h2
 ·intro h
  cases hl : A.fol[p.toNat]? with
  | none => rw [hl] at h; simp at h
  | some l =>
   rw [hl] at h
   have h' : q ∈ l := h
   have hb := (hA.fol l (List.mem_of_getElem? hl)).2 q h'
   have hq2 : q.toNat < (turnF A.fol).length := by rw [turnF_len]; unfold Nf.top at hb; omega
   rw [List.getElem?_eq_getElem hq2]
   exact (turnF_mem (List.getElem?_eq_getElem hq2) hA.rows).2 ⟨p.toNat, l, by omega, hl, by rw [show ((q.toNat : Nat) : Int) = q by omega]; exact h'⟩
theorem via_nn {A : Nf} (hA : A.Ok) : ∀ {b : List Nat} {p q : Int}, 0 ≤ p → A.Via p b q → 0 ≤ q
 | [], _, _, _, h => h.elim
 | c :: b, p, q, hp, ⟨_, h⟩ => by
  rcases h with ⟨_, rfl⟩ | ⟨r, h1, h2⟩
  ·exact hp
  ·exact via_nn hA (fromL_nn hA h1).1 h2
theorem via_turn {A : Nf} (hA : A.Ok) : ∀ (l : List Nat) {p q : Int}, 0 ≤ p → 0 ≤ q → (A.Via p l.reverse q ↔ A.turn.Via q l p)
 | [], p, q, _, _ => Iff.rfl
 | [c], p, q, _, _ => by
  show (A.hasAt p c = true ∧ (_ ∨ ∃ r, r ∈ A.fromL p ∧ A.Via r [] q)) ↔ (A.hasAt q c = true ∧ (_ ∨ ∃ r, r ∈ A.turn.fromL q ∧ A.turn.Via r [] p))
  constructor
  ·rintro ⟨h1, ⟨_, rfl⟩ | ⟨_, _, h⟩⟩
   ·exact ⟨h1, .inl ⟨rfl, rfl⟩⟩
   ·exact h.elim
  ·rintro ⟨h1, ⟨_, rfl⟩ | ⟨_, _, h⟩⟩
   ·exact ⟨h1, .inl ⟨rfl, rfl⟩⟩
   ·exact h.elim
 | c :: d :: l, p, q, hp, hq => by
  have ih := fun {r : Int} (hr : 0 ≤ r) => via_turn hA (d :: l) hp hr
  rw [List.reverse_cons, via_snoc _ _ _ _ (by simp)]
  show _ ↔ (A.hasAt q c = true ∧ ((d :: l = ([] : List Nat) ∧ q = p) ∨ ∃ r, r ∈ A.turn.fromL q ∧ A.turn.Via r (d :: l) p))
  constructor
  ·rintro ⟨r, h1, h2, h3⟩
   have hr := via_nn hA hp h1
   exact ⟨h3, .inr ⟨r, (turn_from hA hr hq).2 h2, (ih hr).1 h1⟩⟩
  ·rintro ⟨h1, h2 | ⟨r, h2, h3⟩⟩
   ·exact absurd h2.1 (by simp)
   ·have hr := (fromL_nn (turn_ok hA) h2).1
    exact ⟨r, (ih hr).2 h3, (turn_from hA hr hq).1 h2, h1⟩
theorem run_mem {A : Nf} (hA : A.Ok) : ∀ (b : List Nat) (l : List Int) (q : Int), b ≠ [] → (q ∈ A.run b l ↔ ∃ s ∈ l, ∃ p, p ∈ A.fromL s ∧ A.Via p b q)
 | [], _, _, h => absurd rfl h
 | [c], l, q, _ => by
  show q ∈ A.step l c ↔ _
  rw [step_mem hA]
  constructor
  ·rintro ⟨h0, ⟨s, h1, h2⟩, h3⟩
   exact ⟨s, h1, q, h2, h3, .inl ⟨rfl, rfl⟩⟩
  ·rintro ⟨s, h1, p, h2, h3, ⟨_, rfl⟩ | ⟨_, _, h⟩⟩
   ·exact ⟨(fromL_nn hA h2).1, ⟨s, h1, h2⟩, h3⟩
   ·exact h.elim
 | c :: d :: b, l, q, _ => by
  show q ∈ A.run (d :: b) (A.step l c) ↔ _
  rw [run_mem hA (d :: b) _ q (by simp)]
  constructor
  ·rintro ⟨s, h1, p, h2, h3⟩
   obtain ⟨_, ⟨s0, h5, h6⟩, h7⟩ := (step_mem hA).1 h1
   exact ⟨s0, h5, s, h6, h7, .inr ⟨p, h2, h3⟩⟩
  ·rintro ⟨s0, h5, s, h6, h7, h8 | ⟨p, h2, h3⟩⟩
   ·exact absurd h8.1 (by simp)
   ·exact ⟨s, (step_mem hA).2 ⟨(fromL_nn hA h6).1, ⟨s0, h5, h6⟩, h7⟩, p, h2, h3⟩
theorem acc1_iff {A : Nf} (hA : A.Ok) {q : Int} (h : 0 ≤ q) : A.acc1 q = true ↔ q ∈ A.last := by
 unfold Nf.acc1
 rw [if_neg (by omega), setM_bit _ _ _ (fun p hp => by have := (hA.last.2 p hp).1; omega), show ((q.toNat : Nat) : Int) = q by omega]
 simp
theorem fromL_begin (A : Nf) : A.fromL (-1) = A.first := by unfold Nf.fromL; rw [if_pos rfl]
theorem matches_iff {A : Nf} (hA : A.Ok) {b : List Nat} (hb : b ≠ []) : A.matches b = true ↔ ∃ p q, p ∈ A.first ∧ A.Via p b q ∧ q ∈ A.last := by
 unfold Nf.matches Nf.accepts
 rw [List.any_eq_true]
 constructor
 ·rintro ⟨q, h1, h2⟩
  obtain ⟨s, hs, p, h3, h4⟩ := (run_mem hA b [-1] q hb).1 h1
  rw [List.mem_singleton] at hs; subst hs
  have hp := (fromL_nn hA h3).1
  rw [fromL_begin] at h3
  exact ⟨p, q, h3, h4, (acc1_iff hA (via_nn hA hp h4)).1 h2⟩
 ·rintro ⟨p, q, h1, h2, h3⟩
  have hp : 0 ≤ p := by have := (hA.first.2 p h1).1; omega
  exact ⟨q, (run_mem hA b [-1] q hb).2 ⟨-1, by simp, p, by rw [fromL_begin]; exact h1, h2⟩, (acc1_iff hA (via_nn hA hp h2)).2 h3⟩
theorem matches_turn {A : Nf} (hA : A.Ok) (b : List Nat) : A.turn.matches b.reverse = A.matches b := by
 by_cases hb : b = []
 ·subst hb
  have h : ∀ B : Nf, B.matches [] = B.empty := fun B => by
   unfold Nf.matches Nf.run Nf.accepts
   rw [List.foldl_nil, List.any_cons, List.any_nil, Bool.or_false]
   unfold Nf.acc1; rw [if_pos rfl]
  rw [List.reverse_nil, h, h]; rfl
 ·have hb2 : b.reverse ≠ [] := by simpa using hb
  rw [Bool.eq_iff_iff, matches_iff (turn_ok hA) hb2, matches_iff hA hb]
  have key := fun {p q : Int} (hp : 0 ≤ p) (hq : 0 ≤ q) => via_turn hA b.reverse hp hq
  rw [List.reverse_reverse] at key
  constructor
  ·rintro ⟨q, p, h1, h2, h3⟩
   have hq : 0 ≤ q := by have := (hA.last.2 q h1).1; omega
   have hp : 0 ≤ p := by have := (hA.first.2 p h3).1; omega
   exact ⟨p, q, h3, (key hp hq).2 h2, h1⟩
  ·rintro ⟨p, q, h1, h2, h3⟩
   have hq : 0 ≤ q := by have := (hA.last.2 q h3).1; omega
   have hp : 0 ≤ p := by have := (hA.first.2 p h1).1; omega
   exact ⟨q, p, h3, (key hp hq).1 h2, h1⟩
end Go.Rx

