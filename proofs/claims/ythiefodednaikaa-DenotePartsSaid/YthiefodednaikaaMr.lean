/- Trees of regexes, what they mean, and how they lie in memory; plain, no program is named. No condition. -/
import Derived.Test.YthiefodednaikaaMc
/- Trees of regexes: what they are, and how they lie in memory. Nothing of a program is named. -/
set_option linter.unusedVariables false
set_option linter.unusedSimpArgs false
namespace Go.Rx
open Go Go.Eng

/-- A tree, with the address and the capacity of each node's list of subs. -/
inductive T where
  | node (k s0 s1 s2 s3 mn mx : Int) (a : Option Addr) (c : Nat) (subs : List T)
def T.k : T → Int
  | .node k _ _ _ _ _ _ _ _ _ => k
def T.s0 : T → Int
  | .node _ s _ _ _ _ _ _ _ _ => s
def T.s1 : T → Int
  | .node _ _ s _ _ _ _ _ _ _ => s
def T.s2 : T → Int
  | .node _ _ _ s _ _ _ _ _ _ => s
def T.s3 : T → Int
  | .node _ _ _ _ s _ _ _ _ _ => s
def T.mn : T → Int
  | .node _ _ _ _ _ x _ _ _ _ => x
def T.mx : T → Int
  | .node _ _ _ _ _ _ x _ _ _ => x
def T.a : T → Option Addr
  | .node _ _ _ _ _ _ _ a _ _ => a
def T.c : T → Nat
  | .node _ _ _ _ _ _ _ _ c _ => c
def T.subs : T → List T
  | .node _ _ _ _ _ _ _ _ _ l => l
def T.sl (t : T) : Value := .slice t.a t.subs.length t.c
def T.cs (t : T) : List Value := [.int .u8 t.k, .int .u64 t.s0, .int .u64 t.s1, .int .u64 t.s2, .int .u64 t.s3, .int .i64 t.mn, .int .i64 t.mx, t.sl]
def T.v (t : T) : Value := .agg #[.int .u8 t.k, .int .u64 t.s0, .int .u64 t.s1, .int .u64 t.s2, .int .u64 t.s3, .int .i64 t.mn, .int .i64 t.mx, .slice t.a t.subs.length t.c]

/-- The numbers of a node are those that fit. -/
structure OkN (k s0 s1 s2 s3 mn mx : Int) : Prop where
  k : 0 ≤ k ∧ k < 256
  s0 : 0 ≤ s0 ∧ s0 < 18446744073709551616
  s1 : 0 ≤ s1 ∧ s1 < 18446744073709551616
  s2 : 0 ≤ s2 ∧ s2 < 18446744073709551616
  s3 : 0 ≤ s3 ∧ s3 < 18446744073709551616
  mn : -9223372036854775808 ≤ mn ∧ mn ≤ 9223372036854775807
  mx : -9223372036854775808 ≤ mx ∧ mx ≤ 9223372036854775807
mutual
def Rep (m : Mem) : T → Prop
  | .node k s0 s1 s2 s3 mn mx a _ l => l.length ≤ 1000000000000000 ∧ (l = [] ∨ ∃ b o, a = some ⟨b, o, none⟩ ∧ RepAt m b o l) ∧ OkN k s0 s1 s2 s3 mn mx
def RepAt (m : Mem) (b : Nat) : Nat → List T → Prop
  | _, [] => True
  | o, t :: l => m.reads b o t.cs ∧ Rep m t ∧ RepAt m b (o + 8) l
end
theorem Rep_iff {m : Mem} {t : T} : Rep m t → (t.subs.length ≤ 1000000000000000 ∧ (t.subs = [] ∨ ∃ b o, t.a = some ⟨b, o, none⟩ ∧ RepAt m b o t.subs)) := by
  cases t; simp only [Rep, T.subs, T.a]; exact fun h => ⟨h.1, h.2.1⟩
theorem Rep_ok {m : Mem} {t : T} : Rep m t → OkN t.k t.s0 t.s1 t.s2 t.s3 t.mn t.mx := by
  cases t; simp only [Rep]; exact fun h => h.2.2
theorem Rep_mk {m : Mem} {t : T} (h1 : t.subs.length ≤ 1000000000000000) (h2 : t.subs = [] ∨ ∃ b o, t.a = some ⟨b, o, none⟩ ∧ RepAt m b o t.subs) (h3 : OkN t.k t.s0 t.s1 t.s2 t.s3 t.mn t.mx) : Rep m t := by
  cases t; simp only [Rep]; exact ⟨h1, h2, h3⟩
mutual
theorem Rep.mono {m m' : Mem} (h : m.le m') : ∀ t : T, Rep m t → Rep m' t
  | .node _ _ _ _ _ _ _ a _ l, hr => by
    simp only [Rep] at *
    refine ⟨hr.1, ?_, hr.2.2⟩
    rcases hr.2.1 with hr | ⟨b, o, h1, h2⟩
    · exact .inl hr
    · exact .inr ⟨b, o, h1, RepAt.mono h b o l h2⟩
theorem RepAt.mono {m m' : Mem} (h : m.le m') (b : Nat) : ∀ (o : Nat) (l : List T), RepAt m b o l → RepAt m' b o l
  | _, [], _ => by simp only [RepAt]
  | o, t :: l, hr => by
    simp only [RepAt] at *
    exact ⟨hr.1.mono h, Rep.mono h t hr.2.1, RepAt.mono h b (o + 8) l hr.2.2⟩
end
theorem RepAt.get {m : Mem} {b : Nat} : ∀ {o : Nat} {l : List T} {i : Nat} {t : T}, RepAt m b o l → l[i]? = some t → m.reads b (o + i * 8) t.cs ∧ Rep m t
  | o, [], i, t, _, hi => by simp at hi
  | o, x :: l, 0, t, h, hi => by
    simp only [RepAt] at h
    simp at hi; subst hi
    exact ⟨by simpa using h.1, h.2.1⟩
  | o, x :: l, i + 1, t, h, hi => by
    simp only [RepAt] at h
    have := h.2.2.get (i := i) (by simpa using hi)
    rw [show o + (i + 1) * 8 = o + 8 + i * 8 by omega]
    exact this
mutual
def T.nodes : T → List T
  | .node k s0 s1 s2 s3 mn mx a c l => .node k s0 s1 s2 s3 mn mx a c l :: nodesL l
def nodesL : List T → List T
  | [] => []
  | t :: l => t.nodes ++ nodesL l
end
theorem nodes_eq (t : T) : t.nodes = t :: nodesL t.subs := by cases t; simp only [T.nodes, T.subs]
theorem nodesL_append (l r : List T) : nodesL (l ++ r) = nodesL l ++ nodesL r := by
  induction l with
  | nil => simp [nodesL]
  | cons t l ih => simp [nodesL, ih, List.append_assoc]
theorem nodesL_take {l : List T} {i : Nat} {t : T} (h : l[i]? = some t) : nodesL (l.take (i + 1)) = nodesL (l.take i) ++ t.nodes := by
  have : l.take (i + 1) = l.take i ++ [t] := by
    rw [List.take_add_one, h]; rfl
  rw [this, nodesL_append]; simp [nodesL]
theorem nodesL_split {l : List T} {i : Nat} {t : T} (h : l[i]? = some t) : nodesL l = nodesL (l.take i) ++ (t.nodes ++ nodesL (l.drop (i + 1))) := by
  have hlt := (List.getElem?_eq_some_iff.1 h).1
  have e : l = l.take i ++ (t :: l.drop (i + 1)) := by
    have := List.drop_eq_getElem_cons hlt
    rw [(List.getElem?_eq_some_iff.1 h).2] at this
    rw [← this, List.take_append_drop]
  conv => lhs; rw [e, nodesL_append]
  simp [nodesL]
theorem nodes_at {t x z : T} {i q : Nat} (hx : t.subs[i]? = some x) (hz : x.nodes[q]? = some z) : t.nodes[1 + (nodesL (t.subs.take i)).length + q]? = some z := by
  have hq := (List.getElem?_eq_some_iff.1 hz).1
  rw [nodes_eq, show 1 + (nodesL (t.subs.take i)).length + q = ((nodesL (t.subs.take i)).length + q) + 1 by omega, List.getElem?_cons_succ, nodesL_split hx, List.getElem?_append_right (by omega), List.getElem?_append_left (by omega), show (nodesL (List.take i t.subs)).length + q - (nodesL (List.take i t.subs)).length = q by omega]
  exact hz
theorem sub_lt {t x : T} (h : x ∈ t.subs) : SizeOf.sizeOf x < SizeOf.sizeOf t := by
  cases t with
  | node k s0 s1 s2 s3 mn mx a c l =>
    have h' : x ∈ l := h
    have := List.sizeOf_lt_of_mem h'
    simp only [T.node.sizeOf_spec]
    omega
theorem fits_v (t : T) : Shape.fitsL [.agg [.int .u8, .int .u64, .int .u64, .int .u64, .int .u64, .int .i64, .int .i64, .slice]] [t.v] = true := by
  simp [Shape.fitsL, Shape.fits, T.v]

mutual
theorem rep_node {m : Mem} : ∀ (t : T), Rep m t → ∀ x ∈ t.nodes, Rep m x
  | .node k s0 s1 s2 s3 mn mx a c l, hr, x, hx => by
    simp only [T.nodes, List.mem_cons] at hx
    rcases hx with rfl | hx
    · exact hr
    · simp only [Rep] at hr
      rcases hr.2.1 with h | ⟨b, o, _, h⟩
      · subst h; simp [nodesL] at hx
      · exact rep_nodeL b o l h x hx
theorem rep_nodeL {m : Mem} (b : Nat) : ∀ (o : Nat) (l : List T), RepAt m b o l → ∀ x ∈ nodesL l, Rep m x
  | _, [], _, x, hx => by simp [nodesL] at hx
  | o, t :: l, hr, x, hx => by
    simp only [RepAt] at hr
    simp only [nodesL, List.mem_append] at hx
    rcases hx with hx | hx
    · exact rep_node t hr.2.1 x hx
    · exact rep_nodeL b (o + 8) l hr.2.2 x hx
end
theorem rep_nodes {m : Mem} {t x : T} (h : Rep m t) (hx : x ∈ t.nodes) : Rep m x := rep_node t h x hx

/- What the program asks of trees. -/
def bounds (least most : Int) : Bool := !(decide (least < 0) || decide (least > 16) || (least == 1 && most == 1)) && (most == -1 || (decide (most ≥ 1) && decide (most ≤ 16) && decide (most ≥ least)))
def T.has (t : T) (k : Int) : Bool := t.subs.any fun x => x.k == k
def T.light (t : T) : Bool := decide (t.nodes.length ≤ 10000)
def T.setZ (t : T) : Bool := t.s0 == 0 && t.s1 == 0 && t.s2 == 0 && t.s3 == 0
def T.right (t : T) : Bool :=
  !(t.k != 2 && !t.setZ || (t.k != 5 && (t.mn != 0 || t.mx != 0) || (decide (t.k < 3) && decide (0 < t.subs.length)))) &&
  (if t.k = 1 then true else if t.k = 2 then !t.setZ else if t.k = 3 then decide (1 < t.subs.length) && (!t.has 1 && !t.has 3) else if t.k = 4 then decide (1 < t.subs.length) && !t.has 4
    else if t.k = 5 then t.subs.length == 1 && (bounds t.mn t.mx && !t.has 1) else t.k == 6 && t.subs.length == 1)
def T.clean (t : T) : Bool := t.light && t.nodes.all T.right
def T.size (t : T) : Int := if t.light then t.nodes.length else 10001
def T.groups (t : T) : Int := if t.light then (t.nodes.countP fun x => x.k == 6 : Nat) else 10001
def imax (x y : Int) : Int := if y > x then y else x
def imin (x y : Int) : Int := if y < x then y else x
def posR (k mn mx sum : Int) : Int := imin (if k = 5 then sum * imin (if mx = -1 then imax (imax mn 0) 1 else imax (imax mn 0) mx) 10001 else sum) 10001
mutual
def T.pos : T → Int
  | .node k _ _ _ _ mn mx _ _ l => posR k mn mx ((if k = 2 then 1 else 0) + posL l)
def posL : List T → Int
  | [] => 0
  | t :: l => t.pos + posL l
end
def T.positions (t : T) : Int := if t.light then t.pos else 10001
def T.check (t : T) : Int := if t.clean = false then 80 else if t.size > 120 then 81 else if t.positions > 400 then 82 else if t.groups > 9 then 83 else 0
mutual
def T.same : T → T → Bool
  | .node k s0 s1 s2 s3 mn mx _ _ l, .node k' s0' s1' s2' s3' mn' mx' _ _ l' => k == k' && ((s0 == s0' && s1 == s1' && s2 == s2' && s3 == s3') && (mn == mn' && (mx == mx' && sameL l l')))
def sameL : List T → List T → Bool
  | [], [] => true
  | t :: l, t' :: l' => t.same t' && sameL l l'
  | _, _ => false
end
theorem same_eq (t u : T) : t.same u = (t.k == u.k && ((t.s0 == u.s0 && t.s1 == u.s1 && t.s2 == u.s2 && t.s3 == u.s3) && (t.mn == u.mn && (t.mx == u.mx && sameL t.subs u.subs)))) := by
  cases t; cases u; simp only [T.same, T.k, T.s0, T.s1, T.s2, T.s3, T.mn, T.mx, T.subs]
theorem sameL_len : ∀ {l r : List T}, ¬ l.length = r.length → sameL l r = false
  | [], [], h => by simp at h
  | [], _ :: _, _ => by simp [sameL]
  | _ :: _, [], _ => by simp [sameL]
  | x :: l, y :: r, h => by
    simp only [sameL, sameL_len (l := l) (r := r) (by simpa using h), Bool.and_false]
theorem sameL_at : ∀ {l r : List T} {i : Nat} {x y : T}, l[i]? = some x → r[i]? = some y → x.same y = false → sameL l r = false
  | [], r, i, x, y, h, _, _ => by simp at h
  | _ :: _, [], i, x, y, _, h, _ => by simp at h
  | a :: l, b :: r, 0, x, y, h, k, e => by
    simp at h k; subst h k
    simp [sameL, e]
  | a :: l, b :: r, i + 1, x, y, h, k, e => by
    simp only [sameL, sameL_at (l := l) (r := r) (i := i) (by simpa using h) (by simpa using k) e, Bool.and_false]
theorem sameL_take : ∀ {l r : List T} {i : Nat} {x y : T}, l[i]? = some x → r[i]? = some y → sameL (l.take i) (r.take i) = true → x.same y = true → True → sameL (l.take (i + 1)) (r.take (i + 1)) = true
  | [], r, i, x, y, h, _, _, _, _ => by simp at h
  | _ :: _, [], i, x, y, _, h, _, _, _ => by simp at h
  | a :: l, b :: r, 0, x, y, h, k, _, e, _ => by
    simp at h k; subst h k
    simp [sameL, e]
  | a :: l, b :: r, i + 1, x, y, h, k, hs, e, _ => by
    simp only [List.take_succ_cons, sameL, Bool.and_eq_true] at hs ⊢
    exact ⟨hs.1, sameL_take (by simpa using h) (by simpa using k) hs.2 e trivial⟩
theorem pos_eq (t : T) : t.pos = posR t.k t.mn t.mx ((if t.k = 2 then 1 else 0) + posL t.subs) := by
  cases t; simp only [T.pos, T.k, T.mn, T.mx, T.subs]; congr 1
theorem posL_append (l r : List T) : posL (l ++ r) = posL l + posL r := by
  induction l with
  | nil => simp [posL]
  | cons t l ih => simp [posL, ih, Int.add_assoc]
theorem posL_take {l : List T} {i : Nat} {t : T} (h : l[i]? = some t) : posL (l.take (i + 1)) = posL (l.take i) + t.pos := by
  have : l.take (i + 1) = l.take i ++ [t] := by
    rw [List.take_add_one, h]; rfl
  rw [this, posL_append]; simp [posL]
theorem imax_le (x y : Int) : x ≤ imax x y ∧ y ≤ imax x y := by unfold imax; split <;> omega
theorem imin_le (x y : Int) : imin x y ≤ x ∧ imin x y ≤ y := by unfold imin; split <;> omega
theorem imin_nn {x y : Int} (h : 0 ≤ x) (k : 0 ≤ y) : 0 ≤ imin x y := by unfold imin; split <;> omega
def posF (mn mx : Int) : Int := imin (if mx = -1 then imax (imax mn 0) 1 else imax (imax mn 0) mx) 10001
theorem posF_bd (mn mx : Int) : 0 ≤ posF mn mx ∧ posF mn mx ≤ 10001 := by
  unfold posF
  refine ⟨imin_nn ?_ (by omega), (imin_le _ _).2⟩
  have h1 := imax_le mn 0
  split
  · have := imax_le (imax mn 0) 1; omega
  · have := imax_le (imax mn 0) mx; omega
theorem posR_bd {k mn mx sum : Int} (h : 0 ≤ sum) : 0 ≤ posR k mn mx sum ∧ posR k mn mx sum ≤ 10001 := by
  have h2 := Int.mul_nonneg h (posF_bd mn mx).1
  unfold posR
  refine ⟨imin_nn ?_ (by omega), (imin_le _ _).2⟩
  split
  · exact h2
  · exact h
mutual
theorem pos_bd : ∀ t : T, 0 ≤ t.pos ∧ t.pos ≤ 10001
  | .node k _ _ _ _ mn mx _ _ l => by
    simp only [T.pos]
    have := posL_nn l
    exact posR_bd (by split <;> omega)
theorem posL_nn : ∀ l : List T, 0 ≤ posL l
  | [] => by simp [posL]
  | t :: l => by
    simp only [posL]
    have := pos_bd t
    have := posL_nn l
    omega
end
theorem posL_le : ∀ l : List T, posL l ≤ 10001 * l.length
  | [] => by simp [posL]
  | t :: l => by
    simp only [posL, List.length_cons]
    have := pos_bd t
    have := posL_le l
    omega
theorem subs_le (t : T) : t.subs.length < t.nodes.length := by
  rw [nodes_eq, List.length_cons]
  have : ∀ l : List T, l.length ≤ (nodesL l).length := by
    intro l
    induction l with
    | nil => simp [nodesL]
    | cons x l ih => simp only [nodesL, List.length_cons, List.length_append]; rw [nodes_eq]; simp; omega
  have := this t.subs
  omega
theorem sub_nodes {t x : T} (h : x ∈ t.subs) : x.nodes.length < t.nodes.length := by
  obtain ⟨i, hi⟩ := List.getElem?_of_mem h
  rw [nodes_eq t, List.length_cons, nodesL_split hi]
  simp; omega
/-- Is a byte in the set of a Class? -/
def T.hasB (t : T) (c : Nat) : Bool := ((if c / 64 = 0 then t.s0 else if c / 64 = 1 then t.s1 else if c / 64 = 2 then t.s2 else t.s3).toNat).testBit (c % 64)
end Go.Rx

/- Sets of indices as nine words, and sets of bytes as four. Nothing of a program is named. -/
set_option linter.unusedVariables false
set_option linter.unusedSimpArgs false
namespace Go.Rx
open Go Go.Eng Go.RowKit

def wdN (f j : Nat) : Nat := (f >>> (64 * j)) % 2 ^ 64
theorem wdN_lt (f j : Nat) : wdN f j < 18446744073709551616 := by
  unfold wdN
  exact Nat.mod_lt _ (by decide)
theorem wdN_bit (f j k : Nat) : (wdN f j).testBit k = (decide (k < 64) && f.testBit (64 * j + k)) := by
  unfold wdN
  rw [Nat.testBit_mod_two_pow, Nat.testBit_shiftRight]
theorem wdN_or (f g j : Nat) : wdN (f ||| g) j = wdN f j ||| wdN g j := by
  apply Nat.eq_of_testBit_eq
  intro k
  simp only [wdN_bit, Nat.testBit_or]
  cases decide (k < 64) <;> simp
theorem wdN_pow {q r j : Nat} (hr : r < 64) : wdN (2 ^ (64 * q + r)) j = if j = q then 2 ^ r else 0 := by
  apply Nat.eq_of_testBit_eq
  intro k
  rw [wdN_bit, Nat.testBit_two_pow]
  by_cases hj : j = q
  · subst hj
    rw [if_pos rfl, Nat.testBit_two_pow]
    by_cases hk : k < 64
    · simp [hk]
    · have : ¬ r = k := by omega
      simp [hk, this]
  · rw [if_neg hj]
    simp only [Nat.zero_testBit, Bool.and_eq_false_iff, decide_eq_false_iff_not]
    omega
theorem wrapU (n : Nat) (h : n < 18446744073709551616) : IntKind.u64.wrap (n : Int) = n := by
  unfold IntKind.wrap
  have e : (2 : Int) ^ 64 = 18446744073709551616 := by decide
  simp only [IntKind.bits, IntKind.signed, Bool.false_and, Bool.false_eq_true, if_false, e]
  omega
theorem bvOf (a : Nat) (h : a < 18446744073709551616) : (BitVec.ofInt 64 (a : Int)).toNat = a := by
  rw [BitVec.toNat_ofInt]
  have e : ((2 : Nat) ^ 64 : Nat) = 18446744073709551616 := by decide
  rw [e]; omega
theorem or_words (a b : Nat) (ha : a < 18446744073709551616) (hb : b < 18446744073709551616) : IntKind.u64.wrap ((BitVec.ofInt 64 (a : Int) ||| BitVec.ofInt 64 (b : Int)).toNat : Int) = ((a ||| b : Nat) : Int) := by
  rw [BitVec.toNat_or, bvOf a ha, bvOf b hb]
  exact wrapU _ (Nat.or_lt_two_pow (n := 64) ha hb)
theorem bit_word (a r : Nat) (ha : a < 18446744073709551616) : (IntKind.u64.wrap ((BitVec.ofInt 64 (Int.fdiv (a : Int) (2 ^ r)) &&& BitVec.ofInt 64 1).toNat : Int) == 1) = a.testBit r := by
  have e : Int.fdiv (a : Int) (2 ^ r) = ((a >>> r : Nat) : Int) := by
    rw [Nat.shiftRight_eq_div_pow, Int.fdiv_eq_ediv_of_nonneg _ (Int.pow_nonneg (by omega))]
    push_cast
    rfl
  have hlt : a >>> r < 18446744073709551616 := Nat.lt_of_le_of_lt (Nat.shiftRight_le a r) ha
  rw [e, BitVec.toNat_and, bvOf _ hlt]
  have h1 : (BitVec.ofInt 64 1).toNat = 1 := by decide
  rw [h1, wrapU _ (Nat.lt_of_le_of_lt Nat.and_le_left hlt), Nat.and_one_is_mod]
  have e2 : a.testBit r = decide (a >>> r % 2 = 1) := by
    rw [Nat.shiftRight_eq_div_pow]; exact Nat.testBit_eq_decide_div_mod_eq
  rw [e2, Bool.eq_iff_iff]
  simp only [beq_iff_eq, decide_eq_true_eq]
  omega
/-- The nine words of a set of indices. -/
def plL (f : Nat) : List Value := [.int .u64 (wdN f 0 : Nat), .int .u64 (wdN f 1 : Nat), .int .u64 (wdN f 2 : Nat), .int .u64 (wdN f 3 : Nat), .int .u64 (wdN f 4 : Nat), .int .u64 (wdN f 5 : Nat), .int .u64 (wdN f 6 : Nat), .int .u64 (wdN f 7 : Nat), .int .u64 (wdN f 8 : Nat)]
def plV (f : Nat) : Value := .agg #[.int .u64 (wdN f 0 : Nat), .int .u64 (wdN f 1 : Nat), .int .u64 (wdN f 2 : Nat), .int .u64 (wdN f 3 : Nat), .int .u64 (wdN f 4 : Nat), .int .u64 (wdN f 5 : Nat), .int .u64 (wdN f 6 : Nat), .int .u64 (wdN f 7 : Nat), .int .u64 (wdN f 8 : Nat)]
theorem plL_get {f j : Nat} (h : j < 9) : (plL f)[j]? = some (.int .u64 (wdN f j : Nat)) := by
  have : j = 0 ∨ j = 1 ∨ j = 2 ∨ j = 3 ∨ j = 4 ∨ j = 5 ∨ j = 6 ∨ j = 7 ∨ j = 8 := by omega
  rcases this with rfl | rfl | rfl | rfl | rfl | rfl | rfl | rfl | rfl <;> rfl
theorem pl_at {q r : Nat} (hq : q < 9) (hr : r < 64) : splice (List.replicate 9 (Value.int .u64 0)) q [.int .u64 ((2 ^ r : Nat) : Int)] = plL (2 ^ (64 * q + r)) := by
  unfold plL
  simp only [wdN_pow hr]
  have : q = 0 ∨ q = 1 ∨ q = 2 ∨ q = 3 ∨ q = 4 ∨ q = 5 ∨ q = 6 ∨ q = 7 ∨ q = 8 := by omega
  rcases this with rfl | rfl | rfl | rfl | rfl | rfl | rfl | rfl | rfl <;> rfl
/-- The words of f or g up to k, those of f behind it. -/
def orL (f g k : Nat) : List Value := (List.range 9).map fun j => .int .u64 ((if j < k then wdN (f ||| g) j else wdN f j : Nat) : Int)
theorem orL_0 (f g : Nat) : orL f g 0 = plL f := rfl
theorem orL_9 (f g : Nat) : orL f g 9 = plL (f ||| g) := rfl
theorem orL_get {f g k j : Nat} (h : j < 9) : (orL f g k)[j]? = some (.int .u64 ((if j < k then wdN (f ||| g) j else wdN f j : Nat) : Int)) := by
  simp [orL, h]
theorem orL_step {f g k : Nat} (h : k < 9) : splice (orL f g k) k [.int .u64 ((wdN f k ||| wdN g k : Nat) : Int)] = orL f g (k + 1) := by
  rw [← wdN_or]
  have : k = 0 ∨ k = 1 ∨ k = 2 ∨ k = 3 ∨ k = 4 ∨ k = 5 ∨ k = 6 ∨ k = 7 ∨ k = 8 := by omega
  rcases this with rfl | rfl | rfl | rfl | rfl | rfl | rfl | rfl | rfl <;> rfl
end Go.Rx

/- To which indices a tree leads. Nothing of a program is named. -/
set_option linter.unusedVariables false
set_option linter.unusedSimpArgs false
set_option linter.unusedSectionVars false
namespace Go.Rx
open Go Go.Eng Go.RowKit

/-- A string of bytes, as it lies in memory. -/
def Byt (m : Mem) (a : Option Addr) (s : List Nat) : Prop := (s = [] ∨ ∃ b o, a = some ⟨b, o, none⟩ ∧ m.reads b o (s.map fun c : Nat => Value.int .u8 c)) ∧ ∀ c ∈ s, c < 256
theorem Byt.mono {m m' : Mem} {a s} (h : Byt m a s) (hm : m.le m') : Byt m' a s := by
  refine ⟨?_, h.2⟩
  rcases h.1 with h | ⟨b, o, h1, h2⟩
  · exact .inl h
  · exact .inr ⟨b, o, h1, h2.mono hm⟩
theorem Byt.get {m : Mem} {a s} (h : Byt m a s) {i c : Nat} (hi : s[i]? = some c) : (∃ b o, a = some ⟨b, o, none⟩ ∧ m b (o + i) = some (.int .u8 c)) ∧ c < 256 := by
  refine ⟨?_, h.2 c (List.mem_of_getElem? hi)⟩
  rcases h.1 with h | ⟨b, o, h1, h2⟩
  · subst h; simp at hi
  · exact ⟨b, o, h1, h2 i _ (by rw [List.getElem?_map, hi]; rfl)⟩

def clsAt (t : T) (back : Bool) (f i c out : Nat) : Nat := if (f.testBit (if back then i + 1 else i) && t.hasB c) = true then out ||| 2 ^ (if back then i else i + 1) else out
def clsL (t : T) (back : Bool) (f : Nat) : List Nat → Nat → Nat → Nat
  | [], _, out => out
  | c :: s, i, out => clsL t back f s (i + 1) (clsAt t back f i c out)
def iter (g : Nat → Nat) : Nat → Nat → Nat
  | 0, f => f
  | n + 1, f => iter g n (g f)
/-- The rounds behind the least: until nothing new comes. -/
def starF (g : Nat → Nat) (mx : Int) : Nat → Int → Nat → Nat → Nat
  | 0, _, out, _ => out
  | n + 1, k, out, last => if k = mx then out else if out ||| g last = out then out else starF g mx n (IntKind.i64.wrap (k + 1)) (out ||| g last) (g last)
@[irreducible] def E576 : Nat := 576
theorem E576_eq : E576 = 576 := by unfold E576; rfl
abbrev B576 : Nat := 2 ^ E576
theorem pow_B {n : Nat} (h : n < 576) : 2 ^ n < B576 := Nat.pow_lt_pow_right (by omega) (by rw [E576_eq]; exact h)
def repN (g : Nat → Nat) (mn mx : Int) (f : Nat) : Nat := starF g mx (B576 + 1) mn (iter g mn.toNat f) (iter g mn.toNat f)
mutual
def T.lead (s : List Nat) (back : Bool) : T → Nat → Nat
  | .node k s0 s1 s2 s3 mn mx a c l => fun f =>
    if k = 1 then f else if k = 2 then clsL (.node k s0 s1 s2 s3 mn mx a c l) back f s 0 0
    else if k = 3 then (if back then leadB s back l f else leadF s back l f)
    else if k = 4 then altL s back l f 0
    else if k = 5 then repN (headL s back l) mn mx f
    else if k = 6 then headL s back l f else 0
def leadF (s : List Nat) (back : Bool) : List T → Nat → Nat
  | [] => fun f => f
  | t :: l => fun f => leadF s back l (t.lead s back f)
def leadB (s : List Nat) (back : Bool) : List T → Nat → Nat
  | [] => fun f => f
  | t :: l => fun f => t.lead s back (leadB s back l f)
def altL (s : List Nat) (back : Bool) : List T → Nat → Nat → Nat
  | [] => fun _ out => out
  | t :: l => fun f out => altL s back l f (out ||| t.lead s back f)
def headL (s : List Nat) (back : Bool) : List T → Nat → Nat
  | [] => fun f => f
  | t :: _ => fun f => t.lead s back f
end
section
variable {s : List Nat} {back : Bool}
theorem lead_0 {t : T} (h : t.k = 0) (f : Nat) : t.lead s back f = 0 := by cases t; simp only [T.k] at h; subst h; simp [T.lead]
theorem lead_1 {t : T} (h : t.k = 1) (f : Nat) : t.lead s back f = f := by cases t; simp only [T.k] at h; subst h; simp [T.lead]
theorem lead_2 {t : T} (h : t.k = 2) (f : Nat) : t.lead s back f = clsL t back f s 0 0 := by cases t; simp only [T.k] at h; subst h; simp [T.lead]
theorem lead_3 {t : T} (h : t.k = 3) (f : Nat) : t.lead s back f = if back then leadB s back t.subs f else leadF s back t.subs f := by cases t; simp only [T.k] at h; subst h; simp [T.lead, T.subs]
theorem lead_4 {t : T} (h : t.k = 4) (f : Nat) : t.lead s back f = altL s back t.subs f 0 := by cases t; simp only [T.k] at h; subst h; simp [T.lead, T.subs]
theorem lead_5 {t : T} (h : t.k = 5) (f : Nat) : t.lead s back f = repN (headL s back t.subs) t.mn t.mx f := by cases t; simp only [T.k] at h; subst h; simp [T.lead, T.subs, T.mn, T.mx]
theorem lead_6 {t : T} (h : t.k = 6) (f : Nat) : t.lead s back f = headL s back t.subs f := by cases t; simp only [T.k] at h; subst h; simp [T.lead, T.subs]
theorem starF_succ {g : Nat → Nat} {mx : Int} {n : Nat} {k : Int} {out last : Nat} : starF g mx (n + 1) k out last = (if k = mx then out else if out ||| g last = out then out else starF g mx n (IntKind.i64.wrap (k + 1)) (out ||| g last) (g last)) := rfl
theorem leadF_cons (t : T) (l : List T) (f : Nat) : leadF s back (t :: l) f = leadF s back l (t.lead s back f) := by rw [leadF]
theorem altL_cons (t : T) (l : List T) (f out : Nat) : altL s back (t :: l) f out = altL s back l f (out ||| t.lead s back f) := by rw [altL]
theorem altL_nil (f out : Nat) : altL s back [] f out = out := by rw [altL]
theorem leadB_snoc (l : List T) (x : T) (f : Nat) : leadB s back (l ++ [x]) f = leadB s back l (x.lead s back f) := by
  induction l with
  | nil => simp [leadB]
  | cons t l ih => simp [leadB, ih]
end
theorem drop_at {α : Type} {l : List α} {i : Nat} {x : α} (h : l[i]? = some x) : l.drop i = x :: l.drop (i + 1) := by
  obtain ⟨h1, h2⟩ := List.getElem?_eq_some_iff.1 h
  rw [List.drop_eq_getElem_cons h1, h2]
theorem take_at {α : Type} {l : List α} {i : Nat} {x : α} (h : l[i]? = some x) : l.take (i + 1) = l.take i ++ [x] := by
  rw [List.take_add_one, h]; rfl
theorem clsAt_lt {t : T} {back : Bool} {f i c out : Nat} (hi : i < 575) (h : out < B576) : clsAt t back f i c out < B576 := by
  have hj : (if back then i else i + 1) < 576 := by cases back <;> simp <;> omega
  have hp : 2 ^ (if back then i else i + 1) < B576 := pow_B hj
  have ho := Nat.or_lt_two_pow h hp
  unfold clsAt
  by_cases hc : (f.testBit (if back then i + 1 else i) && t.hasB c) = true
  · rw [if_pos hc]; exact ho
  · rw [if_neg hc]; exact h
theorem clsL_lt {t : T} {back : Bool} {f : Nat} : ∀ (s : List Nat) (i out : Nat), i + s.length < 575 → out < B576 → clsL t back f s i out < B576
  | [], _, _, _, h => h
  | c :: s, i, out, hi, h => clsL_lt s (i + 1) _ (by simp at hi; omega) (clsAt_lt (by simp at hi; omega) h)
theorem iter_lt {g : Nat → Nat} (hg : ∀ f, f < B576 → g f < B576) : ∀ (n f : Nat), f < B576 → iter g n f < B576
  | 0, _, h => h
  | n + 1, f, h => iter_lt hg n _ (hg _ h)
theorem starF_lt {g : Nat → Nat} {mx : Int} (hg : ∀ f, f < B576 → g f < B576) : ∀ (n : Nat) (k : Int) (out last : Nat), out < B576 → last < B576 → starF g mx n k out last < B576
  | 0, _, _, _, h, _ => h
  | n + 1, k, out, last, h, h' => by
    unfold starF
    split
    · exact h
    · split
      · exact h
      · exact starF_lt hg n _ _ _ (Nat.or_lt_two_pow h (hg _ h')) (hg _ h')
section
variable (s : List Nat) (back : Bool) (hs : s.length ≤ 512)
include hs
mutual
theorem lead_lt : ∀ (t : T) (f : Nat), f < B576 → t.lead s back f < B576
  | .node k s0 s1 s2 s3 mn mx a c l, f, h => by
    unfold T.lead
    split
    · exact h
    split
    · exact clsL_lt s 0 0 (by omega) (Nat.two_pow_pos _)
    split
    · split
      · exact leadB_lt l f h
      · exact leadF_lt l f h
    split
    · exact altL_lt l f 0 h (Nat.two_pow_pos _)
    split
    · exact starF_lt (fun f h => headL_lt l f h) _ _ _ _ (iter_lt (fun f h => headL_lt l f h) _ _ h) (iter_lt (fun f h => headL_lt l f h) _ _ h)
    split
    · exact headL_lt l f h
    · exact Nat.two_pow_pos _
theorem leadF_lt : ∀ (l : List T) (f : Nat), f < B576 → leadF s back l f < B576
  | [], f, h => by unfold leadF; exact h
  | t :: l, f, h => by unfold leadF; exact leadF_lt l _ (lead_lt t f h)
theorem leadB_lt : ∀ (l : List T) (f : Nat), f < B576 → leadB s back l f < B576
  | [], f, h => by unfold leadB; exact h
  | t :: l, f, h => by unfold leadB; exact lead_lt t _ (leadB_lt l f h)
theorem altL_lt : ∀ (l : List T) (f out : Nat), f < B576 → out < B576 → altL s back l f out < B576
  | [], f, out, h, h' => by unfold altL; exact h'
  | t :: l, f, out, h, h' => by unfold altL; exact altL_lt l f _ h (Nat.or_lt_two_pow h' (lead_lt t f h))
theorem headL_lt : ∀ (l : List T) (f : Nat), f < B576 → headL s back l f < B576
  | [], f, h => by unfold headL; exact h
  | t :: l, f, h => by unfold headL; exact lead_lt t f h
end
end
/-- Numbers of nine words are the same when their words are. -/
theorem pl_inj {f g : Nat} (hf : f < B576) (hg : g < B576) (h : ∀ j, j < 9 → wdN f j = wdN g j) : f = g := by
  apply Nat.eq_of_testBit_eq
  intro i
  by_cases hi : i < 576
  · have e := congrArg (fun w => Nat.testBit w (i % 64)) (h (i / 64) (by omega))
    simp only [wdN_bit, show 64 * (i / 64) + i % 64 = i by omega, show i % 64 < 64 by omega, decide_true, Bool.true_and] at e
    exact e
  · rw [Nat.testBit_lt_two_pow (Nat.lt_of_lt_of_le hf (Nat.pow_le_pow_right (by omega) (by rw [E576_eq]; omega))), Nat.testBit_lt_two_pow (Nat.lt_of_lt_of_le hg (Nat.pow_le_pow_right (by omega) (by rw [E576_eq]; omega)))]
abbrev PLK := Int → Int → Int → Int → Int → Int → Int → Int → Int → Mem → Prop
/-- What is done with a set of indices that a call returned. -/
theorem pl_k {X : Nat} {m : Mem} {K : PLK} (k : ∀ m', m.le m' → K (wdN X 0 : Nat) (wdN X 1 : Nat) (wdN X 2 : Nat) (wdN X 3 : Nat) (wdN X 4 : Nat) (wdN X 5 : Nat) (wdN X 6 : Nat) (wdN X 7 : Nat) (wdN X 8 : Nat) m') :
    ∀ (n0 n1 n2 n3 n4 n5 n6 n7 n8 : Int) (m' : Mem), m.le m' → Ret (plV X) (.agg #[.int .u64 n0, .int .u64 n1, .int .u64 n2, .int .u64 n3, .int .u64 n4, .int .u64 n5, .int .u64 n6, .int .u64 n7, .int .u64 n8]) m' [] → K n0 n1 n2 n3 n4 n5 n6 n7 n8 m' := by
  intro n0 n1 n2 n3 n4 n5 n6 n7 n8 m' hm h
  simp only [Ret, plV, Value.agg.injEq, Array.mk.injEq, List.cons.injEq, Value.int.injEq, true_and, and_true] at h
  obtain ⟨rfl, rfl, rfl, rfl, rfl, rfl, rfl, rfl, rfl⟩ := h
  exact k m' hm
theorem pl_fits {X : Nat} : ∀ (v : Value) (m' : Mem) (css : List (List Value)), Ret (plV X) v m' css → Shape.fits (.agg [.int .u64, .int .u64, .int .u64, .int .u64, .int .u64, .int .u64, .int .u64, .int .u64, .int .u64]) v = true := fun v _ _ e => by rw [e]; rfl
theorem pl_cs (f : Nat) : (Nat.beq (List.length (plL f)) 9 && onesL (plL f)) = true := rfl
/-- A tree that may be walked: nothing, or one whose nodes are all right. -/
def T.walks (t : T) : Prop := t.k = 0 ∨ ∀ x ∈ t.nodes, x.right = true
theorem walks_sub {t x : T} (h : t.walks) (h0 : t.k ≠ 0) (hx : x ∈ t.subs) : x.walks := by
  rcases h with h | h
  · exact absurd h h0
  · refine .inr fun y hy => h y ?_
    obtain ⟨i, hi⟩ := List.getElem?_of_mem hx
    rw [nodes_eq, nodesL_split hi]
    simp [hy]
end Go.Rx

/- What regexes mean: what is refused, beginnings, the first of rules. Nothing of a program is named. -/
set_option linter.unusedVariables false
set_option linter.unusedSimpArgs false
namespace Go.Rx
open Go Go.Eng Go.RowKit

def T0 : T := .node 0 0 0 0 0 0 0 none 0 []
def T1 : T := .node 1 0 0 0 0 0 0 none 0 []
theorem rep_T0 (m : Mem) : Rep m T0 := by simp only [T0, Rep]; exact ⟨by simp, .inl trivial, by constructor <;> decide⟩
theorem rep_T1 (m : Mem) : Rep m T1 := by simp only [T1, Rep]; exact ⟨by simp, .inl trivial, by constructor <;> decide⟩
def T.isNone (t : T) : Bool := t.k == 0 && (t.light && (T0.light && t.same T0))
def T.wrong (t : T) (len : Nat) (i : Int) : Int := if (!t.isNone && !(t.check == 0)) = true then 130 else if (len : Int) > 512 then 3 else if i < 0 ∨ i > len then 2 else 0
theorem walks_of_check {t : T} (h : t.check = 0) : t.walks := by
  unfold T.check at h
  split at h
  · exact absurd h (by decide)
  · rename_i hc
    have hc' : t.clean = true := by simpa using hc
    unfold T.clean at hc'
    rw [Bool.and_eq_true] at hc'
    exact .inr fun x hx => List.all_eq_true.1 hc'.2 x hx
theorem wrong_0 {t : T} {len : Nat} {i : Int} (h : t.wrong len i = 0) : t.walks ∧ len ≤ 512 ∧ 0 ≤ i ∧ i ≤ len := by
  unfold T.wrong at h
  split at h
  · exact absurd h (by decide)
  · rename_i hc
    split at h
    · exact absurd h (by decide)
    · split at h
      · exact absurd h (by decide)
      · refine ⟨?_, by omega, by omega, by omega⟩
        simp only [Bool.and_eq_true, Bool.not_eq_true', beq_eq_false_iff_ne, ne_eq, not_and, Decidable.not_not] at hc
        by_cases hn : t.isNone = true
        · left
          unfold T.isNone at hn
          rw [Bool.and_eq_true] at hn
          simpa using hn.1
        · exact walks_of_check (hc (by simpa using hn))
/-- A regex: whether it has anchors, and its tree. -/
structure Rg where
  bg : Bool
  en : Bool
  t : T
def Rg.v (r : Rg) : Value := .agg #[.bool r.bg, .bool r.en, .int .u8 r.t.k, .int .u64 r.t.s0, .int .u64 r.t.s1, .int .u64 r.t.s2, .int .u64 r.t.s3, .int .i64 r.t.mn, .int .i64 r.t.mx, .slice r.t.a r.t.subs.length r.t.c]
def Rg.cs (r : Rg) : List Value := [.bool r.bg, .bool r.en, .int .u8 r.t.k, .int .u64 r.t.s0, .int .u64 r.t.s1, .int .u64 r.t.s2, .int .u64 r.t.s3, .int .i64 r.t.mn, .int .i64 r.t.mx, .slice r.t.a r.t.subs.length r.t.c]
def Rgs (m : Mem) (a : Option Addr) (l : List Rg) : Prop := l.length ≤ 1000000000000000 ∧ (l = [] ∨ ∃ b o, a = some ⟨b, o, none⟩ ∧ ∀ i r, l[i]? = some r → m.reads b (o + i * 10) r.cs) ∧ ∀ r ∈ l, Rep m r.t
theorem Rgs.mono {m m' : Mem} {a l} (h : Rgs m a l) (hm : m.le m') : Rgs m' a l := by
  refine ⟨h.1, ?_, fun r hr => (h.2.2 r hr).mono hm⟩
  rcases h.2.1 with h | ⟨b, o, h1, h2⟩
  · exact .inl h
  · exact .inr ⟨b, o, h1, fun i r hi => (h2 i r hi).mono hm⟩
/-- The indices of a set, in order. -/
def bitsOf (f : Nat) : List Nat := (List.range 513).filter fun i => f.testBit i
theorem bits_len (f : Nat) : (bitsOf f).length ≤ 513 := by
  have := List.length_filter_le (fun i => f.testBit i) (List.range 513)
  simpa [bitsOf] using this
def firstLe (n : Nat) : List Nat → Option Nat
  | [] => none
  | i :: _ => if i > n then none else some i
def Rg.from (s : List Nat) (n : Nat) (r : Rg) : Option Nat := if (r.en && decide ((n : Int) < s.length)) = true then none else if r.bg then (if (r.t.lead s true (2 ^ n)).testBit 0 then some 0 else none) else
  firstLe n (bitsOf (r.t.lead s true (2 ^ n)))
def fromV : Option Nat → List Value
  | some i => [.int .i64 (i : Nat), .bool true]
  | none => [.int .i64 0, .bool false]
def Rg.wrong (r : Rg) (len : Nat) (n : Int) : Int := if r.t.check = 0 then r.t.wrong len n else 130
def rulesW (l : List Rg) (len : Nat) (n : Int) : Int := if (l.length : Int) > 64 then 5 else if l.all (fun r => r.t.check == 0) then T1.wrong len n else 130
def lookS (s : List Nat) (n : Nat) : List Rg → Nat → Option (Nat × Nat)
  | [], _ => none
  | r :: l, k => match r.from s n with
    | some i => some (k, i)
    | none => lookS s n l (k + 1)
def lookV (n : Nat) : Option (Nat × Nat) → List Value
  | some (k, i) => [.agg #[.int .i64 (k : Nat), .int .i64 (i : Nat), .int .i64 (n : Nat)], .bool true]
  | none => [.agg #[.int .i64 0, .int .i64 0, .int .i64 0], .bool false]
def firstS (l : List Rg) (s : List Nat) : Nat → Nat → Option (Nat × Nat × Nat)
  | 0, _ => none
  | c + 1, n => match lookS s n l 0 with
    | some (k, i) => some (k, i, n)
    | none => firstS l s c (n + 1)
def firstV : Option (Nat × Nat × Nat) → List Value
  | some (k, i, n) => [.agg #[.int .i64 (k : Nat), .int .i64 (i : Nat), .int .i64 (n : Nat)], .bool true]
  | none => [.agg #[.int .i64 0, .int .i64 0, .int .i64 0], .bool false]
end Go.Rx

/- Trees that are made. Nothing of a program is named. -/
set_option linter.unusedVariables false
set_option linter.unusedSimpArgs false
namespace Go.Rx
open Go Go.Eng Go.RowKit

/-- A tree that was made, with what is known of it. -/
def TreeR (φ : T → Prop) : Value → Mem → List (List Value) → Prop := fun v m' _ => ∃ t : T, v = t.v ∧ Rep m' t ∧ φ t
abbrev TRK := Int → Int → Int → Int → Int → Int → Int → Option Addr → Nat → Nat → Mem → Prop
theorem tree_k {φ : T → Prop} {m : Mem} {K : TRK} (k : ∀ (t : T) (m' : Mem), m.le m' → Rep m' t → φ t → K t.k t.s0 t.s1 t.s2 t.s3 t.mn t.mx t.a t.subs.length t.c m') :
    ∀ (n0 n1 n2 n3 n4 n5 n6 : Int) (a : Option Addr) (n c : Nat) (m' : Mem), m.le m' → TreeR φ (.agg #[.int .u8 n0, .int .u64 n1, .int .u64 n2, .int .u64 n3, .int .u64 n4, .int .i64 n5, .int .i64 n6, .slice a n c]) m' [] → K n0 n1 n2 n3 n4 n5 n6 a n c m' := by
  rintro n0 n1 n2 n3 n4 n5 n6 a n c m' hm ⟨t, hv, hr, hp⟩
  simp only [T.v, Value.agg.injEq, Array.mk.injEq, List.cons.injEq, Value.int.injEq, Value.slice.injEq, true_and, and_true] at hv
  obtain ⟨rfl, rfl, rfl, rfl, rfl, rfl, rfl, rfl, rfl, rfl⟩ := hv
  exact k t m' hm hr hp
theorem tree_fits {φ : T → Prop} : ∀ (v : Value) (m' : Mem) (css : List (List Value)), TreeR φ v m' css → Shape.fits (.agg [.int .u8, .int .u64, .int .u64, .int .u64, .int .u64, .int .i64, .int .i64, .slice]) v = true := fun v _ _ ⟨t, e, _⟩ => by rw [e]; rfl
def wordI (c j : Nat) : Int := if c / 64 = j then ((2 ^ (c % 64) : Nat) : Int) else 0
/-- The Class of one byte. -/
def letterT (c : Nat) : T := .node 2 (wordI c 0) (wordI c 1) (wordI c 2) (wordI c 3) 0 0 none 0 []
theorem wordI_ok (c j : Nat) : 0 ≤ wordI c j ∧ wordI c j < 18446744073709551616 := by
  unfold wordI
  split
  · have h : (2 : Nat) ^ (c % 64) < 2 ^ 64 := Nat.pow_lt_pow_right (by omega) (by omega)
    have e : (2 : Nat) ^ 64 = 18446744073709551616 := by decide
    rw [e] at h
    generalize (2 : Nat) ^ (c % 64) = w at *
    exact ⟨by omega, by omega⟩
  · omega
theorem rep_letter (c : Nat) (m : Mem) : Rep m (letterT c) := by
  simp only [letterT, Rep]
  exact ⟨by simp, .inl trivial, ⟨by omega, wordI_ok c 0, wordI_ok c 1, wordI_ok c 2, wordI_ok c 3, by omega, by omega⟩⟩
/-- A list of trees as it lies in memory. -/
def RepL (m : Mem) (a : Option Addr) (l : List T) : Prop := l.length ≤ 1000000000000000 ∧ (l = [] ∨ ∃ b o, a = some ⟨b, o, none⟩ ∧ RepAt m b o l)
theorem RepL.mono {m m' : Mem} {a l} (h : RepL m a l) (hm : m.le m') : RepL m' a l := by
  refine ⟨h.1, ?_⟩
  rcases h.2 with h | ⟨b, o, h1, h2⟩
  · exact .inl h
  · exact .inr ⟨b, o, h1, h2.mono hm⟩
theorem Rep.subs {m : Mem} {t : T} (h : Rep m t) : RepL m t.a t.subs := Rep_iff h
def nodeT (k mn mx : Int) (a : Option Addr) (c : Nat) (l : List T) : T := .node k 0 0 0 0 mn mx a c l
theorem rep_node_mk {m : Mem} {k mn mx : Int} {a : Option Addr} {c : Nat} {l : List T} (h : RepL m a l) (hk : 0 ≤ k ∧ k < 256) (h1 : -9223372036854775808 ≤ mn ∧ mn ≤ 9223372036854775807) (h2 : -9223372036854775808 ≤ mx ∧ mx ≤ 9223372036854775807) : Rep m (nodeT k mn mx a c l) := by
  simp only [nodeT, Rep]
  exact ⟨h.1, h.2, ⟨hk, by omega, by omega, by omega, by omega, h1, h2⟩⟩
theorem repL_one {m : Mem} {b : Nat} {t : T} (h : m.reads b 0 t.cs) (hr : Rep m t) : RepL m (some ⟨b, 0, none⟩) [t] := ⟨by simp, .inr ⟨b, 0, rfl, by simp only [RepAt]; exact ⟨h, hr, trivial⟩⟩⟩
def cellsL (l : List T) : List Value := (l.map T.cs).flatten
theorem cellsL_len (l : List T) : (cellsL l).length = l.length * 8 := by
  induction l with
  | nil => rfl
  | cons t l ih => simp [cellsL, T.cs] at ih ⊢; omega
theorem cellsL_snoc (l : List T) (t : T) : cellsL (l ++ [t]) = cellsL l ++ t.cs := by simp [cellsL]
theorem cellsL_append (l r : List T) : cellsL (l ++ r) = cellsL l ++ cellsL r := by simp [cellsL]
theorem repAt_of {m : Mem} {b : Nat} : ∀ {o : Nat} {l : List T}, m.reads b o (cellsL l) → (∀ t ∈ l, Rep m t) → RepAt m b o l
  | o, [], _, _ => by simp only [RepAt]
  | o, t :: l, h, hr => by
    simp only [RepAt]
    refine ⟨fun j v hj => ?_, hr t (by simp), repAt_of (fun j v hj => ?_) fun x hx => hr x (by simp [hx])⟩
    · refine h j v ?_
      simp only [cellsL, List.map_cons, List.flatten_cons]
      rw [List.getElem?_append_left (List.getElem?_eq_some_iff.1 hj).1]; exact hj
    · have := h (8 + j) v (by
        simp only [cellsL, List.map_cons, List.flatten_cons]
        rw [List.getElem?_append_right (by simp [T.cs])]
        have e : 8 + j - t.cs.length = j := by simp [T.cs]
        rw [e]; exact hj)
      rw [show o + 8 + j = o + (8 + j) by omega]; exact this
theorem repL_of {m : Mem} {a : Option Addr} {l : List T} (h : rowRd m a (cellsL l)) (hr : ∀ t ∈ l, Rep m t) (hl : l.length ≤ 1000000000000000) : RepL m a l := by
  refine ⟨hl, ?_⟩
  cases l with
  | nil => exact .inl rfl
  | cons t l =>
    rcases h with h | ⟨b, o, h1, h2⟩
    · simp [cellsL, T.cs] at h
    · exact .inr ⟨b, o, h1, repAt_of h2 hr⟩
theorem row_of_repL {m : Mem} {a : Option Addr} {l : List T} (h : RepL m a l) : rowRd m a (cellsL l) := by
  have key : ∀ (l : List T) (b o : Nat), RepAt m b o l → m.reads b o (cellsL l) := by
    intro l
    induction l with
    | nil => intro b o _ j v hj; simp [cellsL] at hj
    | cons t l ih =>
      intro b o hr j v hj
      simp only [RepAt] at hr
      simp only [cellsL, List.map_cons, List.flatten_cons] at hj
      by_cases hlt : j < 8
      · rw [List.getElem?_append_left (by simpa [T.cs] using hlt)] at hj
        exact hr.1 j v hj
      · rw [List.getElem?_append_right (by simp [T.cs]; omega)] at hj
        have := ih b (o + 8) hr.2.2 (j - 8) v (by simpa [T.cs, cellsL] using hj)
        rw [show o + 8 + (j - 8) = o + j by omega] at this; exact this
  rcases h.2 with h | ⟨b, o, h1, h2⟩
  · subst h; exact .inl rfl
  · exact .inr ⟨b, o, h1, key l b o h2⟩
theorem repL_reps {m : Mem} {a : Option Addr} {l : List T} (h : RepL m a l) : ∀ t ∈ l, Rep m t := by
  rcases h.2 with h | ⟨b, o, _, h⟩
  · subst h; simp
  · intro t ht
    obtain ⟨i, hi⟩ := List.getElem?_of_mem ht
    exact (h.get hi).2
/-- The words of the set of some bytes. -/
def setF (j : Nat) (w c : Nat) : Nat := if c / 64 = j then w ||| 2 ^ (c % 64) else w
def setW (bs : List Nat) (j : Nat) : Nat := bs.foldl (setF j) 0
theorem setW_snoc (l : List Nat) (c j : Nat) : setW (l ++ [c]) j = if c / 64 = j then setW l j ||| 2 ^ (c % 64) else setW l j := by
  unfold setW
  rw [List.foldl_append]; rfl
theorem setW_lt (l : List Nat) (j : Nat) : setW l j < 18446744073709551616 := by
  have key : ∀ (l : List Nat) (w : Nat), w < 2 ^ 64 → l.foldl (setF j) w < 2 ^ 64 := by
    intro l
    induction l with
    | nil => intro w h; exact h
    | cons c l ih =>
      intro w h
      refine ih _ ?_
      unfold setF
      split
      · exact Nat.or_lt_two_pow h (Nat.pow_lt_pow_right (by omega) (by omega))
      · exact h
  exact key l 0 (by decide)
def classT (bs : List Nat) : T := .node 2 (setW bs 0 : Nat) (setW bs 1 : Nat) (setW bs 2 : Nat) (setW bs 3 : Nat) 0 0 none 0 []
theorem rep_class (bs : List Nat) (m : Mem) : Rep m (classT bs) := by
  simp only [classT, Rep]
  have h := setW_lt bs
  exact ⟨by simp, .inl trivial, ⟨by omega, ⟨by omega, by have := h 0; omega⟩, ⟨by omega, by have := h 1; omega⟩, ⟨by omega, by have := h 2; omega⟩, ⟨by omega, by have := h 3; omega⟩, by omega, by omega⟩⟩
def setsL (bs : List Nat) : List Value := [.int .u64 (setW bs 0 : Nat), .int .u64 (setW bs 1 : Nat), .int .u64 (setW bs 2 : Nat), .int .u64 (setW bs 3 : Nat)]
theorem setsL_get (bs : List Nat) {j : Nat} (h : j < 4) : (setsL bs)[j]? = some (.int .u64 (setW bs j : Nat)) := by
  have : j = 0 ∨ j = 1 ∨ j = 2 ∨ j = 3 := by omega
  rcases this with rfl | rfl | rfl | rfl <;> rfl
theorem setsL_step (l : List Nat) {c j : Nat} (hj : c / 64 = j) (h : j < 4) : splice (setsL l) j [.int .u64 ((setW l j ||| 2 ^ (c % 64) : Nat) : Int)] = setsL (l ++ [c]) := by
  unfold setsL
  simp only [setW_snoc, hj]
  have : j = 0 ∨ j = 1 ∨ j = 2 ∨ j = 3 := by omega
  rcases this with rfl | rfl | rfl | rfl <;> rfl
/-- The bytes of a Class of a number. -/
def lettersB (n : Nat) : List Nat := ([[97], [98], [97, 98], [97], [98], [99], [97, 98, 99], [98, 99], [10], [0, 255], [97], [98]][n % 12]?).getD []
end Go.Rx

/- Trees put together by steps. Nothing of a program is named. -/
set_option linter.unusedVariables false
set_option linter.unusedSimpArgs false
namespace Go.Rx
open Go Go.Eng Go.RowKit

def T.good (t : T) : Bool := t.nodes.all T.right
def isG (t : T) : Bool := t.k == 6
theorem nodesL_all (p : T → Bool) : ∀ l : List T, (nodesL l).all p = l.all fun t => t.nodes.all p
  | [] => rfl
  | t :: l => by simp only [nodesL, List.all_append, List.all_cons, nodesL_all p l]
theorem good_eq (t : T) : t.good = (t.right && t.subs.all T.good) := by
  unfold T.good; rw [nodes_eq, List.all_cons, nodesL_all]
def grL (l : List T) : Nat := (nodesL l).countP isG
def szL (l : List T) : Nat := (nodesL l).length
def T.gr (t : T) : Nat := t.nodes.countP isG
theorem szL_append (l r : List T) : szL (l ++ r) = szL l + szL r := by unfold szL; rw [nodesL_append, List.length_append]
theorem grL_append (l r : List T) : grL (l ++ r) = grL l + grL r := by unfold grL; rw [nodesL_append, List.countP_append]
theorem szL_one (t : T) : szL [t] = t.nodes.length := by simp [szL, nodesL]
theorem grL_one (t : T) : grL [t] = t.gr := by simp [grL, nodesL, T.gr]
theorem posL_one (t : T) : posL [t] = t.pos := by simp [posL]
theorem szL_cons (t : T) (l : List T) : szL (t :: l) = t.nodes.length + szL l := by simp [szL, nodesL]
theorem grL_cons (t : T) (l : List T) : grL (t :: l) = t.gr + grL l := by simp [grL, nodesL, T.gr, List.countP_append]
theorem sz_eq (t : T) : t.nodes.length = 1 + szL t.subs := by rw [nodes_eq, List.length_cons, szL]; omega
theorem gr_eq (t : T) : t.gr = (if isG t = true then 1 else 0) + grL t.subs := by
  unfold T.gr; rw [nodes_eq, List.countP_cons, grL]; omega
theorem len_szL (l : List T) : l.length ≤ szL l := by
  induction l with
  | nil => simp
  | cons t l ih => rw [szL_cons, sz_eq, List.length_cons]; omega
def joinL (k : Int) (t : T) : List T := if t.k = k then t.subs else if k = 3 ∧ t.k = 1 then [] else [t]
def mkJoin (k : Int) (a : Option Addr) (c : Nat) : List T → T
  | [] => T1
  | [x] => x
  | x :: y :: l => nodeT k 0 0 a c (x :: y :: l)
theorem has_false {t : T} {k : Int} (h : t.has k = false) : ∀ x ∈ t.subs, x.k ≠ k := by
  intro x hx e
  unfold T.has at h
  have := List.any_eq_false.1 h x hx
  simp [e] at this
theorem has_of {t : T} {k : Int} (h : ∀ x ∈ t.subs, x.k ≠ k) : t.has k = false := by
  unfold T.has
  rw [List.any_eq_false]
  intro x hx
  have := h x hx
  simpa using this
theorem joinL_ok {k : Int} {t : T} (hk : k = 3 ∨ k = 4) (hg : t.good = true) (hp : t.pos ≤ 10000) : (∀ x ∈ joinL k t, x.good = true ∧ x.k ≠ k ∧ (k = 3 → x.k ≠ 1)) ∧ szL (joinL k t) ≤ t.nodes.length ∧ grL (joinL k t) ≤ t.gr ∧ posL (joinL k t) ≤ t.pos := by
  have hg' := hg
  rw [good_eq, Bool.and_eq_true, List.all_eq_true] at hg'
  unfold joinL
  split
  · rename_i hkk
    refine ⟨fun x hx => ⟨hg'.2 x hx, ?_⟩, by rw [sz_eq]; omega, by rw [gr_eq]; omega, ?_⟩
    · have hr := hg'.1
      unfold T.right at hr
      rw [Bool.and_eq_true] at hr
      have hr := hr.2
      rcases hk with rfl | rfl
      · simp only [hkk] at hr
        simp at hr
        exact ⟨has_false hr.2.2 x hx, fun _ => has_false hr.2.1 x hx⟩
      · simp only [hkk] at hr
        simp at hr
        exact ⟨has_false hr.2 x hx, fun h => by omega⟩
    · rw [pos_eq] at hp ⊢
      have h5 : ¬ t.k = 5 := by omega
      have h2 : ¬ t.k = 2 := by omega
      unfold posR at hp ⊢
      rw [if_neg h5, if_neg h2, Int.zero_add] at hp ⊢
      unfold imin at hp ⊢
      split at hp
      · omega
      · split <;> omega
  · rename_i hkk
    split
    · refine ⟨fun x hx => by simp at hx, by simp [szL, nodesL], by simp [grL, nodesL], ?_⟩
      simp only [posL]; exact (pos_bd t).1
    · rename_i h31
      refine ⟨fun x hx => ?_, by rw [szL_one]; exact Nat.le_refl _, by rw [grL_one]; exact Nat.le_refl _, by rw [posL_one]; exact Int.le_refl _⟩
      simp at hx; subst hx
      exact ⟨hg, hkk, fun h => fun h1 => h31 ⟨h, h1⟩⟩
theorem mkJoin_ok {k : Int} (hk : k = 3 ∨ k = 4) (a : Option Addr) (c : Nat) : ∀ {l : List T}, (∀ x ∈ l, x.good = true ∧ x.k ≠ k ∧ (k = 3 → x.k ≠ 1)) → (mkJoin k a c l).good = true ∧ (mkJoin k a c l).nodes.length ≤ 1 + szL l ∧ (mkJoin k a c l).gr ≤ grL l ∧ (mkJoin k a c l).pos ≤ posL l
  | [], _ => ⟨show T1.good = true by decide, show T1.nodes.length ≤ 1 by decide, show T1.gr ≤ 0 by decide, show T1.pos ≤ 0 by decide⟩
  | [x], h => by
    rw [szL_one, grL_one, posL_one]
    exact ⟨(h x (by simp)).1, by show x.nodes.length ≤ _; omega, Nat.le_refl _, Int.le_refl _⟩
  | x :: y :: l, h => by
    show (nodeT k 0 0 a c (x :: y :: l)).good = true ∧ (nodeT k 0 0 a c (x :: y :: l)).nodes.length ≤ _ ∧ (nodeT k 0 0 a c (x :: y :: l)).gr ≤ _ ∧ (nodeT k 0 0 a c (x :: y :: l)).pos ≤ _
    have hs : (nodeT k 0 0 a c (x :: y :: l)).subs = x :: y :: l := rfl
    have hkk : (nodeT k 0 0 a c (x :: y :: l)).k = k := rfl
    have hz : (nodeT k 0 0 a c (x :: y :: l)).setZ = true := rfl
    have hmn : (nodeT k 0 0 a c (x :: y :: l)).mn = 0 := rfl
    have hmx : (nodeT k 0 0 a c (x :: y :: l)).mx = 0 := rfl
    refine ⟨?_, by rw [sz_eq, hs]; exact Nat.le_refl _, ?_, ?_⟩
    · rw [good_eq, Bool.and_eq_true, List.all_eq_true, hs]
      refine ⟨?_, fun z hz => (h z hz).1⟩
      have h1 : k = 3 → (nodeT k 0 0 a c (x :: y :: l)).has 1 = false := fun e => has_of fun z hz => (h z hz).2.2 e
      have h2 : (nodeT k 0 0 a c (x :: y :: l)).has k = false := has_of fun z hz => (h z hz).2.1
      unfold T.right
      rw [hkk, hz, hmn, hmx, hs]
      rcases hk with rfl | rfl
      · simp [h1 rfl, h2]
      · simp [h2]
    · rw [gr_eq, hs, isG, hkk]
      rcases hk with rfl | rfl <;> simp
    · rw [pos_eq, hkk, hmn, hmx, hs]
      unfold posR
      rw [if_neg (by omega), if_neg (by omega), Int.zero_add]
      exact (imin_le _ _).1
/-- What is kept of a pile of trees behind some steps. -/
structure J (i : Nat) (ts : List T) (u g : Nat) : Prop where
  good : ∀ t ∈ ts, t.good = true
  sz : szL ts ≤ i
  pos : posL ts ≤ (i * u : Nat)
  u1 : 1 ≤ u
  u16 : u ≤ 16
  gr : grL ts ≤ g
  g9 : g ≤ 9
theorem J.zero : J 0 [] 1 0 := ⟨by simp, by simp [szL, nodesL], by simp [posL], by omega, by omega, by simp [grL, nodesL], by omega⟩
theorem J.skip {i ts u g} (h : J i ts u g) : J (i + 1) ts u g :=
  ⟨h.good, by have := h.sz; omega, by have := h.pos; have e : (i + 1) * u = i * u + u := Nat.succ_mul i u; rw [e]; omega, h.u1, h.u16, h.gr, h.g9⟩
theorem J.push {i ts u g} (h : J i ts u g) {t : T} (hg : t.good = true) (hs : t.nodes.length = 1) (hp : t.pos ≤ 1) (hr : t.gr = 0) : J (i + 1) (ts ++ [t]) u g := by
  refine ⟨fun x hx => ?_, ?_, ?_, h.u1, h.u16, ?_, h.g9⟩
  · rcases List.mem_append.1 hx with hx | hx
    · exact h.good x hx
    · simp at hx; subst hx; exact hg
  · rw [szL_append, szL_one, hs]; have := h.sz; omega
  · rw [posL_append, posL_one]; have := h.pos; have := h.u1; have e : (i + 1) * u = i * u + u := Nat.succ_mul i u; rw [e]; omega
  · rw [grL_append, grL_one, hr]; have := h.gr; omega
theorem J.pos400 {i ts u g} (h : J i ts u g) (hi : i ≤ 25) : posL ts ≤ 400 := by
  have h1 := h.pos
  have : i * u ≤ 25 * 16 := Nat.mul_le_mul hi h.u16
  omega
theorem J.join {i ts u g} {x y : T} (h : J i (ts ++ [x, y]) u g) (hi : i ≤ 25) {k : Int} (hk : k = 3 ∨ k = 4) (a : Option Addr) (c : Nat) : J (i + 1) (ts ++ [mkJoin k a c (joinL k x ++ joinL k y)]) u g := by
  have h4 := h.pos400 hi
  have hz := h.sz
  have hp := h.pos
  have hgr := h.gr
  rw [show ts ++ [x, y] = ts ++ ([x] ++ [y]) from rfl] at h4 hz hp hgr
  rw [posL_append, posL_append, posL_one, posL_one] at h4 hp
  rw [szL_append, szL_append, szL_one, szL_one] at hz
  rw [grL_append, grL_append, grL_one, grL_one] at hgr
  have n1 := posL_nn ts
  have n2 := (pos_bd x).1
  have n3 := (pos_bd y).1
  obtain ⟨a1, a2, a3, a4⟩ := joinL_ok hk (h.good x (by simp)) (by omega)
  obtain ⟨b1, b2, b3, b4⟩ := joinL_ok hk (h.good y (by simp)) (by omega)
  obtain ⟨c1, c2, c3, c4⟩ := mkJoin_ok hk a c (l := joinL k x ++ joinL k y) (fun z hz => by
    rcases List.mem_append.1 hz with hz | hz
    · exact a1 z hz
    · exact b1 z hz)
  rw [szL_append] at c2
  rw [grL_append] at c3
  rw [posL_append] at c4
  refine ⟨fun z hz => ?_, ?_, ?_, h.u1, h.u16, ?_, h.g9⟩
  · rcases List.mem_append.1 hz with hz | hz
    · exact h.good z (by simp [hz])
    · simp at hz; subst hz; exact c1
  · rw [szL_append, szL_one]; omega
  · rw [posL_append, posL_one]; have e : (i + 1) * u = i * u + u := Nat.succ_mul i u; rw [e]; omega
  · rw [grL_append, grL_one]; omega
theorem J.group {i ts u g} {x : T} (h : J i (ts ++ [x]) u g) (hg : g < 9) (a : Option Addr) (c : Nat) : J (i + 1) (ts ++ [nodeT 6 0 0 a c [x]]) u (g + 1) := by
  have hz := h.sz
  have hp := h.pos
  have hgr := h.gr
  rw [posL_append, posL_one] at hp
  rw [szL_append, szL_one] at hz
  rw [grL_append, grL_one] at hgr
  have hs : (nodeT 6 0 0 a c [x]).subs = [x] := rfl
  refine ⟨fun z hz => ?_, ?_, ?_, h.u1, h.u16, ?_, by omega⟩
  · rcases List.mem_append.1 hz with hz | hz
    · exact h.good z (by simp [hz])
    · simp at hz; subst hz
      rw [good_eq, Bool.and_eq_true, List.all_eq_true]
      refine ⟨rfl, fun z hz => ?_⟩
      rw [hs] at hz; simp at hz; subst hz
      exact h.good z (by simp)
  · rw [szL_append, szL_one, sz_eq, hs, szL_one]; omega
  · rw [posL_append, posL_one, pos_eq, hs, posL_one]
    have : posR (nodeT 6 0 0 a c [x]).k (nodeT 6 0 0 a c [x]).mn (nodeT 6 0 0 a c [x]).mx ((if (nodeT 6 0 0 a c [x]).k = 2 then 1 else 0) + x.pos) ≤ x.pos := by
      show imin (if (6 : Int) = 5 then _ else (if (6 : Int) = 2 then 1 else 0) + x.pos) 10001 ≤ _
      rw [if_neg (by omega), if_neg (by omega), Int.zero_add]
      exact (imin_le _ _).1
    have e : (i + 1) * u = i * u + u := Nat.succ_mul i u
    rw [e]; omega
  · rw [grL_append, grL_one, gr_eq, hs, grL_one]
    split <;> omega
theorem J.rep {i ts u g} {x : T} (h : J i (ts ++ [x]) u g) (hx : x.k ≠ 1) {mn mx : Int} (hb : bounds mn mx = true) {w : Nat} (hw : posF mn mx ≤ w) (h1 : 1 ≤ w) (hu : u * w ≤ 16) (a : Option Addr) (c : Nat) : J (i + 1) (ts ++ [nodeT 5 mn mx a c [x]]) (u * w) g := by
  have hz := h.sz
  have hp := h.pos
  have hgr := h.gr
  rw [posL_append, posL_one] at hp
  rw [szL_append, szL_one] at hz
  rw [grL_append, grL_one] at hgr
  have hs : (nodeT 5 mn mx a c [x]).subs = [x] := rfl
  have n1 := posL_nn ts
  have n2 := (pos_bd x).1
  refine ⟨fun z hz => ?_, ?_, ?_, ?_, hu, ?_, h.g9⟩
  · rcases List.mem_append.1 hz with hz | hz
    · exact h.good z (by simp [hz])
    · simp at hz; subst hz
      rw [good_eq, Bool.and_eq_true, List.all_eq_true]
      refine ⟨?_, fun z hz => ?_⟩
      · have hh : (nodeT 5 mn mx a c [x]).has 1 = false := has_of fun z hz => by rw [hs] at hz; simp at hz; subst hz; exact hx
        unfold T.right
        rw [hh, hs, show (nodeT 5 mn mx a c [x]).k = 5 from rfl, show (nodeT 5 mn mx a c [x]).setZ = true from rfl, show (nodeT 5 mn mx a c [x]).mn = mn from rfl, show (nodeT 5 mn mx a c [x]).mx = mx from rfl, hb]
        simp
      · rw [hs] at hz; simp at hz; subst hz
        exact h.good z (by simp)
  · rw [szL_append, szL_one, sz_eq, hs, szL_one]; omega
  · rw [posL_append, posL_one, pos_eq, hs, posL_one]
    have key : posR (nodeT 5 mn mx a c [x]).k (nodeT 5 mn mx a c [x]).mn (nodeT 5 mn mx a c [x]).mx ((if (nodeT 5 mn mx a c [x]).k = 2 then 1 else 0) + x.pos) ≤ x.pos * w := by
      show imin (if (5 : Int) = 5 then ((if (5 : Int) = 2 then 1 else 0) + x.pos) * posF mn mx else _) 10001 ≤ _
      rw [if_pos rfl, if_neg (by omega), Int.zero_add]
      exact Int.le_trans (imin_le _ _).1 (Int.mul_le_mul_of_nonneg_left hw n2)
    have k2 : posL ts ≤ posL ts * w := by
      have := Int.mul_le_mul_of_nonneg_left (show (1 : Int) ≤ w by omega) n1
      rw [Int.mul_one] at this; exact this
    have k3 : (posL ts + x.pos) * w ≤ ((i * u : Nat) : Int) * w := Int.mul_le_mul_of_nonneg_right hp (by omega)
    rw [Int.add_mul] at k3
    have e : (i + 1) * (u * w) = i * u * w + u * w := by rw [Nat.succ_mul, Nat.mul_assoc]
    have e2 : (((i * u : Nat) : Int) * w) = ((i * u * w : Nat) : Int) := by push_cast; rfl
    rw [e2] at k3
    rw [e]
    generalize i * u * w = A at *
    generalize u * w = B at *
    generalize posL ts * (w : Int) = D at *
    generalize x.pos * (w : Int) = F at *
    omega
  · have := Nat.mul_le_mul h.u1 h1; omega
  · rw [grL_append, grL_one, gr_eq, hs, grL_one, isG, show (nodeT 5 mn mx a c [x]).k = 5 from rfl]
    simp; omega
/-- What is kept while the rest of a pile is put together. -/
structure F (t : T) (l : List T) : Prop where
  good : t.good = true
  goods : ∀ x ∈ l, x.good = true
  sz : t.nodes.length + szL l + l.length ≤ 60
  pos : t.pos + posL l ≤ 400
  gr : t.gr + grL l ≤ 9
theorem F.start {i u g} {t : T} {l : List T} (h : J i (t :: l) u g) (hi : i ≤ 25) : F t l := by
  have h1 := h.sz
  have h2 := h.pos400 hi
  have h3 := h.gr
  rw [szL_cons] at h1
  rw [grL_cons] at h3
  have := len_szL l
  have := h.g9
  exact ⟨h.good t (by simp), fun x hx => h.good x (by simp [hx]), by omega, by simpa [posL] using h2, by omega⟩
theorem F.step {t x : T} {l : List T} (h : F t (x :: l)) (a : Option Addr) (c : Nat) : F (mkJoin 4 a c (joinL 4 t ++ joinL 4 x)) l := by
  have h1 := h.sz
  have h2 := h.pos
  have h3 := h.gr
  rw [szL_cons, List.length_cons] at h1
  rw [grL_cons] at h3
  simp only [posL] at h2
  have n1 := posL_nn l
  have n2 := (pos_bd x).1
  have n3 := (pos_bd t).1
  obtain ⟨a1, a2, a3, a4⟩ := joinL_ok (.inr rfl) h.good (by omega) (t := t)
  obtain ⟨b1, b2, b3, b4⟩ := joinL_ok (.inr rfl) (h.goods x (by simp)) (by omega)
  obtain ⟨c1, c2, c3, c4⟩ := mkJoin_ok (.inr rfl) a c (l := joinL 4 t ++ joinL 4 x) (fun z hz => by
    rcases List.mem_append.1 hz with hz | hz
    · exact a1 z hz
    · exact b1 z hz)
  rw [szL_append] at c2
  rw [grL_append] at c3
  rw [posL_append] at c4
  exact ⟨c1, fun z hz => h.goods z (by simp [hz]), by omega, by omega, by omega⟩
theorem F.done {t : T} {l : List T} (h : F t l) : t.check = 0 := by
  have h1 := h.sz
  have h2 := h.pos
  have h3 := h.gr
  have n1 := posL_nn l
  have hl : t.light = true := by unfold T.light; exact decide_eq_true (by omega)
  have hc : t.clean = true := by unfold T.clean; rw [hl]; exact h.good
  have hg : ((t.nodes.countP fun x => x.k == 6 : Nat)) = t.gr := rfl
  unfold T.check
  rw [hc]
  unfold T.size T.positions T.groups
  rw [hl, hg]
  simp only [if_true, Bool.true_eq_false, if_false]
  rw [if_neg (by omega), if_neg (by omega), if_neg (by omega)]
theorem check_good {t : T} (h : t.check = 0) : t.good = true ∧ t.nodes.length ≤ 120 := by
  unfold T.check at h
  split at h
  · exact absurd h (by decide)
  · rename_i hc
    have hc' : t.clean = true := by simpa using hc
    unfold T.clean at hc'
    rw [Bool.and_eq_true] at hc'
    split at h
    · exact absurd h (by decide)
    · rename_i hz
      unfold T.size at hz
      rw [hc'.1] at hz
      simp only [if_true] at hz
      exact ⟨hc'.2, by omega⟩
theorem class_ok (n : Nat) : (classT (lettersB n)).good = true ∧ (classT (lettersB n)).nodes.length = 1 ∧ (classT (lettersB n)).pos ≤ 1 ∧ (classT (lettersB n)).gr = 0 := by
  have h : n % 12 = 0 ∨ n % 12 = 1 ∨ n % 12 = 2 ∨ n % 12 = 3 ∨ n % 12 = 4 ∨ n % 12 = 5 ∨ n % 12 = 6 ∨ n % 12 = 7 ∨ n % 12 = 8 ∨ n % 12 = 9 ∨ n % 12 = 10 ∨ n % 12 = 11 := by omega
  unfold lettersB
  rcases h with e | e | e | e | e | e | e | e | e | e | e | e <;> rw [e] <;> exact ⟨by decide, by decide, by decide, by decide⟩
theorem T1_ok : T1.good = true ∧ T1.nodes.length = 1 ∧ T1.pos ≤ 1 ∧ T1.gr = 0 := ⟨by decide, by decide, by decide, by decide⟩
theorem joinL_len {k : Int} {t : T} : (joinL k t).length ≤ t.nodes.length := by
  unfold joinL
  have := subs_le t
  have := sz_eq t
  split
  · omega
  · split <;> simp <;> omega
end Go.Rx

/- What is refused: trees that are not right, strings that are too long, indices that there are not. Nothing of a program is named. -/
set_option linter.unusedVariables false
set_option linter.unusedSimpArgs false
namespace Go.Rx
open Go Go.Eng Go.RowKit

/-- A tree of which a node is not right. -/
structure Bad (t : T) : Prop where
  k : t.k ≠ 0
  no : t.check ≠ 0
theorem bad_of {t x : T} (hk : t.k ≠ 0) (hx : x ∈ t.nodes) (hr : x.right = false) : Bad t := by
  refine ⟨hk, ?_⟩
  have hc : t.clean = false := by
    unfold T.clean
    rw [Bool.and_eq_false_iff]
    right
    rw [List.all_eq_false]
    exact ⟨x, hx, by rw [hr]; decide⟩
  unfold T.check
  rw [if_pos hc]; decide
theorem self_nodes (t : T) : t ∈ t.nodes := by rw [nodes_eq]; exact List.mem_cons_self ..
theorem sub_in {t x : T} (h : x ∈ t.subs) : x ∈ t.nodes := by
  rw [nodes_eq]
  obtain ⟨i, hi⟩ := List.getElem?_of_mem h
  rw [nodesL_split hi]
  have := self_nodes x
  simp [this]
theorem bad7 : Bad (.node 7 0 0 0 0 0 0 none 0 []) := bad_of (by decide) (self_nodes _) (by decide)
theorem bad2 : Bad (.node 2 0 0 0 0 0 0 none 0 []) := bad_of (by decide) (self_nodes _) (by decide)
theorem bad_cat1 (a c) (t : T) : Bad (nodeT 3 0 0 a c [t]) := bad_of (by show (3 : Int) ≠ 0; decide) (self_nodes _) (by
  unfold T.right
  rw [show (nodeT 3 0 0 a c [t]).k = 3 from rfl, show (nodeT 3 0 0 a c [t]).subs = [t] from rfl]
  simp)
theorem bad_cat2 (a c) (t : T) : Bad (nodeT 3 0 0 a c [T0, t]) := bad_of (x := T0) (by show (3 : Int) ≠ 0; decide) (sub_in (by show T0 ∈ [T0, t]; simp)) (by decide)
theorem bad_rep (a c) (t : T) : Bad (nodeT 5 3 2 a c [t]) := bad_of (by show (5 : Int) ≠ 0; decide) (self_nodes _) (by
  unfold T.right
  rw [show (nodeT 5 3 2 a c [t]).k = 5 from rfl, show (nodeT 5 3 2 a c [t]).mn = 3 from rfl, show (nodeT 5 3 2 a c [t]).mx = 2 from rfl, show bounds 3 2 = false by decide]
  simp)
def limW (len : Nat) (i : Int) : Int := if (len : Int) > 512 then 3 else if i < 0 ∨ i > len then 2 else 0
/-- What all functions say of a tree, a length and an index. -/
structure Says (t : T) (len : Nat) (i : Int) (e : Int) : Prop where
  one : t.wrong len i = e
  rg : Rg.wrong ⟨false, false, t⟩ len i = e
  all : rulesW [⟨false, false, t⟩] len i = e
theorem says_bad {t : T} (h : Bad t) (len : Nat) (i : Int) : Says t len i 130 := by
  have hn : t.isNone = false := by
    unfold T.isNone
    rw [show (t.k == 0) = false by simpa using h.k]; rfl
  have hc : (t.check == 0) = false := by simpa using h.no
  refine ⟨?_, ?_, ?_⟩
  · unfold T.wrong; rw [hn, hc]; rfl
  · unfold Rg.wrong; rw [if_neg h.no]
  · unfold rulesW; rw [if_neg (by simp)]
    simp [hc]
theorem wrong_good {t : T} (h : t.check = 0) (len : Nat) (i : Int) : t.wrong len i = limW len i := by
  unfold T.wrong limW
  rw [h]; simp
theorem says_good {t : T} (h : t.check = 0) (len : Nat) (i : Int) : Says t len i (limW len i) := by
  refine ⟨wrong_good h len i, ?_, ?_⟩
  · unfold Rg.wrong; rw [if_pos h]; exact wrong_good h len i
  · unfold rulesW; rw [if_neg (by simp)]
    rw [if_pos (by simp [h])]
    exact wrong_good (by decide) len i
/-- One of four: what is asked, and what has to be said. -/
structure Asks (k : Nat) (t : T) (len : Nat) (i e : Int) : Prop where
  here : Says t len i e
  zero : k ≤ 1 → Says t len 0 e
  no : e ≠ 0
  len : len ≤ 513
theorem ask0 {t : T} (h : Bad t) : Asks 0 t 513 (-1) 130 := ⟨says_bad h _ _, fun _ => says_bad h _ _, by decide, by decide⟩
theorem ask1 {t : T} (h : t.check = 0) : Asks 1 t 513 (-1) 3 := ⟨says_good h _ _, fun _ => says_good h _ _, by decide, by decide⟩
theorem ask2 {t : T} (h : t.check = 0) {i : Int} (hi : i < 0) : Asks 2 t 3 i 2 := ⟨by have := says_good h 3 i; unfold limW at this; rw [if_neg (by decide), if_pos (by omega)] at this; exact this, fun h => by omega, by decide, by decide⟩
theorem ask3 {t : T} (h : t.check = 0) {i : Int} (hi : 3 < i) : Asks 3 t 3 i 2 := ⟨by have := says_good h 3 i; unfold limW at this; rw [if_neg (by decide), if_pos (by omega)] at this; exact this, fun h => by omega, by decide, by decide⟩
end Go.Rx

/- The first of some rules, by each rule for itself. Nothing of a program is named. -/
set_option linter.unusedVariables false
set_option linter.unusedSimpArgs false
namespace Go.Rx
open Go Go.Eng Go.RowKit

theorem lookS_append (s : List Nat) (n : Nat) : ∀ (l r : List Rg) (k : Nat), lookS s n (l ++ r) k = match lookS s n l k with
    | some p => some p
    | none => lookS s n r (k + l.length)
  | [], r, k => by simp [lookS]
  | x :: l, r, k => by
    simp only [List.cons_append, lookS, List.length_cons]
    cases x.from s n with
    | some i => rfl
    | none =>
      simp only
      rw [lookS_append s n l r (k + 1), show k + 1 + l.length = k + (l.length + 1) by omega]
theorem lookS_none (s : List Nat) (n : Nat) : ∀ (l : List Rg) (k j : Nat), lookS s n l k = none → lookS s n l j = none
  | [], _, _, _ => rfl
  | x :: l, k, j, h => by
    simp only [lookS] at h ⊢
    cases hx : x.from s n with
    | some i => simp [hx] at h
    | none => simp only [hx] at h ⊢; exact lookS_none s n l _ _ h
theorem lookS_twice (s : List Nat) (n : Nat) (l : List Rg) : lookS s n (l ++ l) 0 = lookS s n l 0 := by
  rw [lookS_append]
  cases h : lookS s n l 0 with
  | some p => rfl
  | none => exact lookS_none s n l _ _ h
theorem firstS_congr {l r : List Rg} {s : List Nat} (h : ∀ n, lookS s n l 0 = lookS s n r 0) : ∀ c n, firstS l s c n = firstS r s c n
  | 0, _ => rfl
  | c + 1, n => by
    simp only [firstS]
    rw [h n, firstS_congr h c (n + 1)]
theorem firstS_twice (l : List Rg) (s : List Nat) (c n : Nat) : firstS (l ++ l) s c n = firstS l s c n := firstS_congr (fun n => lookS_twice s n l) c n
theorem firstS_some {l : List Rg} {s : List Nat} : ∀ {c n k i to : Nat}, firstS l s c n = some (k, i, to) → n ≤ to ∧ to < n + c ∧ lookS s to l 0 = some (k, i)
  | 0, n, k, i, to, h => by simp [firstS] at h
  | c + 1, n, k, i, to, h => by
    simp only [firstS] at h
    cases hl : lookS s n l 0 with
    | some p =>
      obtain ⟨k', i'⟩ := p
      simp only [hl, Option.some.injEq, Prod.mk.injEq] at h
      obtain ⟨rfl, rfl, rfl⟩ := h
      exact ⟨by omega, by omega, hl⟩
    | none =>
      simp only [hl] at h
      have := firstS_some h
      exact ⟨by omega, by omega, this.2.2⟩
theorem firstS_le {l : List Rg} {s : List Nat} : ∀ {c n m : Nat}, n ≤ m → m < n + c → lookS s m l 0 ≠ none → ∃ k i to, firstS l s c n = some (k, i, to) ∧ to ≤ m
  | 0, n, m, h1, h2, _ => by omega
  | c + 1, n, m, h1, h2, h => by
    simp only [firstS]
    cases hl : lookS s n l 0 with
    | some p => obtain ⟨k, i⟩ := p; exact ⟨k, i, n, rfl, h1⟩
    | none =>
      simp only
      have : n ≠ m := fun e => h (e ▸ hl)
      exact firstS_le (by omega) (by omega) h
abbrev Best := Option (Nat × Nat × Nat)
def better (acc : Best) (k : Nat) (o : Best) : Best := match o with
  | none => acc
  | some (_, f, to) => match acc with
    | none => some (k, f, to)
    | some (k', f', t') => if to < t' then some (k, f, to) else some (k', f', t')
theorem firstS_snoc (l : List Rg) (r : Rg) (s : List Nat) : ∀ c n, firstS (l ++ [r]) s c n = better (firstS l s c n) l.length (firstS [r] s c n)
  | 0, _ => rfl
  | c + 1, n => by
    have ih := firstS_snoc l r s c (n + 1)
    have hA : lookS s n [r] 0 = (r.from s n).map fun i => (0, i) := by
      simp only [lookS]
      cases r.from s n <;> rfl
    have hB : lookS s n (l ++ [r]) 0 = match lookS s n l 0 with
        | some p => some p
        | none => (r.from s n).map fun i => (l.length, i) := by
      rw [lookS_append]
      cases lookS s n l 0 with
      | some p => rfl
      | none =>
        simp only [lookS, Nat.zero_add]
        cases r.from s n <;> rfl
    simp only [firstS]
    rw [hA, hB]
    cases hl : lookS s n l 0 with
    | some p =>
      obtain ⟨k, i⟩ := p
      cases hr : r.from s n with
      | some j => simp only [Option.map_some, better]; rw [if_neg (by omega)]
      | none =>
        simp only [Option.map_none]
        cases h1 : firstS [r] s c (n + 1) with
        | none => rfl
        | some q =>
          obtain ⟨a, b, to⟩ := q
          have := (firstS_some h1).1
          simp only [better]; rw [if_neg (by omega)]
    | none =>
      cases hr : r.from s n with
      | some j =>
        simp only [Option.map_some]
        cases h1 : firstS l s c (n + 1) with
        | none => rfl
        | some q =>
          obtain ⟨a, b, to⟩ := q
          have := (firstS_some h1).1
          simp only [better]; rw [if_pos (by omega)]
      | none => simp only [Option.map_none]; exact ih
theorem firstS_one {r : Rg} {s : List Nat} {c n k i to : Nat} (h : firstS [r] s c n = some (k, i, to)) : k = 0 := by
  have := (firstS_some h).2.2
  simp only [lookS] at this
  cases hr : r.from s to with
  | some j => simp [hr] at this; exact this.1.symm
  | none => simp [hr] at this
theorem firstS_nil (s : List Nat) : ∀ c n, firstS [] s c n = none
  | 0, _ => rfl
  | c + 1, n => by simp only [firstS, lookS]; exact firstS_nil s c (n + 1)
/-- Rules whose trees are right are refused at no index that there is. -/
theorem rulesW_good {l : List Rg} {len : Nat} {n : Int} (hl : l.length ≤ 64) (h : ∀ r ∈ l, r.t.check = 0) (hlen : len ≤ 512) (h0 : 0 ≤ n) (h1 : n ≤ len) : rulesW l len n = 0 := by
  unfold rulesW
  rw [if_neg (by omega), if_pos (by rw [List.all_eq_true]; intro r hr; simpa using h r hr), wrong_good (by decide)]
  unfold limW
  rw [if_neg (by omega), if_neg (by omega)]
end Go.Rx

/- What a tree matches, as a relation between indices; and that 'lead' computes it, from both sides. Nothing of a program is named. -/
set_option linter.unusedVariables false
set_option linter.unusedSimpArgs false
namespace Go.Rx
open Go Go.Eng Go.RowKit

abbrev Re := Nat → Nat → Prop
/-- Some rounds, one behind the other. -/
def pow (R : Re) : Nat → Re
  | 0 => fun i j => i = j
  | n + 1 => fun i j => ∃ m, R i m ∧ pow R n m j
theorem pow_add (R : Re) : ∀ (a b i j : Nat), pow R (a + b) i j ↔ ∃ m, pow R a i m ∧ pow R b m j
  | 0, b, i, j => by simp [pow]
  | a + 1, b, i, j => by
    rw [show a + 1 + b = (a + b) + 1 by omega]
    constructor
    · rintro ⟨m, h1, h2⟩
      obtain ⟨k, h3, h4⟩ := (pow_add R a b m j).1 h2
      exact ⟨k, ⟨m, h1, h3⟩, h4⟩
    · rintro ⟨k, ⟨m, h1, h3⟩, h4⟩
      exact ⟨m, h1, (pow_add R a b m j).2 ⟨k, h3, h4⟩⟩
theorem pow_snoc (R : Re) (n i j : Nat) : pow R (n + 1) i j ↔ ∃ m, pow R n i m ∧ R m j := by
  rw [pow_add R n 1]; simp [pow]
theorem pow_mono {R Q : Re} (h : ∀ i j, R i j → Q i j) : ∀ n i j, pow R n i j → pow Q n i j
  | 0, _, _, e => e
  | n + 1, i, j, ⟨m, h1, h2⟩ => ⟨m, h _ _ h1, pow_mono h n _ _ h2⟩
theorem pow_flip (R : Re) : ∀ n i j, pow (fun a b => R b a) n i j ↔ pow R n j i
  | 0, i, j => eq_comm
  | n + 1, i, j => by
    rw [pow_snoc R n j i]
    constructor
    · rintro ⟨m, h1, h2⟩; exact ⟨m, (pow_flip R n m j).1 h2, h1⟩
    · rintro ⟨m, h1, h2⟩; exact ⟨m, h2, (pow_flip R n m j).2 h1⟩
mutual
/-- A tree matches a string from an index to another one. -/
def T.M (s : List Nat) : T → Re
  | .node k s0 s1 s2 s3 mn mx a c l => fun i j =>
    if k = 1 then i = j else if k = 2 then j = i + 1 ∧ ∃ b, s[i]? = some b ∧ (T.node k s0 s1 s2 s3 mn mx a c l).hasB b = true
    else if k = 3 then MC s l i j else if k = 4 then MA s l i j
    else if k = 5 then ∃ n : Nat, mn.toNat ≤ n ∧ (mx = -1 ∨ n ≤ mx.toNat) ∧ pow (MH s l) n i j
    else if k = 6 then MH s l i j else False
def MC (s : List Nat) : List T → Re
  | [] => fun i j => i = j
  | t :: l => fun i j => ∃ m, t.M s i m ∧ MC s l m j
def MA (s : List Nat) : List T → Re
  | [] => fun _ _ => False
  | t :: l => fun i j => t.M s i j ∨ MA s l i j
def MH (s : List Nat) : List T → Re
  | [] => fun i j => i = j
  | t :: _ => t.M s
end
/-- A set of indices goes over a relation, this way or that way. -/
def Goes (back : Bool) (R : Re) (f : Nat) (j : Nat) : Prop := ∃ i, f.testBit i = true ∧ (if back then R j i else R i j)
def Leads (s : List Nat) (back : Bool) (g : Nat → Nat) (R : Re) : Prop := ∀ f, f < B576 → ∀ j, (g f).testBit j = true ↔ Goes back R f j
theorem goes_mono {back : Bool} {R : Re} {f h : Nat} (hs : ∀ i, f.testBit i = true → h.testBit i = true) {j : Nat} (k : Goes back R f j) : Goes back R h j := by
  obtain ⟨i, h1, h2⟩ := k; exact ⟨i, hs i h1, h2⟩
theorem goes_or {back : Bool} {R Q : Re} {f j : Nat} : Goes back (fun a b => R a b ∨ Q a b) f j ↔ Goes back R f j ∨ Goes back Q f j := by
  unfold Goes
  cases back <;> constructor <;> rintro h
  · obtain ⟨i, h1, h2 | h2⟩ := h
    · exact .inl ⟨i, h1, h2⟩
    · exact .inr ⟨i, h1, h2⟩
  · rcases h with ⟨i, h1, h2⟩ | ⟨i, h1, h2⟩
    · exact ⟨i, h1, .inl h2⟩
    · exact ⟨i, h1, .inr h2⟩
  · obtain ⟨i, h1, h2 | h2⟩ := h
    · exact .inl ⟨i, h1, h2⟩
    · exact .inr ⟨i, h1, h2⟩
  · rcases h with ⟨i, h1, h2⟩ | ⟨i, h1, h2⟩
    · exact ⟨i, h1, .inl h2⟩
    · exact ⟨i, h1, .inr h2⟩
theorem goes_eq (back : Bool) (f j : Nat) : Goes back (fun a b => a = b) f j ↔ f.testBit j = true := by
  unfold Goes
  cases back <;> constructor
  · rintro ⟨i, h1, h2⟩; simp at h2; subst h2; exact h1
  · intro h; exact ⟨j, h, by simp⟩
  · rintro ⟨i, h1, h2⟩; simp at h2; subst h2; exact h1
  · intro h; exact ⟨j, h, by simp⟩
/-- One relation behind another: the way there. -/
theorem leads_seq {s : List Nat} {g h : Nat → Nat} {R Q : Re} (hg : Leads s false g R) (hh : Leads s false h Q) (hlt : ∀ f, f < B576 → g f < B576) : Leads s false (fun f => h (g f)) (fun i j => ∃ m, R i m ∧ Q m j) := by
  intro f hf j
  rw [hh _ (hlt f hf) j]
  unfold Goes
  constructor
  · rintro ⟨m, h1, h2⟩
    obtain ⟨i, h3, h4⟩ := (hg f hf m).1 h1
    exact ⟨i, h3, m, h4, h2⟩
  · rintro ⟨i, h3, m, h4, h2⟩
    exact ⟨m, (hg f hf m).2 ⟨i, h3, h4⟩, h2⟩
theorem leads_seqB {s : List Nat} {g h : Nat → Nat} {R Q : Re} (hg : Leads s true g R) (hh : Leads s true h Q) (hlt : ∀ f, f < B576 → h f < B576) : Leads s true (fun f => g (h f)) (fun i j => ∃ m, R i m ∧ Q m j) := by
  intro f hf j
  rw [hg _ (hlt f hf) j]
  unfold Goes
  constructor
  · rintro ⟨m, h1, h2⟩
    obtain ⟨i, h3, h4⟩ := (hh f hf m).1 h1
    exact ⟨i, h3, m, h2, h4⟩
  · rintro ⟨i, h3, m, h4, h2⟩
    exact ⟨m, (hh f hf m).2 ⟨i, h3, h2⟩, h4⟩
/-- A Class. -/
theorem clsL_bits (t : T) (back : Bool) (f : Nat) : ∀ (s : List Nat) (i out j : Nat), (clsL t back f s i out).testBit j = true ↔ out.testBit j = true ∨ ∃ p b, s[p]? = some b ∧ t.hasB b = true ∧ f.testBit (if back then i + p + 1 else i + p) = true ∧ j = (if back then i + p else i + p + 1)
  | [], i, out, j => by simp [clsL]
  | c :: s, i, out, j => by
    simp only [clsL]
    rw [clsL_bits t back f s (i + 1)]
    have h0 : (clsAt t back f i c out).testBit j = true ↔ out.testBit j = true ∨ (t.hasB c = true ∧ f.testBit (if back then i + 1 else i) = true ∧ j = (if back then i else i + 1)) := by
      unfold clsAt
      by_cases h : (f.testBit (if back then i + 1 else i) && t.hasB c) = true
      · rw [if_pos h]
        rw [Bool.and_eq_true] at h
        rw [Nat.testBit_or, Bool.or_eq_true, Nat.testBit_two_pow]
        constructor
        · rintro (h1 | h1)
          · exact .inl h1
          · exact .inr ⟨h.2, h.1, by simpa using (of_decide_eq_true h1).symm⟩
        · rintro (h1 | ⟨_, _, h1⟩)
          · exact .inl h1
          · exact .inr (decide_eq_true h1.symm)
      · rw [if_neg h]
        rw [Bool.and_eq_true] at h
        constructor
        · exact .inl
        · rintro (h1 | ⟨h1, h2, _⟩)
          · exact h1
          · exact absurd ⟨h2, h1⟩ h
    rw [h0]
    constructor
    · rintro ((h | ⟨h1, h2, h3⟩) | ⟨p, b, h1, h2, h3, h4⟩)
      · exact .inl h
      · exact .inr ⟨0, c, rfl, h1, by simpa using h2, by simpa using h3⟩
      · exact .inr ⟨p + 1, b, by simpa using h1, h2, by rw [show i + (p + 1) = i + 1 + p by omega]; exact h3, by rw [show i + (p + 1) = i + 1 + p by omega]; exact h4⟩
    · rintro (h | ⟨p, b, h1, h2, h3, h4⟩)
      · exact .inl (.inl h)
      · cases p with
        | zero => simp at h1; subst h1; exact .inl (.inr ⟨h2, by simpa using h3, by simpa using h4⟩)
        | succ p => exact .inr ⟨p, b, by simpa using h1, h2, by rw [show i + 1 + p = i + (p + 1) by omega]; exact h3, by rw [show i + 1 + p = i + (p + 1) by omega]; exact h4⟩
theorem cls_leads (s : List Nat) (back : Bool) (t : T) : Leads s back (fun f => clsL t back f s 0 0) (fun i j => j = i + 1 ∧ ∃ b, s[i]? = some b ∧ t.hasB b = true) := by
  intro f hf j
  rw [clsL_bits]
  unfold Goes
  cases back with
  | false =>
    constructor
    · rintro (h | ⟨p, b, h1, h2, h3, h4⟩)
      · simp at h
      · simp at h3 h4; exact ⟨p, h3, by simp; exact ⟨h4, b, h1, h2⟩⟩
    · rintro ⟨i, h1, h2⟩
      simp at h2
      obtain ⟨rfl, b, h3, h4⟩ := h2
      exact .inr ⟨i, b, h3, h4, by simpa using h1, by simp⟩
  | true =>
    constructor
    · rintro (h | ⟨p, b, h1, h2, h3, h4⟩)
      · simp at h
      · simp at h3 h4; subst h4; exact ⟨j + 1, h3, by simp; exact ⟨b, h1, h2⟩⟩
    · rintro ⟨i, h1, h2⟩
      simp at h2
      obtain ⟨rfl, b, h3, h4⟩ := h2
      exact .inr ⟨j, b, h3, h4, by simpa using h1, by simp⟩
theorem goes_succ (back : Bool) (R : Re) (n f j : Nat) : Goes back (pow R (n + 1)) f j ↔ ∃ i, Goes back (pow R n) f i ∧ (if back then R j i else R i j) := by
  unfold Goes
  cases back with
  | false =>
    simp only [Bool.false_eq_true, if_false]
    constructor
    · rintro ⟨i, h1, h2⟩
      obtain ⟨m, h3, h4⟩ := (pow_snoc R n i j).1 h2
      exact ⟨m, ⟨i, h1, h3⟩, h4⟩
    · rintro ⟨m, ⟨i, h1, h3⟩, h4⟩
      exact ⟨i, h1, (pow_snoc R n i j).2 ⟨m, h3, h4⟩⟩
  | true =>
    simp only [if_true]
    constructor
    · rintro ⟨i, h1, m, h3, h4⟩
      exact ⟨m, ⟨i, h1, h4⟩, h3⟩
    · rintro ⟨m, ⟨i, h1, h4⟩, h3⟩
      exact ⟨i, h1, m, h3, h4⟩
def cnt (f : Nat) : Nat := (List.range 576).countP fun i => f.testBit i
theorem cnt_le (f : Nat) : cnt f ≤ 576 := by
  have := List.countP_le_length (p := fun i => f.testBit i) (l := List.range 576)
  simpa [cnt] using this
theorem countP_lt {α : Type} {p q : α → Bool} : ∀ {l : List α}, (∀ x, p x = true → q x = true) → (∃ x ∈ l, q x = true ∧ p x = false) → l.countP p < l.countP q
  | [], _, h => by obtain ⟨x, h, _⟩ := h; simp at h
  | y :: l, hpq, ⟨x, hx, h1, h2⟩ => by
    have hmono : l.countP p ≤ l.countP q := List.countP_mono_left fun x _ h => hpq x h
    rw [List.countP_cons, List.countP_cons]
    by_cases e : p y = true
    · rw [if_pos e, if_pos (hpq y e)]
      have hne : x ≠ y := fun e' => by rw [e', e] at h2; cases h2
      have := countP_lt hpq ⟨x, (List.mem_cons.1 hx).resolve_left hne, h1, h2⟩
      omega
    · rw [if_neg e]
      by_cases e2 : q y = true
      · rw [if_pos e2]; omega
      · have hne : x ≠ y := fun e' => e2 (e' ▸ h1)
        have := countP_lt hpq ⟨x, (List.mem_cons.1 hx).resolve_left hne, h1, h2⟩
        omega
theorem big_bit {f i : Nat} (hf : f < B576) (hi : ¬ i < 576) : f.testBit i = false :=
  Nat.testBit_lt_two_pow (Nat.lt_of_lt_of_le hf (Nat.pow_le_pow_right (by omega) (by rw [E576_eq]; omega)))
theorem cnt_lt {out x : Nat} (ho : out < B576) (hx : x < B576) (h : ¬ out ||| x = out) : cnt out < cnt (out ||| x) := by
  refine countP_lt (fun i hi => by simp [hi]) ?_
  refine Classical.byContradiction fun hn => h (Nat.eq_of_testBit_eq fun i => ?_)
  by_cases hi : i < 576
  · rw [Nat.testBit_or]
    cases e1 : out.testBit i with
    | true => rfl
    | false =>
      cases e2 : x.testBit i with
      | false => rfl
      | true => exact absurd ⟨i, List.mem_range.2 hi, by rw [Nat.testBit_or, e1, e2]; rfl, e1⟩ hn
  · rw [big_bit (Nat.or_lt_two_pow ho hx) hi, big_bit ho hi]
theorem starF_bits {s : List Nat} {back : Bool} {g : Nat → Nat} {R : Re} (hg : Leads s back g R) (hlt : ∀ f, f < B576 → g f < B576) {mx : Int} {mn f0 : Nat} (hf0 : f0 < B576) (hmn : mn ≤ 16) :
    ∀ (fuel K out last : Nat), out < B576 → last < B576 → mn ≤ K → (mx = -1 ∨ (K : Int) ≤ mx) → K ≤ mn + cnt out → 577 - cnt out ≤ fuel →
      (∀ j, last.testBit j = true ↔ Goes back (pow R K) f0 j) → (∀ j, out.testBit j = true ↔ ∃ n, mn ≤ n ∧ n ≤ K ∧ Goes back (pow R n) f0 j) →
      ∀ j, (starF g mx fuel K out last).testBit j = true ↔ ∃ n, mn ≤ n ∧ (mx = -1 ∨ n ≤ mx.toNat) ∧ Goes back (pow R n) f0 j := by
  intro fuel
  induction fuel with
  | zero => intro K out last _ _ _ _ _ hfu _ _ j; have := cnt_le out; omega
  | succ fuel ihf =>
    intro K out last ho hl hK hmx hKc hfu hlast hout j
    have hgl := hlt last hl
    have hnext : ∀ j, (g last).testBit j = true ↔ Goes back (pow R (K + 1)) f0 j := fun j => by
      rw [hg last hl j, goes_succ]
      constructor
      · rintro ⟨i, h1, h2⟩; exact ⟨i, (hlast i).1 h1, h2⟩
      · rintro ⟨i, h1, h2⟩; exact ⟨i, (hlast i).2 h1, h2⟩
    rw [starF_succ]
    by_cases hm : (K : Int) = mx
    · rw [if_pos hm, hout]
      constructor
      · rintro ⟨n, h1, h2, h3⟩; exact ⟨n, h1, .inr (by omega), h3⟩
      · rintro ⟨n, h1, h2, h3⟩; exact ⟨n, h1, by rcases h2 with h2 | h2 <;> omega, h3⟩
    · rw [if_neg hm]
      by_cases hs : out ||| g last = out
      · rw [if_pos hs, hout]
        have hin : ∀ j, (g last).testBit j = true → out.testBit j = true := fun j h => by
          rw [← hs, Nat.testBit_or, h]; simp
        have hclose : ∀ d j, Goes back (pow R (K + d)) f0 j → out.testBit j = true := by
          intro d
          induction d with
          | zero => intro j h; exact (hout j).2 ⟨K, hK, Nat.le_refl _, h⟩
          | succ d ih =>
            intro j h
            rw [show K + (d + 1) = (K + d) + 1 by omega, goes_succ] at h
            obtain ⟨i, h1, h2⟩ := h
            obtain ⟨n, h3, h4, h5⟩ := (hout i).1 (ih i h1)
            have h6 : Goes back (pow R (n + 1)) f0 j := (goes_succ back R n f0 j).2 ⟨i, h5, h2⟩
            by_cases hn : n + 1 ≤ K
            · exact (hout j).2 ⟨n + 1, by omega, hn, h6⟩
            · have : n = K := by omega
              subst this
              exact hin j ((hnext j).2 h6)
        constructor
        · rintro ⟨n, h1, h2, h3⟩; exact ⟨n, h1, by rcases hmx with h | h; exact .inl h; exact .inr (by omega), h3⟩
        · rintro ⟨n, h1, h2, h3⟩
          by_cases hn : n ≤ K
          · exact ⟨n, h1, hn, h3⟩
          · have := hclose (n - K) j (by rw [show K + (n - K) = n by omega]; exact h3)
            exact (hout j).1 this
      · rw [if_neg hs]
        have hc := cnt_lt ho hgl hs
        have hcl := cnt_le (out ||| g last)
        have hw : IntKind.i64.wrap ((K : Int) + 1) = ((K + 1 : Nat) : Int) := by rw [wrap64 (by omega) (by omega)]; rfl
        rw [hw]
        refine ihf (K + 1) _ _ (Nat.or_lt_two_pow ho hgl) hgl (by omega) ?_ (by omega) (by omega) hnext ?_ j
        · rcases hmx with h | h
          · exact .inl h
          · exact .inr (by omega)
        · intro j
          rw [Nat.testBit_or, Bool.or_eq_true, hout, hnext]
          constructor
          · rintro (⟨n, h1, h2, h3⟩ | h)
            · exact ⟨n, h1, by omega, h3⟩
            · exact ⟨K + 1, by omega, Nat.le_refl _, h⟩
          · rintro ⟨n, h1, h2, h3⟩
            by_cases hn : n ≤ K
            · exact .inl ⟨n, h1, hn, h3⟩
            · have : n = K + 1 := by omega
              subst this; exact .inr h3
theorem iter_bits {s : List Nat} {back : Bool} {g : Nat → Nat} {R : Re} (hg : Leads s back g R) (hlt : ∀ f, f < B576 → g f < B576) : ∀ (n f : Nat), f < B576 → ∀ j, (iter g n f).testBit j = true ↔ Goes back (pow R n) f j
  | 0, f, hf, j => by
    show f.testBit j = true ↔ Goes back (fun a b => a = b) f j
    rw [goes_eq]
  | n + 1, f, hf, j => by
    show (iter g n (g f)).testBit j = true ↔ _
    rw [iter_bits hg hlt n (g f) (hlt f hf) j]
    unfold Goes
    cases back with
    | false =>
      simp only [Bool.false_eq_true, if_false]
      constructor
      · rintro ⟨m, h1, h2⟩
        obtain ⟨i, h3, h4⟩ := (hg f hf m).1 h1
        exact ⟨i, h3, m, by simpa using h4, h2⟩
      · rintro ⟨i, h3, m, h4, h2⟩
        exact ⟨m, (hg f hf m).2 ⟨i, h3, by simpa using h4⟩, h2⟩
    | true =>
      simp only [if_true]
      constructor
      · rintro ⟨m, h1, h2⟩
        obtain ⟨i, h3, h4⟩ := (hg f hf m).1 h1
        exact ⟨i, h3, (pow_snoc R n j i).2 ⟨m, h2, by simpa using h4⟩⟩
      · rintro ⟨i, h3, h4⟩
        obtain ⟨m, h5, h6⟩ := (pow_snoc R n j i).1 h4
        exact ⟨m, (hg f hf m).2 ⟨i, h3, by simpa using h6⟩, h5⟩
theorem rep_leads {s : List Nat} {back : Bool} {g : Nat → Nat} {R : Re} (hg : Leads s back g R) (hlt : ∀ f, f < B576 → g f < B576) {mn mx : Int} (h0 : 0 ≤ mn) (h16 : mn ≤ 16) (hmx : mx = -1 ∨ mn ≤ mx) :
    Leads s back (repN g mn mx) (fun i j => ∃ n : Nat, mn.toNat ≤ n ∧ (mx = -1 ∨ n ≤ mx.toNat) ∧ pow R n i j) := by
  intro f hf j
  obtain ⟨k, rfl⟩ : ∃ k : Nat, mn = k := ⟨mn.toNat, by omega⟩
  have hi := iter_lt hlt k f hf
  have hb := iter_bits hg hlt k f hf
  have hbig : 1024 < B576 := pow_B (n := 10) (by omega)
  unfold repN
  rw [Int.toNat_natCast]
  have := starF_bits hg hlt (mx := mx) hf (show k ≤ 16 by omega) (B576 + 1) k (iter g k f) (iter g k f) hi hi (Nat.le_refl _) hmx (by omega) (by have := cnt_le (iter g k f); omega) hb (fun j => by
    rw [hb]
    constructor
    · intro h; exact ⟨k, Nat.le_refl _, Nat.le_refl _, h⟩
    · rintro ⟨n, h1, h2, h3⟩; obtain rfl : n = k := by omega
      exact h3) j
  rw [this]
  unfold Goes
  cases back with
  | false =>
    simp only [Bool.false_eq_true, if_false]
    constructor
    · rintro ⟨n, h1, h2, i, h3, h4⟩; exact ⟨i, h3, n, h1, h2, h4⟩
    · rintro ⟨i, h3, n, h1, h2, h4⟩; exact ⟨n, h1, h2, i, h3, h4⟩
  | true =>
    simp only [if_true]
    constructor
    · rintro ⟨n, h1, h2, i, h3, h4⟩; exact ⟨i, h3, n, h1, h2, h4⟩
    · rintro ⟨i, h3, n, h1, h2, h4⟩; exact ⟨n, h1, h2, i, h3, h4⟩
section
variable {s : List Nat}
theorem M_1 {t : T} (h : t.k = 1) (i j : Nat) : t.M s i j ↔ i = j := by cases t; simp only [T.k] at h; subst h; simp [T.M]
theorem M_2 {t : T} (h : t.k = 2) (i j : Nat) : t.M s i j ↔ (j = i + 1 ∧ ∃ b, s[i]? = some b ∧ t.hasB b = true) := by cases t; simp only [T.k] at h; subst h; simp [T.M]
theorem M_3 {t : T} (h : t.k = 3) (i j : Nat) : t.M s i j ↔ MC s t.subs i j := by cases t; simp only [T.k] at h; subst h; simp [T.M, T.subs]
theorem M_4 {t : T} (h : t.k = 4) (i j : Nat) : t.M s i j ↔ MA s t.subs i j := by cases t; simp only [T.k] at h; subst h; simp [T.M, T.subs]
theorem M_5 {t : T} (h : t.k = 5) (i j : Nat) : t.M s i j ↔ ∃ n : Nat, t.mn.toNat ≤ n ∧ (t.mx = -1 ∨ n ≤ t.mx.toNat) ∧ pow (MH s t.subs) n i j := by cases t; simp only [T.k] at h; subst h; simp [T.M, T.subs, T.mn, T.mx]
theorem M_6 {t : T} (h : t.k = 6) (i j : Nat) : t.M s i j ↔ MH s t.subs i j := by cases t; simp only [T.k] at h; subst h; simp [T.M, T.subs]
theorem MC_nil (i j : Nat) : MC s [] i j ↔ i = j := by simp [MC]
theorem MC_cons (t : T) (l : List T) (i j : Nat) : MC s (t :: l) i j ↔ ∃ m, t.M s i m ∧ MC s l m j := by simp [MC]
theorem MA_nil (i j : Nat) : MA s [] i j ↔ False := by simp [MA]
theorem MA_cons (t : T) (l : List T) (i j : Nat) : MA s (t :: l) i j ↔ (t.M s i j ∨ MA s l i j) := by simp [MA]
theorem MH_cons (t : T) (l : List T) : MH s (t :: l) = t.M s := by simp [MH]
theorem leads_congr {back : Bool} {g h : Nat → Nat} {R Q : Re} (hg : Leads s back g R) (e : ∀ f, h f = g f) (k : ∀ i j, Q i j ↔ R i j) : Leads s back h Q := by
  intro f hf j
  rw [e, hg f hf j]
  unfold Goes
  cases back <;> simp only [k]
theorem leadF_leads (hs : s.length ≤ 512) : ∀ (l : List T), (∀ x ∈ l, Leads s false (x.lead s false) (x.M s)) → Leads s false (leadF s false l) (MC s l)
  | [], _ => by
    intro f hf j
    have e : Goes false (MC s []) f j ↔ Goes false (fun a b => a = b) f j := by unfold Goes; simp only [MC_nil]
    rw [e, goes_eq]; rw [leadF]
  | t :: l, h => leads_congr (leads_seq (h t (by simp)) (leadF_leads hs l fun x hx => h x (by simp [hx])) (lead_lt s false hs t)) (fun f => by rw [leadF]) (fun i j => MC_cons t l i j)
theorem leadB_leads (hs : s.length ≤ 512) : ∀ (l : List T), (∀ x ∈ l, Leads s true (x.lead s true) (x.M s)) → Leads s true (leadB s true l) (MC s l)
  | [], _ => by
    intro f hf j
    have e : Goes true (MC s []) f j ↔ Goes true (fun a b => a = b) f j := by unfold Goes; simp only [MC_nil]
    rw [e, goes_eq]; rw [leadB]
  | t :: l, h => leads_congr (leads_seqB (h t (by simp)) (leadB_leads hs l fun x hx => h x (by simp [hx])) (leadB_lt s true hs l)) (fun f => by rw [leadB]) (fun i j => MC_cons t l i j)
theorem altL_bits {back : Bool} (hs : s.length ≤ 512) : ∀ (l : List T), (∀ x ∈ l, Leads s back (x.lead s back) (x.M s)) → ∀ f, f < B576 → ∀ out j, (altL s back l f out).testBit j = true ↔ (out.testBit j = true ∨ Goes back (MA s l) f j)
  | [], _, f, hf, out, j => by
    rw [altL_nil]
    constructor
    · exact .inl
    · rintro (h | ⟨i, _, h⟩)
      · exact h
      · cases back <;> simp [MA_nil] at h
  | t :: l, h, f, hf, out, j => by
    rw [altL_cons, altL_bits hs l (fun x hx => h x (by simp [hx])) f hf, Nat.testBit_or, Bool.or_eq_true, h t (by simp) f hf j]
    have e : Goes back (MA s (t :: l)) f j ↔ Goes back (fun a b => t.M s a b ∨ MA s l a b) f j := by unfold Goes; cases back <;> simp only [MA_cons]
    rw [e, goes_or, or_assoc]
theorem right_of_good {t : T} (h : t.good = true) : t.right = true ∧ ∀ x ∈ t.subs, x.good = true := by
  rw [good_eq, Bool.and_eq_true, List.all_eq_true] at h; exact h
theorem right_k {t : T} (h : t.right = true) : t.k = 1 ∨ t.k = 2 ∨ t.k = 3 ∨ t.k = 4 ∨ (t.k = 5 ∧ (∃ x, t.subs = [x]) ∧ 0 ≤ t.mn ∧ t.mn ≤ 16 ∧ (t.mx = -1 ∨ (1 ≤ t.mx ∧ t.mn ≤ t.mx ∧ t.mx ≤ 16))) ∨ (t.k = 6 ∧ ∃ x, t.subs = [x]) := by
  have one : (t.subs.length == 1) = true → ∃ x, t.subs = [x] := fun e => by
    have : t.subs.length = 1 := by simpa using e
    match hsub : t.subs, this with
    | [x], _ => exact ⟨x, rfl⟩
  unfold T.right at h
  rw [Bool.and_eq_true] at h
  have h := h.2
  by_cases h1 : t.k = 1
  · exact .inl h1
  by_cases h2 : t.k = 2
  · exact .inr (.inl h2)
  by_cases h3 : t.k = 3
  · exact .inr (.inr (.inl h3))
  by_cases h4 : t.k = 4
  · exact .inr (.inr (.inr (.inl h4)))
  by_cases h5 : t.k = 5
  · rw [if_neg h1, if_neg h2, if_neg h3, if_neg h4, if_pos h5] at h
    rw [Bool.and_eq_true, Bool.and_eq_true] at h
    obtain ⟨a, b, _⟩ := h
    unfold bounds at b
    simp at b
    exact .inr (.inr (.inr (.inr (.inl ⟨h5, one a, by omega, by omega, by omega⟩))))
  · rw [if_neg h1, if_neg h2, if_neg h3, if_neg h4, if_neg h5, Bool.and_eq_true] at h
    exact .inr (.inr (.inr (.inr (.inr ⟨by simpa using h.1, one h.2⟩))))
theorem headL_one (back : Bool) (x : T) : headL s back [x] = x.lead s back := by
  funext f; rw [headL]
/-- 'lead' computes what the relation says, from both sides. -/
theorem lead_leads (back : Bool) (hs : s.length ≤ 512) : ∀ t : T, t.good = true → Leads s back (t.lead s back) (t.M s)
  | t, hg => by
    obtain ⟨hr, hsub⟩ := right_of_good hg
    have ih : ∀ x ∈ t.subs, Leads s back (x.lead s back) (x.M s) := fun x hx => lead_leads back hs x (hsub x hx)
    rcases right_k hr with h | h | h | h | ⟨h, ⟨x, hx⟩, h0, h16, hmx⟩ | ⟨h, x, hx⟩
    · intro f hf j
      have e : Goes back (t.M s) f j ↔ Goes back (fun a b => a = b) f j := by unfold Goes; cases back <;> simp only [M_1 h]
      rw [e, goes_eq, lead_1 h]
    · exact leads_congr (cls_leads s back t) (fun f => lead_2 h f) (fun i j => M_2 h i j)
    · cases back with
      | false => exact leads_congr (leadF_leads hs t.subs ih) (fun f => by rw [lead_3 h]; rfl) (fun i j => M_3 h i j)
      | true => exact leads_congr (leadB_leads hs t.subs ih) (fun f => by rw [lead_3 h]; rfl) (fun i j => M_3 h i j)
    · intro f hf j
      rw [lead_4 h, altL_bits hs t.subs ih f hf]
      have e : Goes back (t.M s) f j ↔ Goes back (MA s t.subs) f j := by unfold Goes; cases back <;> simp only [M_4 h]
      rw [e]; simp
    · have hx' : x ∈ t.subs := by rw [hx]; simp
      have hl := rep_leads (mn := t.mn) (mx := t.mx) (ih x hx') (lead_lt s back hs x) h0 h16 (by omega)
      exact leads_congr hl (fun f => by rw [lead_5 h, hx, headL_one]) (fun i j => by rw [M_5 h, hx, MH_cons])
    · have hx' : x ∈ t.subs := by rw [hx]; simp
      exact leads_congr (ih x hx') (fun f => by rw [lead_6 h, hx, headL_one]) (fun i j => by rw [M_6 h, hx, MH_cons])
termination_by t => SizeOf.sizeOf t
decreasing_by exact sub_lt hx
end
/-- A relation goes forward. -/
def Fwd (R : Re) : Prop := ∀ i j, R i j → i ≤ j
/-- What a relation says of a string holds of each string that is the same there. -/
def Sh (s s' : List Nat) (R R' : Re) : Prop := ∀ i j i', R i j → (∀ p, i + p < j → s[i + p]? = s'[i' + p]?) → R' i' (i' + (j - i))
def Len (s : List Nat) (R : Re) : Prop := ∀ i j, R i j → i ≤ s.length → j ≤ s.length
structure Nice (s s' : List Nat) (R R' : Re) : Prop where
  fwd : Fwd R
  sh : Sh s s' R R'
  len : Len s R
theorem nice_eq (s s' : List Nat) : Nice s s' (fun i j => i = j) (fun i j => i = j) :=
  ⟨fun i j h => by omega, fun i j i' h _ => by omega, fun i j h k => by omega⟩
theorem nice_seq {s s' : List Nat} {R R' Q Q' : Re} (h : Nice s s' R R') (k : Nice s s' Q Q') : Nice s s' (fun i j => ∃ m, R i m ∧ Q m j) (fun i j => ∃ m, R' i m ∧ Q' m j) := by
  refine ⟨fun i j ⟨m, h1, h2⟩ => Nat.le_trans (h.fwd _ _ h1) (k.fwd _ _ h2), fun i j i' ⟨m, h1, h2⟩ hs => ?_, fun i j ⟨m, h1, h2⟩ hi => k.len _ _ h2 (h.len _ _ h1 hi)⟩
  have a := h.fwd _ _ h1
  have b := k.fwd _ _ h2
  refine ⟨i' + (m - i), h.sh _ _ _ h1 fun p hp => hs p (by omega), ?_⟩
  have := k.sh _ _ (i' + (m - i)) h2 fun p hp => by
    have := hs ((m - i) + p) (by omega)
    rw [show i + (m - i + p) = m + p by omega, show i' + (m - i + p) = i' + (m - i) + p by omega] at this
    exact this
  rw [show i' + (m - i) + (j - m) = i' + (j - i) by omega] at this
  exact this
theorem nice_pow {s s' : List Nat} {R R' : Re} (h : Nice s s' R R') : ∀ n, Nice s s' (pow R n) (pow R' n)
  | 0 => nice_eq s s'
  | n + 1 => nice_seq h (nice_pow h n)
theorem nice_congr {s s' : List Nat} {R R' Q Q' : Re} (h : Nice s s' R R') (e : ∀ i j, Q i j ↔ R i j) (e' : ∀ i j, Q' i j ↔ R' i j) : Nice s s' Q Q' :=
  ⟨fun i j k => h.fwd i j ((e i j).1 k), fun i j i' k hs => (e' _ _).2 (h.sh i j i' ((e i j).1 k) hs), fun i j k hi => h.len i j ((e i j).1 k) hi⟩
theorem niceC {s s' : List Nat} : ∀ (l : List T), (∀ x ∈ l, Nice s s' (x.M s) (x.M s')) → Nice s s' (MC s l) (MC s' l)
  | [], _ => nice_congr (nice_eq s s') (fun i j => MC_nil i j) (fun i j => MC_nil i j)
  | t :: l, h => nice_congr (nice_seq (h t (by simp)) (niceC l fun x hx => h x (by simp [hx]))) (fun i j => MC_cons t l i j) (fun i j => MC_cons t l i j)
theorem niceA {s s' : List Nat} : ∀ (l : List T), (∀ x ∈ l, Nice s s' (x.M s) (x.M s')) → Nice s s' (MA s l) (MA s' l)
  | [], _ => ⟨fun i j h => by rw [MA_nil] at h; exact h.elim, fun i j i' h => by rw [MA_nil] at h; exact h.elim, fun i j h => by rw [MA_nil] at h; exact h.elim⟩
  | t :: l, h => by
    have h1 := h t (by simp)
    have h2 := niceA l fun x hx => h x (by simp [hx])
    refine ⟨fun i j k => ?_, fun i j i' k hs => ?_, fun i j k hi => ?_⟩
    · rcases (MA_cons t l i j).1 k with k | k
      · exact h1.fwd _ _ k
      · exact h2.fwd _ _ k
    · refine (MA_cons t l _ _).2 ?_
      rcases (MA_cons t l i j).1 k with k | k
      · exact .inl (h1.sh _ _ _ k hs)
      · exact .inr (h2.sh _ _ _ k hs)
    · rcases (MA_cons t l i j).1 k with k | k
      · exact h1.len _ _ k hi
      · exact h2.len _ _ k hi
theorem nice_M (s s' : List Nat) : ∀ t : T, t.good = true → Nice s s' (t.M s) (t.M s')
  | t, hg => by
    obtain ⟨hr, hsub⟩ := right_of_good hg
    have ih : ∀ x ∈ t.subs, Nice s s' (x.M s) (x.M s') := fun x hx => nice_M s s' x (hsub x hx)
    rcases right_k hr with h | h | h | h | ⟨h, ⟨x, hx⟩, h0, h16, hmx⟩ | ⟨h, x, hx⟩
    · exact nice_congr (nice_eq s s') (fun i j => M_1 h i j) (fun i j => M_1 h i j)
    · refine ⟨fun i j k => ?_, fun i j i' k hs => ?_, fun i j k hi => ?_⟩
      · have := (M_2 h i j).1 k; omega
      · obtain ⟨rfl, b, h1, h2⟩ := (M_2 h i j).1 k
        refine (M_2 h _ _).2 ⟨by omega, b, ?_, h2⟩
        have := hs 0 (by omega)
        simp only [Nat.add_zero] at this
        rw [← this]; exact h1
      · obtain ⟨rfl, b, h1, h2⟩ := (M_2 h i j).1 k
        have := (List.getElem?_eq_some_iff.1 h1).1
        omega
    · exact nice_congr (niceC t.subs ih) (fun i j => M_3 h i j) (fun i j => M_3 h i j)
    · exact nice_congr (niceA t.subs ih) (fun i j => M_4 h i j) (fun i j => M_4 h i j)
    · have hn := ih x (by rw [hx]; simp)
      refine ⟨fun i j k => ?_, fun i j i' k hs => ?_, fun i j k hi => ?_⟩
      · obtain ⟨n, _, _, h3⟩ := (M_5 h i j).1 k
        rw [hx, MH_cons] at h3
        exact (nice_pow hn n).fwd _ _ h3
      · obtain ⟨n, h1, h2, h3⟩ := (M_5 h i j).1 k
        rw [hx, MH_cons] at h3
        refine (M_5 h _ _).2 ⟨n, h1, h2, ?_⟩
        rw [hx, MH_cons]
        exact (nice_pow hn n).sh _ _ _ h3 hs
      · obtain ⟨n, _, _, h3⟩ := (M_5 h i j).1 k
        rw [hx, MH_cons] at h3
        exact (nice_pow hn n).len _ _ h3 hi
    · have hn := ih x (by rw [hx]; simp)
      exact nice_congr hn (fun i j => by rw [M_6 h, hx, MH_cons]) (fun i j => by rw [M_6 h, hx, MH_cons])
termination_by t => SizeOf.sizeOf t
decreasing_by exact sub_lt hx
theorem M_le {t : T} (hg : t.good = true) {s : List Nat} {i j : Nat} (h : t.M s i j) : i ≤ j := (nice_M s s t hg).fwd _ _ h
theorem M_len {t : T} (hg : t.good = true) {s : List Nat} {i j : Nat} (h : t.M s i j) (hi : i ≤ s.length) : j ≤ s.length := (nice_M s s t hg).len _ _ h hi
/-- The same between two indices of one string and of another one. -/
theorem M_same {t : T} (hg : t.good = true) {s s' : List Nat} {i j i' j' : Nat} (hl : j' + i = i' + j) (hij : i ≤ j) (hs : ∀ p, i + p < j → s[i + p]? = s'[i' + p]?) : t.M s i j ↔ t.M s' i' j' := by
  constructor
  · intro h
    have := (nice_M s s' t hg).sh _ _ i' h hs
    rw [show i' + (j - i) = j' by omega] at this
    exact this
  · intro h
    have := (nice_M s' s t hg).sh _ _ i h fun p hp => (hs p (by omega)).symm
    rw [show i + (j' - i') = j by omega] at this
    exact this
theorem testBit_pow (n i : Nat) : (2 ^ n).testBit i = true ↔ n = i := by rw [Nat.testBit_two_pow]; simp
theorem lead_fwd {t : T} (hg : t.good = true) {s : List Nat} (hs : s.length ≤ 512) {i j : Nat} (hi : i < 576) : (t.lead s false (2 ^ i)).testBit j = true ↔ t.M s i j := by
  rw [lead_leads false hs t hg _ (pow_B hi) j]
  unfold Goes
  simp only [testBit_pow, Bool.false_eq_true, if_false]
  constructor
  · rintro ⟨k, rfl, h⟩; exact h
  · intro h; exact ⟨i, rfl, h⟩
theorem lead_bwd {t : T} (hg : t.good = true) {s : List Nat} (hs : s.length ≤ 512) {i j : Nat} (hj : j < 576) : (t.lead s true (2 ^ j)).testBit i = true ↔ t.M s i j := by
  rw [lead_leads true hs t hg _ (pow_B hj) i]
  unfold Goes
  simp only [testBit_pow, if_true]
  constructor
  · rintro ⟨k, rfl, h⟩; exact h
  · intro h; exact ⟨j, rfl, h⟩
end Go.Rx

/- Beginnings of what a regex holds at: the least of all. Nothing of a program is named. -/
set_option linter.unusedVariables false
set_option linter.unusedSimpArgs false
namespace Go.Rx
open Go Go.Eng Go.RowKit
set_option maxRecDepth 100000

theorem filter_range (p : Nat → Bool) : ∀ (n a : Nat), match (List.range' a n).filter p with
    | [] => ∀ i, a ≤ i → i < a + n → p i = false
    | x :: _ => p x = true ∧ a ≤ x ∧ x < a + n ∧ ∀ i, a ≤ i → i < x → p i = false
  | 0, a => by simp; omega
  | n + 1, a => by
    have ih := filter_range p n (a + 1)
    rw [List.range'_succ, List.filter_cons]
    by_cases h : p a = true
    · rw [if_pos h]; exact ⟨h, Nat.le_refl _, by omega, fun i h1 h2 => by omega⟩
    · rw [if_neg h]
      have h' : p a = false := by simpa using h
      cases hf : (List.range' (a + 1) n).filter p with
      | nil =>
        rw [hf] at ih
        intro i h1 h2
        by_cases e : i = a
        · subst e; exact h'
        · exact ih i (by omega) (by omega)
      | cons x l =>
        rw [hf] at ih
        obtain ⟨h1, h2, h3, h4⟩ := ih
        refine ⟨h1, by omega, by omega, fun i h5 h6 => ?_⟩
        by_cases e : i = a
        · subst e; exact h'
        · exact h4 i (by omega) h6
theorem bits_first (f : Nat) : match bitsOf f with
    | [] => ∀ i, i < 513 → f.testBit i = false
    | x :: _ => f.testBit x = true ∧ x < 513 ∧ ∀ i, i < x → f.testBit i = false := by
  have h := filter_range (fun i => f.testBit i) 513 0
  unfold bitsOf
  rw [List.range_eq_range']
  cases hf : (List.range' 0 513).filter fun i => f.testBit i with
  | nil => rw [hf] at h; exact fun i hi => h i (by omega) (by omega)
  | cons x l => rw [hf] at h; exact ⟨h.1, by have := h.2.2.1; omega, fun i hi => h.2.2.2 i (by omega) hi⟩
/-- A beginning. -/
def Beg (r : Rg) (s : List Nat) (n i : Nat) : Prop := r.t.M s i n ∧ (i = 0 ∨ r.bg = false)
def open' (r : Rg) (s : List Nat) (n : Nat) : Prop := r.en = false ∨ n = s.length
theorem from_some {r : Rg} (hg : r.t.good = true) {s : List Nat} (hs : s.length ≤ 512) {n : Nat} (hn : n ≤ s.length) {i : Nat} (h : r.from s n = some i) : open' r s n ∧ Beg r s n i ∧ ∀ j, j < i → ¬ Beg r s n j := by
  unfold Rg.from at h
  have hn6 : n < 576 := by omega
  split at h
  · cases h
  · rename_i he
    have ho : open' r s n := by
      unfold open'
      cases hen : r.en with
      | false => exact .inl rfl
      | true =>
        right
        rw [hen] at he
        simp at he
        omega
    refine ⟨ho, ?_⟩
    split at h
    · rename_i hb
      split at h
      · rename_i h0
        cases h
        exact ⟨⟨(lead_bwd hg hs hn6).1 h0, .inl rfl⟩, fun j hj => by omega⟩
      · cases h
    · rename_i hb
      have hb' : r.bg = false := by simpa using hb
      have hf := bits_first (r.t.lead s true (2 ^ n))
      cases hl : bitsOf (r.t.lead s true (2 ^ n)) with
      | nil => rw [hl] at h; simp [firstLe] at h
      | cons x l =>
        rw [hl] at h hf
        simp only [firstLe] at h
        split at h
        · cases h
        · cases h
          exact ⟨⟨(lead_bwd hg hs hn6).1 hf.1, .inr hb'⟩, fun j hj k => by
            have := hf.2.2 j hj
            rw [(lead_bwd hg hs hn6).2 k.1] at this; cases this⟩
theorem from_none {r : Rg} (hg : r.t.good = true) {s : List Nat} (hs : s.length ≤ 512) {n : Nat} (hn : n ≤ s.length) (h : r.from s n = none) (ho : open' r s n) : ∀ i, ¬ Beg r s n i := by
  intro i hi
  have hn6 : n < 576 := by omega
  unfold Rg.from at h
  have he : ¬ (r.en && decide ((n : Int) < s.length)) = true := by
    unfold open' at ho
    rcases ho with ho | ho
    · rw [ho]; simp
    · simp; omega
  rw [if_neg he] at h
  split at h
  · rename_i hb
    have h0 : i = 0 := by
      rcases hi.2 with h | h
      · exact h
      · rw [hb] at h; cases h
    subst h0
    rw [if_pos ((lead_bwd hg hs hn6).2 hi.1)] at h; cases h
  · have hf := bits_first (r.t.lead s true (2 ^ n))
    have hin := M_le hg hi.1
    cases hl : bitsOf (r.t.lead s true (2 ^ n)) with
    | nil =>
      rw [hl] at hf
      have := hf i (by omega)
      rw [(lead_bwd hg hs hn6).2 hi.1] at this; cases this
    | cons x l =>
      rw [hl] at h hf
      simp only [firstLe] at h
      split at h
      · rename_i hx
        have := hf.2.2 i (by omega)
        rw [(lead_bwd hg hs hn6).2 hi.1] at this; cases this
      · cases h
theorem from_closed {r : Rg} {s : List Nat} {n : Nat} (hn : n ≤ s.length) (ho : ¬ open' r s n) : r.from s n = none := by
  unfold open' at ho
  unfold Rg.from
  have h1 : r.en = true := by
    cases h : r.en with
    | true => rfl
    | false => exact absurd (.inl h) ho
  have h2 : ¬ n = s.length := fun h => ho (.inr h)
  rw [if_pos (by rw [h1]; simp; omega)]
theorem from_isSome {r : Rg} (hg : r.t.good = true) {s : List Nat} (hs : s.length ≤ 512) {n : Nat} (hn : n ≤ s.length) : (r.from s n).isSome = true ↔ open' r s n ∧ ∃ i, Beg r s n i := by
  constructor
  · intro h
    obtain ⟨i, hi⟩ := Option.isSome_iff_exists.1 h
    have := from_some hg hs hn hi
    exact ⟨this.1, i, this.2.1⟩
  · rintro ⟨ho, i, hi⟩
    cases hf : r.from s n with
    | some j => rfl
    | none => exact absurd hi (from_none hg hs hn hf ho i)
theorem sub_M {t : T} (hg : t.good = true) {s : List Nat} {i n : Nat} (hi : i ≤ n) (hn : n ≤ s.length) : t.M ((s.drop i).take (n - i)) 0 ((s.drop i).take (n - i)).length ↔ t.M s i n := by
  have hl : ((s.drop i).take (n - i)).length = n - i := by simp; omega
  rw [hl]
  refine M_same hg (by omega) (by omega) fun p hp => ?_
  rw [Nat.zero_add, List.getElem?_take, if_pos (by omega), List.getElem?_drop]
end Go.Rx

/- Ends and Begins as sorted lists: what both sides say, and what is around a string does not matter. Nothing of a program is named. -/
set_option linter.unusedVariables false
set_option linter.unusedSimpArgs false
namespace Go.Rx
open Go Go.Eng Go.RowKit
set_option maxRecDepth 100000

theorem sorted_ext : ∀ (l l' : List Nat), l.Pairwise (· < ·) → l'.Pairwise (· < ·) → (∀ x, x ∈ l ↔ x ∈ l') → l = l'
  | [], [], _, _, _ => rfl
  | [], y :: l', _, _, h => by have := (h y).2 (by simp); simp at this
  | x :: l, [], _, _, h => by have := (h x).1 (by simp); simp at this
  | x :: l, y :: l', h1, h2, h => by
    rw [List.pairwise_cons] at h1 h2
    have hxy : x = y := by
      have a := (h x).1 (by simp)
      have b := (h y).2 (by simp)
      rcases List.mem_cons.1 a with a | a
      · exact a
      · rcases List.mem_cons.1 b with b | b
        · exact b.symm
        · have := h1.1 y b; have := h2.1 x a; omega
    subst hxy
    rw [sorted_ext l l' h1.2 h2.2 fun z => ?_]
    constructor
    · intro hz
      have := (h z).1 (by simp [hz])
      rcases List.mem_cons.1 this with e | e
      · have := h1.1 z hz; omega
      · exact e
    · intro hz
      have := (h z).2 (by simp [hz])
      rcases List.mem_cons.1 this with e | e
      · have := h2.1 z hz; omega
      · exact e
theorem bits_pw (f : Nat) : (bitsOf f).Pairwise (· < ·) := by
  unfold bitsOf
  exact List.Pairwise.filter _ List.pairwise_lt_range
theorem bits_mem {f x : Nat} : x ∈ bitsOf f ↔ x < 513 ∧ f.testBit x = true := by
  unfold bitsOf; simp
theorem pw_step {l : List Nat} (h : l.Pairwise (· < ·)) : ∀ i x y, l[i]? = some x → l[i + 1]? = some y → x ≤ y := by
  intro i x y hx hy
  obtain ⟨hi, rfl⟩ := List.getElem?_eq_some_iff.1 hx
  obtain ⟨hj, rfl⟩ := List.getElem?_eq_some_iff.1 hy
  have := List.pairwise_iff_getElem.1 h i (i + 1) hi hj (by omega)
  omega
/-- The ends from an index, the beginnings up to one. -/
def endsL (t : T) (s : List Nat) (i : Nat) : List Nat := bitsOf (t.lead s false (2 ^ i))
def begsL (t : T) (s : List Nat) (j : Nat) : List Nat := bitsOf (t.lead s true (2 ^ j))
theorem ends_mem {t : T} (hg : t.good = true) {s : List Nat} (hs : s.length ≤ 512) {i j : Nat} (hi : i ≤ s.length) : j ∈ endsL t s i ↔ t.M s i j := by
  unfold endsL
  rw [bits_mem, lead_fwd hg hs (by omega)]
  constructor
  · exact fun h => h.2
  · intro h; have := M_len hg h hi; exact ⟨by omega, h⟩
theorem begs_mem {t : T} (hg : t.good = true) {s : List Nat} (hs : s.length ≤ 512) {i j : Nat} (hj : j ≤ s.length) : i ∈ begsL t s j ↔ t.M s i j := by
  unfold begsL
  rw [bits_mem, lead_bwd hg hs (by omega)]
  constructor
  · exact fun h => h.2
  · intro h; have := M_le hg h; exact ⟨by omega, h⟩
/-- What is left of the ends in a longer string. -/
def inner (F n : Nat) (u : List Nat) : List Nat := (u.filter fun k : Nat => decide ((k : Int) - F ≤ n)).map fun k => k - F
theorem inner_snoc (F n : Nat) (u : List Nat) (k : Nat) : inner F n (u ++ [k]) = inner F n u ++ (if (k : Int) - F ≤ n then [k - F] else []) := by
  unfold inner
  rw [List.filter_append, List.map_append]
  congr 1
  by_cases h : (k : Int) - F ≤ n
  · simp [h]
  · simp [h]
theorem inner_ends {t : T} (hg : t.good = true) {f s b : List Nat} (hl : (f ++ s ++ b).length ≤ 512) {i : Nat} (hi : i ≤ s.length) : inner f.length s.length (endsL t (f ++ s ++ b) (f.length + i)) = endsL t s i := by
  have hl' : f.length + s.length + b.length ≤ 512 := by simp at hl; omega
  have hge : ∀ k ∈ endsL t (f ++ s ++ b) (f.length + i), f.length + i ≤ k := fun k hk => M_le hg ((ends_mem hg hl (by simp; omega)).1 hk)
  refine sorted_ext _ _ ?_ (bits_pw _) fun x => ?_
  · unfold inner
    rw [List.pairwise_map]
    have h1 : ((endsL t (f ++ s ++ b) (f.length + i)).filter fun k : Nat => decide ((k : Int) - f.length ≤ s.length)).Pairwise (· < ·) := List.Pairwise.filter _ (bits_pw _)
    refine List.Pairwise.imp_of_mem (fun {x y} hx hy h => ?_) h1
    have := hge x (List.mem_filter.1 hx).1
    omega
  · rw [ends_mem hg (by omega) hi]
    have key : ∀ x, x ≤ s.length → (t.M (f ++ s ++ b) (f.length + i) (f.length + x) ↔ t.M s i x) := fun x hx => by
      constructor
      · intro h
        have hle := M_le hg h
        refine (M_same hg (by omega) hle fun p hp => ?_).1 h
        rw [List.append_assoc, List.getElem?_append_right (by omega), List.getElem?_append_left (by omega)]
        congr 1; omega
      · intro h
        have hle := M_le hg h
        refine (M_same hg (by omega) hle fun p hp => ?_).1 h
        rw [List.append_assoc, List.getElem?_append_right (by omega), List.getElem?_append_left (by omega)]
        congr 1; omega
    unfold inner
    rw [List.mem_map]
    constructor
    · rintro ⟨k, hk, rfl⟩
      obtain ⟨hk1, hk2⟩ := List.mem_filter.1 hk
      have hk2 := of_decide_eq_true hk2
      have h1 := hge k hk1
      have hm := (ends_mem hg hl (by simp; omega)).1 hk1
      refine (key (k - f.length) (by omega)).1 ?_
      rw [show f.length + (k - f.length) = k by omega]
      exact hm
    · intro h
      have hx := M_len hg h hi
      refine ⟨f.length + x, List.mem_filter.2 ⟨(ends_mem hg hl (by simp; omega)).2 ((key x hx).2 h), decide_eq_true (by omega)⟩, by omega⟩
end Go.Rx

/- Trees without the addresses of their lists: what only depends on that. Nothing of a program is named. -/
set_option linter.unusedVariables false
set_option linter.unusedSimpArgs false
namespace Go.Rx
open Go Go.Eng Go.RowKit
set_option maxRecDepth 100000

mutual
def T.er : T → T
  | .node k s0 s1 s2 s3 mn mx _ _ l => .node k s0 s1 s2 s3 mn mx none 0 (erL l)
def erL : List T → List T
  | [] => []
  | t :: l => t.er :: erL l
end
theorem erL_map : ∀ l : List T, erL l = l.map T.er
  | [] => rfl
  | t :: l => by simp only [erL, List.map_cons, erL_map l]
@[simp] theorem er_k (t : T) : t.er.k = t.k := by cases t; rfl
@[simp] theorem er_s0 (t : T) : t.er.s0 = t.s0 := by cases t; rfl
@[simp] theorem er_s1 (t : T) : t.er.s1 = t.s1 := by cases t; rfl
@[simp] theorem er_s2 (t : T) : t.er.s2 = t.s2 := by cases t; rfl
@[simp] theorem er_s3 (t : T) : t.er.s3 = t.s3 := by cases t; rfl
@[simp] theorem er_mn (t : T) : t.er.mn = t.mn := by cases t; rfl
@[simp] theorem er_mx (t : T) : t.er.mx = t.mx := by cases t; rfl
@[simp] theorem er_subs (t : T) : t.er.subs = t.subs.map T.er := by cases t; simp only [T.er, T.subs, erL_map]
mutual
theorem nodes_er : ∀ t : T, t.er.nodes = t.nodes.map T.er
  | .node k s0 s1 s2 s3 mn mx a c l => by
    simp only [T.er, T.nodes, List.map_cons]
    rw [nodesL_er l]
theorem nodesL_er : ∀ l : List T, nodesL (erL l) = (nodesL l).map T.er
  | [] => rfl
  | t :: l => by simp only [erL, nodesL, List.map_append, nodes_er t, nodesL_er l]
end
theorem has_er (t : T) (k : Int) : t.er.has k = t.has k := by
  unfold T.has; rw [er_subs, List.any_map]; congr 1; funext x; simp
theorem right_er (t : T) : t.er.right = t.right := by
  unfold T.right T.setZ
  simp only [has_er, er_k, er_s0, er_s1, er_s2, er_s3, er_mn, er_mx, er_subs, List.length_map]
theorem light_er (t : T) : t.er.light = t.light := by unfold T.light; rw [nodes_er, List.length_map]
theorem all_er (l : List T) : (l.map T.er).all T.right = l.all T.right := by
  rw [List.all_map]; congr 1; funext x; exact right_er x
theorem clean_er (t : T) : t.er.clean = t.clean := by unfold T.clean; rw [light_er, nodes_er, all_er]
theorem good_er (t : T) : t.er.good = t.good := by unfold T.good; rw [nodes_er, all_er]
theorem size_er (t : T) : t.er.size = t.size := by unfold T.size; rw [light_er, nodes_er, List.length_map]
theorem groups_er (t : T) : t.er.groups = t.groups := by
  unfold T.groups; rw [light_er, nodes_er, List.countP_map]
  have : ((fun x : T => x.k == 6) ∘ T.er) = fun x : T => x.k == 6 := by funext x; simp
  rw [this]
mutual
theorem pos_er : ∀ t : T, t.er.pos = t.pos
  | .node k s0 s1 s2 s3 mn mx a c l => by simp only [T.er, T.pos, posL_er l]
theorem posL_er : ∀ l : List T, posL (erL l) = posL l
  | [] => rfl
  | t :: l => by simp only [erL, posL, pos_er t, posL_er l]
end
theorem positions_er (t : T) : t.er.positions = t.positions := by unfold T.positions; rw [light_er, pos_er]
theorem check_er (t : T) : t.er.check = t.check := by unfold T.check; rw [clean_er, size_er, positions_er, groups_er]
theorem hasB_er (t : T) (c : Nat) : t.er.hasB c = t.hasB c := by unfold T.hasB; simp only [er_s0, er_s1, er_s2, er_s3]
mutual
theorem M_er (s : List Nat) : ∀ t : T, t.er.M s = t.M s
  | .node k s0 s1 s2 s3 mn mx a c l => by
    funext i j
    have hb : ∀ b, (T.node k s0 s1 s2 s3 mn mx none 0 (erL l)).hasB b = (T.node k s0 s1 s2 s3 mn mx a c l).hasB b := fun b => hasB_er (.node k s0 s1 s2 s3 mn mx a c l) b
    simp only [T.er, T.M, MC_er s l, MA_er s l, MH_er s l, hb]
theorem MC_er (s : List Nat) : ∀ l : List T, MC s (erL l) = MC s l
  | [] => rfl
  | t :: l => by funext i j; simp only [erL, MC, M_er s t, MC_er s l]
theorem MA_er (s : List Nat) : ∀ l : List T, MA s (erL l) = MA s l
  | [] => rfl
  | t :: l => by funext i j; simp only [erL, MA, M_er s t, MA_er s l]
theorem MH_er (s : List Nat) : ∀ l : List T, MH s (erL l) = MH s l
  | [] => rfl
  | t :: l => by funext i j; simp only [erL, MH, M_er s t]
end
theorem er_check {t u : T} (h : t.er = u.er) : t.check = u.check := by rw [← check_er t, h, check_er]
theorem er_clean {t u : T} (h : t.er = u.er) : t.clean = u.clean := by rw [← clean_er t, h, clean_er]
theorem er_good {t u : T} (h : t.er = u.er) : t.good = u.good := by rw [← good_er t, h, good_er]
theorem er_M {t u : T} (h : t.er = u.er) (s : List Nat) : t.M s = u.M s := by rw [← M_er s t, h, M_er]
theorem er_kk {t u : T} (h : t.er = u.er) : t.k = u.k := by rw [← er_k t, h, er_k]
theorem er_node {k s0 s1 s2 s3 mn mx : Int} {a a' : Option Addr} {c c' : Nat} {l l' : List T} (h : l.map T.er = l'.map T.er) : (T.node k s0 s1 s2 s3 mn mx a c l).er = (T.node k s0 s1 s2 s3 mn mx a' c' l').er := by
  simp only [T.er, erL_map, h]
end Go.Rx

/- What is put together of trees, by Or, Seq, Times and Capture. Nothing of a program is named. -/
set_option linter.unusedVariables false
set_option linter.unusedSimpArgs false
namespace Go.Rx
open Go Go.Eng Go.RowKit
set_option maxRecDepth 100000

/-- What 'checked' makes of a tree: a copy, or None. -/
def Chkd (t t' : T) : Prop := (t.clean = true ∧ t'.er = t.er) ∨ (t.clean = false ∧ t' = T0)
def Join (k : Int) (a : Option Addr) (c : Nat) (u : T) : List T → T → Prop
  | [], t' => t' = u
  | [x], t' => Chkd x t'
  | x :: y :: l, t' => Chkd (nodeT k 0 0 a c (x :: y :: l)) t'
def flat1 (k w : Int) (x : T) : List T := if x.k = k then x.subs else if x.k = w then [] else [x]
def flatL (k w : Int) (L : List T) : List T := (L.map (flat1 k w)).flatten
theorem flatL_snoc (k w : Int) (L : List T) (x : T) : flatL k w (L ++ [x]) = flatL k w L ++ flat1 k w x := by simp [flatL]
theorem flatL_len (k w : Int) : ∀ (L : List T), (∀ x ∈ L, x.subs.length ≤ 10000) → (flatL k w L).length ≤ L.length * 10001
  | [], _ => by simp [flatL]
  | x :: L, h => by
    have ih := flatL_len k w L fun y hy => h y (by simp [hy])
    have hx := h x (by simp)
    have h1 : (flat1 k w x).length ≤ 10001 := by
      unfold flat1
      split
      · omega
      · split <;> simp
    have e : (flatL k w (x :: L)).length = (flat1 k w x).length + (flatL k w L).length := by simp [flatL]
    rw [e, List.length_cons]
    omega
theorem T0_check : T0.check = 80 := by decide
theorem chkd_M {t t' : T} (h : Chkd t t') (hc : t'.check = 0) (s : List Nat) : t'.M s = t.M s := by
  rcases h with ⟨_, h⟩ | ⟨_, h⟩
  · exact er_M h s
  · subst h; rw [T0_check] at hc; cases hc
theorem MA_append (s : List Nat) (l r : List T) (i j : Nat) : MA s (l ++ r) i j ↔ MA s l i j ∨ MA s r i j := by
  induction l with
  | nil => simp [MA_nil]
  | cons t l ih => rw [List.cons_append, MA_cons, MA_cons, ih]; exact or_assoc.symm
theorem MC_append (s : List Nat) (l r : List T) : ∀ i j, MC s (l ++ r) i j ↔ ∃ m, MC s l i m ∧ MC s r m j := by
  induction l with
  | nil => intro i j; simp [MC_nil]
  | cons t l ih =>
    intro i j
    rw [List.cons_append, MC_cons]
    simp only [ih, MC_cons]
    constructor
    · rintro ⟨a, h1, b, h2, h3⟩; exact ⟨b, ⟨a, h1, h2⟩, h3⟩
    · rintro ⟨b, ⟨a, h1, h2⟩, h3⟩; exact ⟨a, h1, b, h2, h3⟩
theorem join_or {a : Option Addr} {c : Nat} : ∀ {l : List T} {t' : T}, Join 4 a c T0 l t' → t'.check = 0 → ∀ s i j, t'.M s i j ↔ MA s l i j
  | [], t', h, hc, s, i, j => by
    have h : t' = T0 := h
    subst h; rw [T0_check] at hc; cases hc
  | [x], t', h, hc, s, i, j => by
    rw [chkd_M h hc s, MA_cons, MA_nil, or_false]
  | x :: y :: l, t', h, hc, s, i, j => by
    rw [chkd_M h hc s, M_4 rfl]; rfl
theorem join_seq {a : Option Addr} {c : Nat} : ∀ {l : List T} {t' : T}, Join 3 a c T1 l t' → t'.check = 0 → ∀ s i j, t'.M s i j ↔ MC s l i j
  | [], t', h, hc, s, i, j => by
    have h : t' = T1 := h
    subst h; rw [M_1 rfl, MC_nil]
  | [x], t', h, hc, s, i, j => by
    rw [chkd_M h hc s, MC_cons]
    simp only [MC_nil]
    exact ⟨fun h => ⟨j, h, rfl⟩, fun ⟨m, h, e⟩ => e ▸ h⟩
  | x :: y :: l, t', h, hc, s, i, j => by
    rw [chkd_M h hc s, M_3 rfl]; rfl
theorem MA_flat (s : List Nat) (i j : Nat) : ∀ L : List T, (∀ x ∈ L, x.k ≠ 0) → (MA s (flatL 4 0 L) i j ↔ MA s L i j)
  | [], _ => by simp [flatL]
  | x :: L, h => by
    have ih := MA_flat s i j L fun y hy => h y (by simp [hy])
    have e : flatL 4 0 (x :: L) = flat1 4 0 x ++ flatL 4 0 L := by simp [flatL]
    rw [e, MA_append, MA_cons, ih]
    have : MA s (flat1 4 0 x) i j ↔ x.M s i j := by
      unfold flat1
      by_cases h4 : x.k = 4
      · rw [if_pos h4, M_4 h4]
      · rw [if_neg h4, if_neg (h x (by simp)), MA_cons, MA_nil, or_false]
    rw [this]
theorem MC_flat (s : List Nat) : ∀ (L : List T) (i j : Nat), (MC s (flatL 3 1 L) i j ↔ MC s L i j)
  | [], i, j => by simp [flatL]
  | x :: L, i, j => by
    have ih := MC_flat s L
    have e : flatL 3 1 (x :: L) = flat1 3 1 x ++ flatL 3 1 L := by simp [flatL]
    rw [e, MC_append, MC_cons]
    have : ∀ m, MC s (flat1 3 1 x) i m ↔ x.M s i m := by
      intro m
      unfold flat1
      by_cases h3 : x.k = 3
      · rw [if_pos h3, M_3 h3]
      · rw [if_neg h3]
        by_cases h1 : x.k = 1
        · rw [if_pos h1, MC_nil, M_1 h1]
        · rw [if_neg h1, MC_cons]
          simp only [MC_nil]
          exact ⟨fun ⟨a, h, e⟩ => e ▸ h, fun h => ⟨m, h, rfl⟩⟩
    simp only [this, ih]
theorem clean_k {t : T} (h : t.clean = true) : t.k ≠ 0 := by
  have hg : t.good = true := by
    unfold T.clean at h
    rw [Bool.and_eq_true] at h
    exact h.2
  have := (right_of_good hg).1
  rcases right_k this with h | h | h | h | ⟨h, _⟩ | ⟨h, _⟩ <;> omega
theorem check_clean {t : T} (h : t.check = 0) : t.clean = true := by
  unfold T.check at h
  split at h
  · cases h
  · rename_i hc; simpa using hc
theorem clean_light {t : T} (h : t.clean = true) : t.nodes.length ≤ 10000 := by
  unfold T.clean T.light at h
  rw [Bool.and_eq_true] at h
  exact of_decide_eq_true h.1
/-- What Times makes. -/
def Timed (n : T) (lo hi : Int) (t' : T) : Prop :=
  t' = T0 ∨ (t' = T1 ∧ ((lo = 0 ∧ hi = 0) ∨ (n.k = 1 ∧ ((lo = 1 ∧ hi = 1) ∨ bounds lo hi = true)))) ∨ (lo = 1 ∧ hi = 1 ∧ t'.er = n.er) ∨ ∃ a c, Chkd (nodeT 5 lo hi a c [n]) t'
theorem pow_eq (n i j : Nat) : pow (fun a b => a = b) n i j ↔ i = j := by
  induction n generalizing i j with
  | zero => rfl
  | succ n ih =>
    show (∃ m, i = m ∧ pow (fun a b => a = b) n m j) ↔ i = j
    simp only [ih]
    exact ⟨fun ⟨m, h1, h2⟩ => h1.trans h2, fun h => ⟨i, rfl, h⟩⟩
theorem bounds_le {lo hi : Int} (h : bounds lo hi = true) : 0 ≤ lo ∧ (hi = -1 ∨ lo ≤ hi) := by
  unfold bounds at h
  simp only [Bool.and_eq_true, Bool.not_eq_true', Bool.or_eq_false_iff, Bool.or_eq_true, decide_eq_false_iff_not, decide_eq_true_eq, beq_iff_eq] at h
  omega
theorem timed_M {n t' : T} {lo hi : Int} (h : Timed n lo hi t') (hc : t'.check = 0) (s : List Nat) (i j : Nat) : t'.M s i j ↔ ∃ c : Nat, lo.toNat ≤ c ∧ (hi = -1 ∨ c ≤ hi.toNat) ∧ pow (n.M s) c i j := by
  rcases h with h | ⟨h, h2⟩ | ⟨rfl, rfl, h⟩ | ⟨a, c, h⟩
  · subst h; rw [T0_check] at hc; cases hc
  · subst h
    rw [M_1 rfl]
    rcases h2 with ⟨rfl, rfl⟩ | ⟨hk, hb⟩
    · constructor
      · intro h; exact ⟨0, by decide, .inr (by decide), h⟩
      · rintro ⟨c, _, h | h, hp⟩
        · cases h
        · have : c = 0 := by
            have : (0 : Int).toNat = 0 := rfl
            omega
          subst this; exact hp
    · have hM : n.M s = fun a b => a = b := by funext a b; rw [M_1 hk]
      rw [hM]
      simp only [pow_eq]
      constructor
      · intro h
        rcases hb with ⟨rfl, rfl⟩ | hb
        · exact ⟨1, by decide, .inr (by decide), h⟩
        · have := bounds_le hb
          exact ⟨lo.toNat, Nat.le_refl _, by omega, h⟩
      · rintro ⟨_, _, _, h⟩; exact h
  · rw [er_M h s]
    constructor
    · intro h; exact ⟨1, by decide, .inr (by decide), j, h, rfl⟩
    · rintro ⟨c, h1, h2, hp⟩
      have : c = 1 := by
        have : (1 : Int).toNat = 1 := rfl
        omega
      subst this
      obtain ⟨m, h1, h2⟩ := hp
      have h2 : m = j := h2
      subst h2; exact h1
  · rw [chkd_M h hc s, M_5 rfl]
    show (∃ c : Nat, lo.toNat ≤ c ∧ (hi = -1 ∨ c ≤ hi.toNat) ∧ pow (MH s [n]) c i j) ↔ _
    rw [MH_cons]
end Go.Rx

/- Rounds of a relation that goes forward: how many are enough. Nothing of a program is named. -/
set_option linter.unusedVariables false
set_option linter.unusedSimpArgs false
namespace Go.Rx
open Go Go.Eng Go.RowKit
set_option maxRecDepth 100000

theorem pow_drop {R : Re} (hf : Fwd R) : ∀ c i j, pow R (c + 1) i j → j < i + (c + 1) → pow R c i j
  | 0, i, j, ⟨m, h1, h2⟩, hj => by
    have h2 : m = j := h2
    subst h2
    have := hf _ _ h1
    show i = m
    omega
  | c + 1, i, j, ⟨m, h1, h2⟩, hj => by
    by_cases e : m = i
    · subst e; exact h2
    · have := hf _ _ h1
      exact ⟨m, h1, pow_drop hf c m j h2 (by omega)⟩
theorem pow_bound {R : Re} (hf : Fwd R) {B i j : Nat} (hj : j ≤ i + B) : ∀ d, pow R (B + d) i j → pow R B i j
  | 0, h => h
  | d + 1, h => pow_bound hf hj d (pow_drop hf (B + d) i j h (by omega))
theorem times_enough {R : Re} (hf : Fwd R) {lo len : Nat} {hi : Int} (hlo : lo ≤ len + 4) (hhi : hi = -1 ∨ (0 ≤ hi ∧ hi ≤ 4)) : (∃ c : Nat, lo ≤ c ∧ (hi = -1 ∨ c ≤ hi.toNat) ∧ pow R c 0 len) ↔ ∃ c : Nat, c < len + 5 ∧ lo ≤ c ∧ (hi = -1 ∨ c ≤ hi.toNat) ∧ pow R c 0 len := by
  constructor
  · rintro ⟨c, h1, h2, h3⟩
    by_cases hc : c < len + 5
    · exact ⟨c, hc, h1, h2, h3⟩
    · rcases h2 with h2 | h2
      · obtain ⟨d, rfl⟩ : ∃ d, c = (len + 4) + d := ⟨c - (len + 4), by omega⟩
        exact ⟨len + 4, by omega, hlo, .inl h2, pow_bound hf (by omega) d h3⟩
      · omega
  · rintro ⟨c, _, h1, h2, h3⟩; exact ⟨c, h1, h2, h3⟩
/-- To which indices below a bound a relation leads from one. -/
noncomputable def toL (R : Re) (i j : Nat) : List Nat := open Classical in (List.range j).filter fun x => decide (R i x)
theorem toL_succ (R : Re) (i j : Nat) : toL R i (j + 1) = toL R i j ++ (open Classical in if R i j then [j] else []) := by
  unfold toL
  rw [List.range_succ, List.filter_append]
  congr 1
  by_cases h : R i j
  · simp [h]
  · simp [h]
theorem toL_self {R : Re} (hf : Fwd R) (i : Nat) : toL R i i = [] := by
  unfold toL
  rw [List.filter_eq_nil_iff]
  intro x hx
  have := List.mem_range.1 hx
  have : ¬ R i x := fun h => by have := hf _ _ h; omega
  simp [this]
theorem toL_mem {R : Re} {i j x : Nat} : x ∈ toL R i j ↔ x < j ∧ R i x := by
  unfold toL; simp
theorem toL_len (R : Re) (i j : Nat) : (toL R i j).length ≤ j := by
  unfold toL
  have := List.length_filter_le (fun x => (open Classical in decide (R i x))) (List.range j)
  simpa using this
/-- A row of ones and zeros. -/
def rowL (g : Nat → Bool) (n : Nat) : List Nat := (List.range n).map fun j => if g j then 1 else 0
theorem rowL_len (g : Nat → Bool) (n : Nat) : (rowL g n).length = n := by simp [rowL]
theorem rowL_get (g : Nat → Bool) {n j : Nat} (h : j < n) : (rowL g n)[j]? = some (if g j then 1 else 0) := by simp [rowL, h]
theorem rowL_set (g : Nat → Bool) {n j : Nat} (h : j < n) (v : Bool) : (rowL g n).set j (if v then 1 else 0) = rowL (fun x => if x = j then v else g x) n := by
  refine List.ext_getElem? fun i => ?_
  rw [List.getElem?_set]
  by_cases hi : i < n
  · rw [rowL_get _ hi, rowL_len]
    by_cases e : j = i
    · subst e; rw [rowL_get _ hi]; simp [h]
    · rw [if_neg e, rowL_get _ hi, if_neg (Ne.symm e)]
  · rw [List.getElem?_eq_none_iff.2 (by rw [rowL_len]; omega), List.getElem?_eq_none_iff.2 (by rw [rowL_len]; omega), rowL_len]
    by_cases e : j = i
    · subst e; exact absurd h hi
    · rw [if_neg e]
theorem rowL_congr {g h : Nat → Bool} {n : Nat} (e : ∀ j, j < n → g j = h j) : rowL g n = rowL h n := by
  unfold rowL
  refine List.map_congr_left fun j hj => ?_
  rw [e j (List.mem_range.1 hj)]
theorem splice_set {l : List Value} {i : Nat} {v : Value} (h : i < l.length) : splice l i [v] = l.set i v := by
  refine List.ext_getElem? fun j => ?_
  unfold splice
  simp only [List.length_cons, List.length_nil]
  rw [List.getElem?_set]
  by_cases h1 : j < i
  · rw [List.append_assoc, List.getElem?_append_left (by rw [List.length_take]; omega), List.getElem?_take, if_pos h1, if_neg (by omega)]
  · rw [List.append_assoc, List.getElem?_append_right (by rw [List.length_take]; omega), List.length_take, Nat.min_eq_left (by omega)]
    by_cases h2 : j = i
    · subst h2; simp [h]
    · rw [List.getElem?_append_right (by simp; omega), if_neg (by omega), List.getElem?_drop]
      congr 1
      simp; omega
end Go.Rx

/- Lists and rows of a relation, as they are written out in memory. Nothing of a program is named. -/
set_option linter.unusedVariables false
set_option linter.unusedSimpArgs false
namespace Go.Rx
open Go Go.Eng Go.RowKit
set_option maxRecDepth 100000

/-- A store into one cell of a list of cells. -/
theorem store_one {P : List Value → Prop} {cs : List Value} {n i : Nat} {v : Value} (hn : cs.length = n) (hi : i < n) (h : P (cs.set i v)) : (bif Nat.beq (n * 1) 1 && Nat.beq (i * 1) 0 then P [v] else chk (Nat.ble (i * 1 + 1) cs.length) (P (splice cs (i * 1) [v]))) := by
  rw [Nat.mul_one, Nat.mul_one]
  cases hb : (Nat.beq n 1 && Nat.beq i 0) with
  | true =>
    rw [Bool.and_eq_true] at hb
    have h1 := Nat.eq_of_beq_eq_true hb.1
    have h2 := Nat.eq_of_beq_eq_true hb.2
    subst h2
    match cs, hn with
    | [c], _ => exact h
    | [], hn => simp at hn; omega
    | _ :: _ :: _, hn => simp at hn; omega
  | false =>
    refine chk_intro (Nat.ble_eq_true_of_le (by omega)) ?_
    rw [splice_set (by omega)]
    exact h
/-- The rows. -/
noncomputable def powB (R : Re) (c j : Nat) : Bool := open Classical in decide (pow R c 0 j)
theorem powB_iff {R : Re} {c j : Nat} : powB R c j = true ↔ pow R c 0 j := by unfold powB; simp
noncomputable def powF (R : Re) (n : Nat) (c : Nat) : List Nat := rowL (powB R c) n
noncomputable def roundG (R : Re) (c i : Nat) : Nat → Bool := open Classical in fun x => if c = 0 then decide (x = 0) else decide (∃ i', i' < i ∧ pow R (c - 1) 0 i' ∧ R i' x)
theorem round_end {R : Re} (hf : Fwd R) {n c i : Nat} (h : c = 0 ∨ i = n) : rowL (roundG R c i) n = powF R n c := by
  unfold powF powB
  refine rowL_congr fun j hj => ?_
  unfold roundG
  cases c with
  | zero => simp only [if_true]; exact decide_eq_decide.2 ⟨fun h => h.symm, fun h => h.symm⟩
  | succ c =>
    rw [if_neg (by omega)]
    have hi : i = n := by omega
    subst hi
    refine decide_eq_decide.2 ?_
    rw [pow_snoc]
    constructor
    · rintro ⟨m, _, h1, h2⟩; exact ⟨m, h1, h2⟩
    · rintro ⟨m, h1, h2⟩; have := hf _ _ h2; exact ⟨m, by omega, h1, h2⟩
noncomputable def stepR (R : Re) (c i n p : Nat) : Nat → Bool := open Classical in fun x => roundG R c i x || (powB R (c - 1) i && decide (x ∈ (toL R i n).take p))
theorem stRow_end {R : Re} {c i n : Nat} (hc : c ≠ 0) : rowL (stepR R c i n (toL R i n).length) n = rowL (roundG R c (i + 1)) n := by
  refine rowL_congr fun x hx => ?_
  unfold stepR roundG
  rw [if_neg hc, if_neg hc, List.take_length, Bool.eq_iff_iff]
  simp only [Bool.or_eq_true, Bool.and_eq_true, decide_eq_true_eq, toL_mem, powB_iff]
  constructor
  · rintro (⟨i', h1, h2⟩ | ⟨h1, _, h2⟩)
    · exact ⟨i', by omega, h2⟩
    · exact ⟨i, by omega, h1, h2⟩
  · rintro ⟨i', h1, h2, h3⟩
    by_cases e : i' = i
    · subst e; exact .inr ⟨h2, hx, h3⟩
    · exact .inl ⟨i', by omega, h2, h3⟩
theorem stRow_zero (R : Re) (c i n : Nat) : rowL (stepR R c i n 0) n = rowL (roundG R c i) n := by
  refine rowL_congr fun x hx => ?_
  unfold stepR
  simp
theorem stRow_one (R : Re) (c i n p j : Nat) (hp : (toL R i n)[p]? = some j) (hj : j < n) : (rowL (stepR R c i n p) n).set j (if powB R (c - 1) i || stepR R c i n p j then 1 else 0) = rowL (stepR R c i n (p + 1)) n := by
  rw [rowL_set _ hj]
  refine rowL_congr fun x hx => ?_
  have ht : (toL R i n).take (p + 1) = (toL R i n).take p ++ [j] := by rw [List.take_add_one, hp]; rfl
  by_cases e : x = j
  · subst e
    rw [if_pos rfl]
    unfold stepR
    rw [ht]
    simp only [List.mem_append, List.mem_singleton, or_true, decide_true, Bool.and_true]
    cases (roundG R c i x) <;> cases powB R (c - 1) i <;> simp
  · rw [if_neg e]
    unfold stepR
    rw [ht]
    simp [e]
end Go.Rx

