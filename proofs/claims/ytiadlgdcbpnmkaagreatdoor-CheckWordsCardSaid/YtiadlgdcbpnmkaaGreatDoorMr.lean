/- Trees of regexes, what they mean, and how they lie in memory; plain, no program is named. No condition. -/
import Derived.Test.YtiadlgdcbpnmkaaGreatDoorMc
import Derived.KernelRfl
set_option linter.unusedVariables false
set_option linter.unusedSimpArgs false
namespace Go.Rx
open Go Go.Eng
inductive T where
 | node (k s0 s1 s2 s3 mn mx : Int) (a : Option Addr) (c : Nat) (subs : List T)
def T.k : T → Int
 | .node k _ _ _ _ _ _ _ _ _ => k
def T.s0 : T → Int
 | .node _ s _ _ _ _ _ _ _ _ => s
def T.s1 : T → Int
 | .node _ _ s _ _ _ _ _ _ _ => s
def T.s2 : T → Int
 | .node _ _ _ s _ _ _ _ _ _ => s
def T.s3 : T → Int
 | .node _ _ _ _ s _ _ _ _ _ => s
def T.mn : T → Int
 | .node _ _ _ _ _ x _ _ _ _ => x
def T.mx : T → Int
 | .node _ _ _ _ _ _ x _ _ _ => x
def T.a : T → Option Addr
 | .node _ _ _ _ _ _ _ a _ _ => a
def T.c : T → Nat
 | .node _ _ _ _ _ _ _ _ c _ => c
def T.subs : T → List T
 | .node _ _ _ _ _ _ _ _ _ l => l
def T.sl (t : T) : Value := .slice t.a t.subs.length t.c
def T.cs (t : T) : List Value := [.int .u8 t.k, .int .u64 t.s0, .int .u64 t.s1, .int .u64 t.s2, .int .u64 t.s3, .int .i64 t.mn, .int .i64 t.mx, t.sl]
def T.v (t : T) : Value := .agg #[.int .u8 t.k, .int .u64 t.s0, .int .u64 t.s1, .int .u64 t.s2, .int .u64 t.s3, .int .i64 t.mn, .int .i64 t.mx, .slice t.a t.subs.length t.c]
structure OkN (k s0 s1 s2 s3 mn mx : Int) : Prop where
 k : 0 ≤ k ∧ k < 256
 s0 : 0 ≤ s0 ∧ s0 < 18446744073709551616
 s1 : 0 ≤ s1 ∧ s1 < 18446744073709551616
 s2 : 0 ≤ s2 ∧ s2 < 18446744073709551616
 s3 : 0 ≤ s3 ∧ s3 < 18446744073709551616
 mn : -9223372036854775808 ≤ mn ∧ mn ≤ 9223372036854775807
 mx : -9223372036854775808 ≤ mx ∧ mx ≤ 9223372036854775807
mutual
def Rep (m : Mem) : T → Prop
 | .node k s0 s1 s2 s3 mn mx a _ l => l.length ≤ 1000000000000000 ∧ (l = [] ∨ ∃ b o, a = some ⟨b, o, none⟩ ∧ RepAt m b o l) ∧ OkN k s0 s1 s2 s3 mn mx
def RepAt (m : Mem) (b : Nat) : Nat → List T → Prop
 | _, [] => True
 | o, t :: l => m.reads b o t.cs ∧ Rep m t ∧ RepAt m b (o + 8) l
end
theorem Rep_iff {m : Mem} {t : T} : Rep m t → (t.subs.length ≤ 1000000000000000 ∧ (t.subs = [] ∨ ∃ b o, t.a = some ⟨b, o, none⟩ ∧ RepAt m b o t.subs)) := by
 cases t; simp only [Rep, T.subs, T.a]; exact fun h => ⟨h.1, h.2.1⟩
mutual
theorem Rep.mono {m m' : Mem} (h : m.le m') : ∀ t : T, Rep m t → Rep m' t
 | .node _ _ _ _ _ _ _ a _ l, hr => by
  simp only [Rep] at *
  refine ⟨hr.1, ?_, hr.2.2⟩
  rcases hr.2.1 with hr | ⟨b, o, h1, h2⟩
  ·exact .inl hr
  ·exact .inr ⟨b, o, h1, RepAt.mono h b o l h2⟩
theorem RepAt.mono {m m' : Mem} (h : m.le m') (b : Nat) : ∀ (o : Nat) (l : List T), RepAt m b o l → RepAt m' b o l
 | _, [], _ => by simp only [RepAt]
 | o, t :: l, hr => by
  simp only [RepAt] at *
  exact ⟨hr.1.mono h, Rep.mono h t hr.2.1, RepAt.mono h b (o + 8) l hr.2.2⟩
end
theorem RepAt.get {m : Mem} {b : Nat} : ∀ {o : Nat} {l : List T} {i : Nat} {t : T}, RepAt m b o l → l[i]? = some t → m.reads b (o + i * 8) t.cs ∧ Rep m t
 | o, [], i, t, _, hi => by simp at hi
 | o, x :: l, 0, t, h, hi => by
  simp only [RepAt] at h
  simp at hi; subst hi
  exact ⟨by simpa using h.1, h.2.1⟩
 | o, x :: l, i + 1, t, h, hi => by
  simp only [RepAt] at h
  have := h.2.2.get (i := i) (by simpa using hi)
  rw [show o + (i + 1) * 8 = o + 8 + i * 8 by omega]
  exact this
mutual
def T.nodes : T → List T
 | .node k s0 s1 s2 s3 mn mx a c l => .node k s0 s1 s2 s3 mn mx a c l :: nodesL l
def nodesL : List T → List T
 | [] => []
 | t :: l => t.nodes ++ nodesL l
end
theorem nodes_eq (t : T) : t.nodes = t :: nodesL t.subs := by cases t; simp only [T.nodes, T.subs]
theorem nodesL_append (l r : List T) : nodesL (l ++ r) = nodesL l ++ nodesL r := by
 induction l with
 | nil => simp [nodesL]
 | cons t l ih => simp [nodesL, ih, List.append_assoc]
theorem nodesL_take {l : List T} {i : Nat} {t : T} (h : l[i]? = some t) : nodesL (l.take (i + 1)) = nodesL (l.take i) ++ t.nodes := by
 have : l.take (i + 1) = l.take i ++ [t] := by
  rw [List.take_add_one, h]; rfl
 rw [this, nodesL_append]; simp [nodesL]
theorem nodesL_split {l : List T} {i : Nat} {t : T} (h : l[i]? = some t) : nodesL l = nodesL (l.take i) ++ (t.nodes ++ nodesL (l.drop (i + 1))) := by
 have hlt := (List.getElem?_eq_some_iff.1 h).1
 have e : l = l.take i ++ (t :: l.drop (i + 1)) := by
  have := List.drop_eq_getElem_cons hlt
  rw [(List.getElem?_eq_some_iff.1 h).2] at this
  rw [← this, List.take_append_drop]
 conv => lhs; rw [e, nodesL_append]
 simp [nodesL]
theorem nodes_at {t x z : T} {i q : Nat} (hx : t.subs[i]? = some x) (hz : x.nodes[q]? = some z) : t.nodes[1 + (nodesL (t.subs.take i)).length + q]? = some z := by
 have hq := (List.getElem?_eq_some_iff.1 hz).1
 rw [nodes_eq, show 1 + (nodesL (t.subs.take i)).length + q = ((nodesL (t.subs.take i)).length + q) + 1 by omega, List.getElem?_cons_succ, nodesL_split hx, List.getElem?_append_right (by omega), List.getElem?_append_left (by omega), show (nodesL (List.take i t.subs)).length + q - (nodesL (List.take i t.subs)).length = q by omega]
 exact hz
theorem sub_lt {t x : T} (h : x ∈ t.subs) : SizeOf.sizeOf x < SizeOf.sizeOf t := by
 cases t with
 | node k s0 s1 s2 s3 mn mx a c l =>
  have h' : x ∈ l := h
  have := List.sizeOf_lt_of_mem h'
  simp only [T.node.sizeOf_spec]
  omega
theorem fits_v (t : T) : Shape.fitsL [.agg [.int .u8, .int .u64, .int .u64, .int .u64, .int .u64, .int .i64, .int .i64, .slice]] [t.v] = true := by
 simp [Shape.fitsL, Shape.fits, T.v]
mutual
theorem rep_node {m : Mem} : ∀ (t : T), Rep m t → ∀ x ∈ t.nodes, Rep m x
 | .node k s0 s1 s2 s3 mn mx a c l, hr, x, hx => by
  simp only [T.nodes, List.mem_cons] at hx
  rcases hx with rfl | hx
  ·exact hr
  ·simp only [Rep] at hr
   rcases hr.2.1 with h | ⟨b, o, _, h⟩
   ·subst h; simp [nodesL] at hx
   ·exact rep_nodeL b o l h x hx
theorem rep_nodeL {m : Mem} (b : Nat) : ∀ (o : Nat) (l : List T), RepAt m b o l → ∀ x ∈ nodesL l, Rep m x
 | _, [], _, x, hx => by simp [nodesL] at hx
 | o, t :: l, hr, x, hx => by
  simp only [RepAt] at hr
  simp only [nodesL, List.mem_append] at hx
  rcases hx with hx | hx
  ·exact rep_node t hr.2.1 x hx
  ·exact rep_nodeL b (o + 8) l hr.2.2 x hx
end
theorem rep_nodes {m : Mem} {t x : T} (h : Rep m t) (hx : x ∈ t.nodes) : Rep m x := rep_node t h x hx
def bounds (least most : Int) : Bool := !(decide (least < 0) || decide (least > 16) || (least == 1 && most == 1)) && (most == -1 || (decide (most ≥ 1) && decide (most ≤ 16) && decide (most ≥ least)))
def T.has (t : T) (k : Int) : Bool := t.subs.any fun x => x.k == k
def T.light (t : T) : Bool := decide (t.nodes.length ≤ 10000)
def T.setZ (t : T) : Bool := t.s0 == 0 && t.s1 == 0 && t.s2 == 0 && t.s3 == 0
def T.right (t : T) : Bool :=
 !(t.k != 2 && !t.setZ || (t.k != 5 && (t.mn != 0 || t.mx != 0) || (decide (t.k < 3) && decide (0 < t.subs.length)))) &&
 (if t.k = 1 then true else if t.k = 2 then !t.setZ else if t.k = 3 then decide (1 < t.subs.length) && (!t.has 1 && !t.has 3) else if t.k = 4 then decide (1 < t.subs.length) && !t.has 4
  else if t.k = 5 then t.subs.length == 1 && (bounds t.mn t.mx && !t.has 1) else t.k == 6 && t.subs.length == 1)
def T.clean (t : T) : Bool := t.light && t.nodes.all T.right
def T.size (t : T) : Int := if t.light then t.nodes.length else 10001
def T.groups (t : T) : Int := if t.light then (t.nodes.countP fun x => x.k == 6 : Nat) else 10001
def imax (x y : Int) : Int := if y > x then y else x
def imin (x y : Int) : Int := if y < x then y else x
def posR (k mn mx sum : Int) : Int := imin (if k = 5 then sum * imin (if mx = -1 then imax (imax mn 0) 1 else imax (imax mn 0) mx) 10001 else sum) 10001
mutual
def T.pos : T → Int
 | .node k _ _ _ _ mn mx _ _ l => posR k mn mx ((if k = 2 then 1 else 0) + posL l)
def posL : List T → Int
 | [] => 0
 | t :: l => t.pos + posL l
end
def T.positions (t : T) : Int := if t.light then t.pos else 10001
def T.check (t : T) : Int := if t.clean = false then 80 else if t.size > 120 then 81 else if t.positions > 400 then 82 else if t.groups > 9 then 83 else 0
mutual
def T.same : T → T → Bool
 | .node k s0 s1 s2 s3 mn mx _ _ l, .node k' s0' s1' s2' s3' mn' mx' _ _ l' => k == k' && ((s0 == s0' && s1 == s1' && s2 == s2' && s3 == s3') && (mn == mn' && (mx == mx' && sameL l l')))
def sameL : List T → List T → Bool
 | [], [] => true
 | t :: l, t' :: l' => t.same t' && sameL l l'
 | _, _ => false
end
theorem same_eq (t u : T) : t.same u = (t.k == u.k && ((t.s0 == u.s0 && t.s1 == u.s1 && t.s2 == u.s2 && t.s3 == u.s3) && (t.mn == u.mn && (t.mx == u.mx && sameL t.subs u.subs)))) := by
 cases t; cases u; simp only [T.same, T.k, T.s0, T.s1, T.s2, T.s3, T.mn, T.mx, T.subs]
theorem sameL_len : ∀ {l r : List T}, ¬ l.length = r.length → sameL l r = false
 | [], [], h => by simp at h
 | [], _ :: _, _ => by simp [sameL]
 | _ :: _, [], _ => by simp [sameL]
 | x :: l, y :: r, h => by
  simp only [sameL, sameL_len (l := l) (r := r) (by simpa using h), Bool.and_false]
theorem sameL_at : ∀ {l r : List T} {i : Nat} {x y : T}, l[i]? = some x → r[i]? = some y → x.same y = false → sameL l r = false
 | [], r, i, x, y, h, _, _ => by simp at h
 | _ :: _, [], i, x, y, _, h, _ => by simp at h
 | a :: l, b :: r, 0, x, y, h, k, e => by
  simp at h k; subst h k
  simp [sameL, e]
 | a :: l, b :: r, i + 1, x, y, h, k, e => by
  simp only [sameL, sameL_at (l := l) (r := r) (i := i) (by simpa using h) (by simpa using k) e, Bool.and_false]
theorem sameL_take : ∀ {l r : List T} {i : Nat} {x y : T}, l[i]? = some x → r[i]? = some y → sameL (l.take i) (r.take i) = true → x.same y = true → True → sameL (l.take (i + 1)) (r.take (i + 1)) = true
 | [], r, i, x, y, h, _, _, _, _ => by simp at h
 | _ :: _, [], i, x, y, _, h, _, _, _ => by simp at h
 | a :: l, b :: r, 0, x, y, h, k, _, e, _ => by
  simp at h k; subst h k
  simp [sameL, e]
 | a :: l, b :: r, i + 1, x, y, h, k, hs, e, _ => by
  simp only [List.take_succ_cons, sameL, Bool.and_eq_true] at hs ⊢
  exact ⟨hs.1, sameL_take (by simpa using h) (by simpa using k) hs.2 e trivial⟩
theorem pos_eq (t : T) : t.pos = posR t.k t.mn t.mx ((if t.k = 2 then 1 else 0) + posL t.subs) := by
 cases t; simp only [T.pos, T.k, T.mn, T.mx, T.subs]; congr 1
theorem posL_append (l r : List T) : posL (l ++ r) = posL l + posL r := by
 induction l with
 | nil => simp [posL]
 | cons t l ih => simp [posL, ih, Int.add_assoc]
theorem posL_take {l : List T} {i : Nat} {t : T} (h : l[i]? = some t) : posL (l.take (i + 1)) = posL (l.take i) + t.pos := by
 have : l.take (i + 1) = l.take i ++ [t] := by
  rw [List.take_add_one, h]; rfl
 rw [this, posL_append]; simp [posL]
theorem imax_le (x y : Int) : x ≤ imax x y ∧ y ≤ imax x y := by unfold imax; split <;> omega
theorem imin_le (x y : Int) : imin x y ≤ x ∧ imin x y ≤ y := by unfold imin; split <;> omega
theorem imin_nn {x y : Int} (h : 0 ≤ x) (k : 0 ≤ y) : 0 ≤ imin x y := by unfold imin; split <;> omega
def posF (mn mx : Int) : Int := imin (if mx = -1 then imax (imax mn 0) 1 else imax (imax mn 0) mx) 10001
theorem posF_bd (mn mx : Int) : 0 ≤ posF mn mx ∧ posF mn mx ≤ 10001 := by
 unfold posF
 refine ⟨imin_nn ?_ (by omega), (imin_le _ _).2⟩
 have h1 := imax_le mn 0
 split
 ·have := imax_le (imax mn 0) 1; omega
 ·have := imax_le (imax mn 0) mx; omega
theorem posR_bd {k mn mx sum : Int} (h : 0 ≤ sum) : 0 ≤ posR k mn mx sum ∧ posR k mn mx sum ≤ 10001 := by
 have h2 := Int.mul_nonneg h (posF_bd mn mx).1
 unfold posR
 refine ⟨imin_nn ?_ (by omega), (imin_le _ _).2⟩
 split
 ·exact h2
 ·exact h
mutual
theorem pos_bd : ∀ t : T, 0 ≤ t.pos ∧ t.pos ≤ 10001
 | .node k _ _ _ _ mn mx _ _ l => by
  simp only [T.pos]
  have := posL_nn l
  exact posR_bd (by split <;> omega)
theorem posL_nn : ∀ l : List T, 0 ≤ posL l
 | [] => by simp [posL]
 | t :: l => by
  simp only [posL]
  have := pos_bd t
  have := posL_nn l
  omega
end
theorem posL_le : ∀ l : List T, posL l ≤ 10001 * l.length
 | [] => by simp [posL]
 | t :: l => by
  simp only [posL, List.length_cons]
  have := pos_bd t
  have := posL_le l
  omega
theorem subs_le (t : T) : t.subs.length < t.nodes.length := by
 rw [nodes_eq, List.length_cons]
 have : ∀ l : List T, l.length ≤ (nodesL l).length := by
  intro l
  induction l with
  | nil => simp [nodesL]
  | cons x l ih => simp only [nodesL, List.length_cons, List.length_append]; rw [nodes_eq]; simp; omega
 have := this t.subs
 omega
theorem sub_nodes {t x : T} (h : x ∈ t.subs) : x.nodes.length < t.nodes.length := by
 obtain ⟨i, hi⟩ := List.getElem?_of_mem h
 rw [nodes_eq t, List.length_cons, nodesL_split hi]
 simp; omega
def T.hasB (t : T) (c : Nat) : Bool := ((if c / 64 = 0 then t.s0 else if c / 64 = 1 then t.s1 else if c / 64 = 2 then t.s2 else t.s3).toNat).testBit (c % 64)
end Go.Rx
namespace Go.Rx
open Go Go.Eng Go.RowKit
end Go.Rx
set_option linter.unusedSectionVars false
namespace Go.Rx
open Go Go.Eng Go.RowKit
def Byt (m : Mem) (a : Option Addr) (s : List Nat) : Prop := (s = [] ∨ ∃ b o, a = some ⟨b, o, none⟩ ∧ m.reads b o (s.map fun c : Nat => Value.int .u8 c)) ∧ ∀ c ∈ s, c < 256
theorem Byt.mono {m m' : Mem} {a s} (h : Byt m a s) (hm : m.le m') : Byt m' a s := by
 refine ⟨?_, h.2⟩
 rcases h.1 with h | ⟨b, o, h1, h2⟩
 ·exact .inl h
 ·exact .inr ⟨b, o, h1, h2.mono hm⟩
theorem Byt.get {m : Mem} {a s} (h : Byt m a s) {i c : Nat} (hi : s[i]? = some c) : (∃ b o, a = some ⟨b, o, none⟩ ∧ m b (o + i) = some (.int .u8 c)) ∧ c < 256 := by
 refine ⟨?_, h.2 c (List.mem_of_getElem? hi)⟩
 rcases h.1 with h | ⟨b, o, h1, h2⟩
 ·subst h; simp at hi
 ·exact ⟨b, o, h1, h2 i _ (by rw [List.getElem?_map, hi]; rfl)⟩
def clsAt (t : T) (back : Bool) (f i c out : Nat) : Nat := if (f.testBit (if back then i + 1 else i) && t.hasB c) = true then out ||| 2 ^ (if back then i else i + 1) else out
def clsL (t : T) (back : Bool) (f : Nat) : List Nat → Nat → Nat → Nat
 | [], _, out => out
 | c :: s, i, out => clsL t back f s (i + 1) (clsAt t back f i c out)
def iter (g : Nat → Nat) : Nat → Nat → Nat
 | 0, f => f
 | n + 1, f => iter g n (g f)
def starF (g : Nat → Nat) (mx : Int) : Nat → Int → Nat → Nat → Nat
 | 0, _, out, _ => out
 | n + 1, k, out, last => if k = mx then out else if out ||| g last = out then out else starF g mx n (IntKind.i64.wrap (k + 1)) (out ||| g last) (g last)
@[irreducible] def E576 : Nat := 576
abbrev B576 : Nat := 2 ^ E576
def repN (g : Nat → Nat) (mn mx : Int) (f : Nat) : Nat := starF g mx (B576 + 1) mn (iter g mn.toNat f) (iter g mn.toNat f)
mutual
def T.lead (s : List Nat) (back : Bool) : T → Nat → Nat
 | .node k s0 s1 s2 s3 mn mx a c l => fun f =>
  if k = 1 then f else if k = 2 then clsL (.node k s0 s1 s2 s3 mn mx a c l) back f s 0 0
  else if k = 3 then (if back then leadB s back l f else leadF s back l f)
  else if k = 4 then altL s back l f 0
  else if k = 5 then repN (headL s back l) mn mx f
  else if k = 6 then headL s back l f else 0
def leadF (s : List Nat) (back : Bool) : List T → Nat → Nat
 | [] => fun f => f
 | t :: l => fun f => leadF s back l (t.lead s back f)
def leadB (s : List Nat) (back : Bool) : List T → Nat → Nat
 | [] => fun f => f
 | t :: l => fun f => t.lead s back (leadB s back l f)
def altL (s : List Nat) (back : Bool) : List T → Nat → Nat → Nat
 | [] => fun _ out => out
 | t :: l => fun f out => altL s back l f (out ||| t.lead s back f)
def headL (s : List Nat) (back : Bool) : List T → Nat → Nat
 | [] => fun f => f
 | t :: _ => fun f => t.lead s back f
end
section
variable {s : List Nat} {back : Bool}
end
section
variable (s : List Nat) (back : Bool) (hs : s.length ≤ 512)
include hs
end
end Go.Rx
namespace Go.Rx
open Go Go.Eng Go.RowKit
def T0 : T := .node 0 0 0 0 0 0 0 none 0 []
def T1 : T := .node 1 0 0 0 0 0 0 none 0 []
theorem rep_T0 (m : Mem) : Rep m T0 := by simp only [T0, Rep]; exact ⟨by simp, .inl trivial, by constructor <;> decide⟩
def T.isNone (t : T) : Bool := t.k == 0 && (t.light && (T0.light && t.same T0))
def T.wrong (t : T) (len : Nat) (i : Int) : Int := if (!t.isNone && !(t.check == 0)) = true then 130 else if (len : Int) > 512 then 3 else if i < 0 ∨ i > len then 2 else 0
structure Rg where
 bg : Bool
 en : Bool
 t : T
def Rg.v (r : Rg) : Value := .agg #[.bool r.bg, .bool r.en, .int .u8 r.t.k, .int .u64 r.t.s0, .int .u64 r.t.s1, .int .u64 r.t.s2, .int .u64 r.t.s3, .int .i64 r.t.mn, .int .i64 r.t.mx, .slice r.t.a r.t.subs.length r.t.c]
def Rg.cs (r : Rg) : List Value := [.bool r.bg, .bool r.en, .int .u8 r.t.k, .int .u64 r.t.s0, .int .u64 r.t.s1, .int .u64 r.t.s2, .int .u64 r.t.s3, .int .i64 r.t.mn, .int .i64 r.t.mx, .slice r.t.a r.t.subs.length r.t.c]
def Rgs (m : Mem) (a : Option Addr) (l : List Rg) : Prop := l.length ≤ 1000000000000000 ∧ (l = [] ∨ ∃ b o, a = some ⟨b, o, none⟩ ∧ ∀ i r, l[i]? = some r → m.reads b (o + i * 10) r.cs) ∧ ∀ r ∈ l, Rep m r.t
theorem Rgs.mono {m m' : Mem} {a l} (h : Rgs m a l) (hm : m.le m') : Rgs m' a l := by
 refine ⟨h.1, ?_, fun r hr => (h.2.2 r hr).mono hm⟩
 rcases h.2.1 with h | ⟨b, o, h1, h2⟩
 ·exact .inl h
 ·exact .inr ⟨b, o, h1, fun i r hi => (h2 i r hi).mono hm⟩
def bitsOf (f : Nat) : List Nat := (List.range 513).filter fun i => f.testBit i
def firstLe (n : Nat) : List Nat → Option Nat
 | [] => none
 | i :: _ => if i > n then none else some i
def Rg.from (s : List Nat) (n : Nat) (r : Rg) : Option Nat := if (r.en && decide ((n : Int) < s.length)) = true then none else if r.bg then (if (r.t.lead s true (2 ^ n)).testBit 0 then some 0 else none) else
 firstLe n (bitsOf (r.t.lead s true (2 ^ n)))
def Rg.wrong (r : Rg) (len : Nat) (n : Int) : Int := if r.t.check = 0 then r.t.wrong len n else 130
end Go.Rx
namespace Go.Rx
open Go Go.Eng Go.RowKit
def RepL (m : Mem) (a : Option Addr) (l : List T) : Prop := l.length ≤ 1000000000000000 ∧ (l = [] ∨ ∃ b o, a = some ⟨b, o, none⟩ ∧ RepAt m b o l)
theorem RepL.mono {m m' : Mem} {a l} (h : RepL m a l) (hm : m.le m') : RepL m' a l := by
 refine ⟨h.1, ?_⟩
 rcases h.2 with h | ⟨b, o, h1, h2⟩
 ·exact .inl h
 ·exact .inr ⟨b, o, h1, h2.mono hm⟩
theorem Rep.subs {m : Mem} {t : T} (h : Rep m t) : RepL m t.a t.subs := Rep_iff h
def nodeT (k mn mx : Int) (a : Option Addr) (c : Nat) (l : List T) : T := .node k 0 0 0 0 mn mx a c l
theorem rep_node_mk {m : Mem} {k mn mx : Int} {a : Option Addr} {c : Nat} {l : List T} (h : RepL m a l) (hk : 0 ≤ k ∧ k < 256) (h1 : -9223372036854775808 ≤ mn ∧ mn ≤ 9223372036854775807) (h2 : -9223372036854775808 ≤ mx ∧ mx ≤ 9223372036854775807) : Rep m (nodeT k mn mx a c l) := by
 simp only [nodeT, Rep]
 exact ⟨h.1, h.2, ⟨hk, by omega, by omega, by omega, by omega, h1, h2⟩⟩
theorem repL_one {m : Mem} {b : Nat} {t : T} (h : m.reads b 0 t.cs) (hr : Rep m t) : RepL m (some ⟨b, 0, none⟩) [t] := ⟨by simp, .inr ⟨b, 0, rfl, by simp only [RepAt]; exact ⟨h, hr, trivial⟩⟩⟩
def cellsL (l : List T) : List Value := (l.map T.cs).flatten
theorem cellsL_len (l : List T) : (cellsL l).length = l.length * 8 := by
 induction l with
 | nil => rfl
 | cons t l ih => simp [cellsL, T.cs] at ih ⊢; omega
theorem cellsL_append (l r : List T) : cellsL (l ++ r) = cellsL l ++ cellsL r := by simp [cellsL]
end Go.Rx
namespace Go.Rx
open Go Go.Eng
inductive E where
 | node (k : Int) (x : Nat) (s : ByteArray) (g : Int) (a : Option Addr) (c : Nat) (subs : List E)
def E.k : E → Int
 | .node k _ _ _ _ _ _ => k
def E.x : E → Nat
 | .node _ x _ _ _ _ _ => x
def E.s : E → ByteArray
 | .node _ _ s _ _ _ _ => s
def E.g : E → Int
 | .node _ _ _ g _ _ _ => g
def E.a : E → Option Addr
 | .node _ _ _ _ a _ _ => a
def E.c : E → Nat
 | .node _ _ _ _ _ c _ => c
def E.subs : E → List E
 | .node _ _ _ _ _ _ l => l
def E.sl (t : E) : Value := .slice t.a t.subs.length t.c
def E.cs (t : E) : List Value := [.int .u8 t.k, .float .f64 t.x, .string t.s, .int .i64 t.g, t.sl]
def E.v (t : E) : Value := .agg #[.int .u8 t.k, .float .f64 t.x, .string t.s, .int .i64 t.g, .slice t.a t.subs.length t.c]
def E0 : E := .node 0 0 .empty 0 none 0 []
structure OkE (k : Int) (s : ByteArray) (g : Int) : Prop where
 k : 0 ≤ k ∧ k < 256
 s : s.size ≤ 1000000000000000
 g : -9223372036854775808 ≤ g ∧ g ≤ 9223372036854775807
mutual
def RepE (m : Mem) : E → Prop
 | .node k x s g a _ l => l.length ≤ 1000000000000000 ∧ (l = [] ∨ ∃ b o, a = some ⟨b, o, none⟩ ∧ RepEAt m b o l) ∧ OkE k s g
def RepEAt (m : Mem) (b : Nat) : Nat → List E → Prop
 | _, [] => True
 | o, t :: l => m.reads b o t.cs ∧ RepE m t ∧ RepEAt m b (o + 5) l
end
theorem repE0 (m : Mem) : RepE m E0 := by simp only [E0, RepE]; exact ⟨by simp, .inl trivial, by constructor <;> decide⟩
theorem RepE_iff {m : Mem} {t : E} : RepE m t → (t.subs.length ≤ 1000000000000000 ∧ (t.subs = [] ∨ ∃ b o, t.a = some ⟨b, o, none⟩ ∧ RepEAt m b o t.subs)) := by
 cases t; simp only [RepE, E.subs, E.a]; exact fun h => ⟨h.1, h.2.1⟩
theorem RepE_ok {m : Mem} {t : E} : RepE m t → OkE t.k t.s t.g := by
 cases t; simp only [RepE]; exact fun h => h.2.2
mutual
theorem RepE.mono {m m' : Mem} (h : m.le m') : ∀ t : E, RepE m t → RepE m' t
 | .node _ _ _ _ a _ l, hr => by
  simp only [RepE] at *
  refine ⟨hr.1, ?_, hr.2.2⟩
  rcases hr.2.1 with hr | ⟨b, o, h1, h2⟩
  ·exact .inl hr
  ·exact .inr ⟨b, o, h1, RepEAt.mono h b o l h2⟩
theorem RepEAt.mono {m m' : Mem} (h : m.le m') (b : Nat) : ∀ (o : Nat) (l : List E), RepEAt m b o l → RepEAt m' b o l
 | _, [], _ => by simp only [RepEAt]
 | o, t :: l, hr => by
  simp only [RepEAt] at *
  exact ⟨hr.1.mono h, RepE.mono h t hr.2.1, RepEAt.mono h b (o + 5) l hr.2.2⟩
end
theorem RepE.mono' {m m' : Mem} {t : E} (hr : RepE m t) (h : m.le m') : RepE m' t := RepE.mono h t hr
theorem RepEAt.mono' {m m' : Mem} {b o : Nat} {l : List E} (hr : RepEAt m b o l) (h : m.le m') : RepEAt m' b o l := RepEAt.mono h b o l hr
theorem RepEAt.get {m : Mem} {b : Nat} : ∀ {o : Nat} {l : List E} {i : Nat} {t : E}, RepEAt m b o l → l[i]? = some t → m.reads b (o + i * 5) t.cs ∧ RepE m t
 | o, [], i, t, _, hi => by simp at hi
 | o, x :: l, 0, t, h, hi => by
  simp only [RepEAt] at h
  simp at hi; subst hi
  exact ⟨by simpa using h.1, h.2.1⟩
 | o, x :: l, i + 1, t, h, hi => by
  simp only [RepEAt] at h
  have := h.2.2.get (i := i) (by simpa using hi)
  rw [show o + (i + 1) * 5 = o + 5 + i * 5 by omega]
  exact this
mutual
def E.nodes : E → List E
 | .node k x s g a c l => .node k x s g a c l :: nodesEL l
def nodesEL : List E → List E
 | [] => []
 | t :: l => t.nodes ++ nodesEL l
end
theorem nodesE_eq (t : E) : t.nodes = t :: nodesEL t.subs := by cases t; simp only [E.nodes, E.subs]
theorem nodesEL_append (l r : List E) : nodesEL (l ++ r) = nodesEL l ++ nodesEL r := by
 induction l with
 | nil => simp [nodesEL]
 | cons t l ih => simp [nodesEL, ih, List.append_assoc]
theorem nodesEL_take {l : List E} {i : Nat} {t : E} (h : l[i]? = some t) : nodesEL (l.take (i + 1)) = nodesEL (l.take i) ++ t.nodes := by
 have : l.take (i + 1) = l.take i ++ [t] := by
  rw [List.take_add_one, h]; rfl
 rw [this, nodesEL_append]; simp [nodesEL]
theorem nodesEL_split {l : List E} {i : Nat} {t : E} (h : l[i]? = some t) : nodesEL l = nodesEL (l.take i) ++ (t.nodes ++ nodesEL (l.drop (i + 1))) := by
 have hlt := (List.getElem?_eq_some_iff.1 h).1
 have e : l = l.take i ++ (t :: l.drop (i + 1)) := by
  have := List.drop_eq_getElem_cons hlt
  rw [(List.getElem?_eq_some_iff.1 h).2] at this
  rw [← this, List.take_append_drop]
 conv => lhs; rw [e, nodesEL_append]
 simp [nodesEL]
theorem nodesE_at {t x z : E} {i q : Nat} (hx : t.subs[i]? = some x) (hz : x.nodes[q]? = some z) : t.nodes[1 + (nodesEL (t.subs.take i)).length + q]? = some z := by
 have hq := (List.getElem?_eq_some_iff.1 hz).1
 rw [nodesE_eq, show 1 + (nodesEL (t.subs.take i)).length + q = ((nodesEL (t.subs.take i)).length + q) + 1 by omega, List.getElem?_cons_succ, nodesEL_split hx, List.getElem?_append_right (by omega), List.getElem?_append_left (by omega), show (nodesEL (List.take i t.subs)).length + q - (nodesEL (List.take i t.subs)).length = q by omega]
 exact hz
theorem subE_lt {t x : E} (h : x ∈ t.subs) : SizeOf.sizeOf x < SizeOf.sizeOf t := by
 cases t with
 | node k x s g a c l =>
  have h' : _ ∈ l := h
  have := List.sizeOf_lt_of_mem h'
  simp only [E.node.sizeOf_spec]
  omega
theorem fitsE_v (t : E) : Shape.fitsL [.agg [.int .u8, .any, .str, .int .i64, .slice]] [t.v] = true := by
 simp [Shape.fitsL, Shape.fits, E.v]
mutual
theorem repE_node {m : Mem} : ∀ (t : E), RepE m t → ∀ x ∈ t.nodes, RepE m x
 | .node k x s g a c l, hr, z, hx => by
  simp only [E.nodes, List.mem_cons] at hx
  rcases hx with rfl | hx
  ·exact hr
  ·simp only [RepE] at hr
   rcases hr.2.1 with h | ⟨b, o, _, h⟩
   ·subst h; simp [nodesEL] at hx
   ·exact repE_nodeL b o l h z hx
theorem repE_nodeL {m : Mem} (b : Nat) : ∀ (o : Nat) (l : List E), RepEAt m b o l → ∀ x ∈ nodesEL l, RepE m x
 | _, [], _, x, hx => by simp [nodesEL] at hx
 | o, t :: l, hr, x, hx => by
  simp only [RepEAt] at hr
  simp only [nodesEL, List.mem_append] at hx
  rcases hx with hx | hx
  ·exact repE_node t hr.2.1 x hx
  ·exact repE_nodeL b (o + 5) l hr.2.2 x hx
end
theorem repE_nodes {m : Mem} {t x : E} (h : RepE m t) (hx : x ∈ t.nodes) : RepE m x := repE_node t h x hx
def nanB : Nat := 9221120237041090561
def canonF (x : Nat) : Nat := if Op.floatEq .f64 x x then x else nanB
def sameF (x y : Nat) : Bool := canonF x == canonF y
def cleanF (x : Nat) : Bool := Op.floatEq .f64 x x || x == nanB
def E.light (t : E) : Bool := decide (t.nodes.length ≤ 10000)
def E.size (t : E) : Int := if t.light then t.nodes.length else 0
mutual
def E.same : E → E → Bool
 | .node k x s g _ _ l, .node k' x' s' g' _ _ l' => k == k' && (sameF x x' && (s.toList == s'.toList && (g == g' && sameEL l l')))
def sameEL : List E → List E → Bool
 | [], [] => true
 | t :: l, t' :: l' => t.same t' && sameEL l l'
 | _, _ => false
end
theorem sameE_eq (t u : E) : t.same u = (t.k == u.k && (sameF t.x u.x && (t.s.toList == u.s.toList && (t.g == u.g && sameEL t.subs u.subs)))) := by
 cases t; cases u; simp only [E.same, E.k, E.x, E.s, E.g, E.subs]
theorem sameEL_len : ∀ {l r : List E}, ¬ l.length = r.length → sameEL l r = false
 | [], [], h => by simp at h
 | [], _ :: _, _ => by simp [sameEL]
 | _ :: _, [], _ => by simp [sameEL]
 | x :: l, y :: r, h => by
  simp only [sameEL, sameEL_len (l := l) (r := r) (by simpa using h), Bool.and_false]
theorem sameEL_at : ∀ {l r : List E} {i : Nat} {x y : E}, l[i]? = some x → r[i]? = some y → x.same y = false → sameEL l r = false
 | [], r, i, x, y, h, _, _ => by simp at h
 | _ :: _, [], i, x, y, _, h, _ => by simp at h
 | a :: l, b :: r, 0, x, y, h, k, e => by
  simp at h k; subst h k
  simp [sameEL, e]
 | a :: l, b :: r, i + 1, x, y, h, k, e => by
  simp only [sameEL, sameEL_at (l := l) (r := r) (i := i) (by simpa using h) (by simpa using k) e, Bool.and_false]
theorem sameEL_take : ∀ {l r : List E} {i : Nat} {x y : E}, l[i]? = some x → r[i]? = some y → sameEL (l.take i) (r.take i) = true → x.same y = true → sameEL (l.take (i + 1)) (r.take (i + 1)) = true
 | [], r, i, x, y, h, _, _, _ => by simp at h
 | _ :: _, [], i, x, y, _, h, _, _ => by simp at h
 | a :: l, b :: r, 0, x, y, h, k, _, e => by
  simp at h k; subst h k
  simp [sameEL, e]
 | a :: l, b :: r, i + 1, x, y, h, k, hs, e => by
  simp only [List.take_succ_cons, sameEL, Bool.and_eq_true] at hs ⊢
  exact ⟨hs.1, sameEL_take (by simpa using h) (by simpa using k) hs.2 e⟩
def E.most (t : E) : Int := if t.light then t.nodes.foldl (fun n x => if x.k = 10 then (if x.g > n then x.g else n) else n) (-1) else -1
mutual
def E.names : E → List ByteArray → List ByteArray
 | .node k _ s _ _ _ l, out => if k = 9 then (if out.any (fun y => y.toList == s.toList) then out else out ++ [s]) else namesL l out
def namesL : List E → List ByteArray → List ByteArray
 | [], out => out
 | t :: l, out => namesL l (t.names out)
end
theorem namesE_eq (t : E) (out : List ByteArray) : t.names out = if t.k = 9 then (if out.any (fun y => y.toList == t.s.toList) then out else out ++ [t.s]) else namesL t.subs out := by
 cases t; simp only [E.names, E.k, E.s, E.subs]; rfl
mutual
theorem names_le : ∀ (t : E) (out : List ByteArray), out.length ≤ (t.names out).length
 | .node k _ s _ _ _ l, out => by
  simp only [E.names]
  split
  ·split <;> simp
  ·exact namesL_le l out
theorem namesL_le : ∀ (l : List E) (out : List ByteArray), out.length ≤ (namesL l out).length
 | [], out => by simp [namesL]
 | t :: l, out => by
  simp only [namesL]
  exact Nat.le_trans (names_le t out) (namesL_le l _)
end
theorem namesL_app (l r : List E) (out : List ByteArray) : namesL (l ++ r) out = namesL r (namesL l out) := by
 induction l generalizing out with
 | nil => simp [namesL]
 | cons t l ih => simp only [List.cons_append, namesL, ih]
theorem names_take {l : List E} {i : Nat} {t : E} (h : l[i]? = some t) (out : List ByteArray) : namesL (l.take (i + 1)) out = t.names (namesL (l.take i) out) := by
 have : l.take (i + 1) = l.take i ++ [t] := by rw [List.take_add_one, h]; rfl
 rw [this, namesL_app]; simp [namesL]
theorem names_pre {l : List E} {i : Nat} (out : List ByteArray) : (namesL (l.take i) out).length ≤ (namesL l out).length := by
 conv => rhs; rw [← List.take_append_drop i l, namesL_app]
 exact namesL_le _ _
def E.vars (t : E) : List ByteArray := if t.light then t.names [] else []
theorem ba_len (s : ByteArray) : s.data.toList.length = s.size := by rw [Array.length_toList]; rfl
theorem ba_loop (s : ByteArray) : ∀ (n i : Nat) (r : List UInt8), s.size - i = n → ByteArray.toList.loop s i r = r.reverse ++ s.data.toList.drop i
 | 0, i, r, h => by
  rw [ByteArray.toList.loop, if_neg (by omega), List.drop_of_length_le (by have := ba_len s; omega), List.append_nil]
 | n + 1, i, r, h => by
  have hs := ba_len s
  have hi : i < s.size := by omega
  rw [ByteArray.toList.loop, if_pos hi, ba_loop s n (i + 1) _ (by omega), List.reverse_cons, List.append_assoc]
  have hd := List.drop_eq_getElem_cons (l := s.data.toList) (i := i) (by omega)
  rw [hd]
  have e : s.get! i = s.data.toList[i]'(by omega) := by
   rw [Array.getElem_toList]
   exact getElem!_pos s.data i hi
  rw [e]; rfl
theorem baL (s : ByteArray) : s.toList = s.data.toList := by
 have := ba_loop s _ 0 [] rfl
 simpa [ByteArray.toList] using this
theorem ba_nil (s : ByteArray) : (s.toList == ByteArray.toList ⟨#[]⟩) = (s.size == 0) := by
 rw [baL, baL, ← ba_len]
 cases h : s.data.toList <;> simp [h] <;> rfl
theorem rows_get {α : Type} {cs : α → List Value} {n : Nat} (hn : ∀ x, (cs x).length = n) {m : Mem} {a : Option Addr} {L : List α} (h : rowRd m a (L.map cs).flatten) {k : Nat} {t : α} (ht : L[k]? = some t) (h0 : 0 < n) : ∃ b o, a = some ⟨b, o, none⟩ ∧ m.reads b (o + k * n) (cs t) := by
 have hlt := (List.getElem?_eq_some_iff.1 ht).1
 have len : ∀ l : List α, (l.map cs).flatten.length = l.length * n := fun l => by
  induction l with
  | nil => simp
  | cons x l ih => rw [List.map_cons, List.flatten_cons, List.length_append, hn, ih, List.length_cons, Nat.succ_mul]; omega
 have e : (L.map cs).flatten = ((L.take k).map cs).flatten ++ (cs t ++ ((L.drop (k + 1)).map cs).flatten) := by
  have e1 : L = L.take k ++ (t :: L.drop (k + 1)) := by
   have := List.drop_eq_getElem_cons hlt
   rw [(List.getElem?_eq_some_iff.1 ht).2] at this
   rw [← this, List.take_append_drop]
  conv => lhs; rw [e1]
  rw [List.map_append, List.flatten_append, List.map_cons, List.flatten_cons]
 have hl : ((L.take k).map cs).flatten.length = k * n := by rw [len, List.length_take, Nat.min_eq_left (by omega)]
 rcases h with h | ⟨b, o, ha, h⟩
 ·have := congrArg List.length h
  rw [len, List.length_nil] at this
  have : 0 < L.length * n := Nat.mul_pos (by omega) h0
  omega
 ·refine ⟨b, o, ha, fun j v hj => ?_⟩
  have hj8 := (List.getElem?_eq_some_iff.1 hj).1
  have := h (k * n + j) v (by rw [e, List.getElem?_append_right (by omega), hl, Nat.add_sub_cancel_left, List.getElem?_append_left hj8]; exact hj)
  rw [Nat.add_assoc]; exact this
end Go.Rx
namespace Go.Rx
open Go Go.Eng
structure Pt where
 k : Int
 s : ByteArray
 g : Int
 e : E
def Pt.cs (p : Pt) : List Value := [.int .u8 p.k, .string p.s, .int .i64 p.g, .int .u8 p.e.k, .float .f64 p.e.x, .string p.e.s, .int .i64 p.e.g, .slice p.e.a p.e.subs.length p.e.c]
def Pt.v (p : Pt) : Value := .agg p.cs.toArray
structure Ac where
 k : Int
 s : ByteArray
 pa : Option Addr
 pc : Nat
 parts : List Pt
 e : E
def Ac.cs (a : Ac) : List Value := [.int .u8 a.k, .string a.s, .slice a.pa a.parts.length a.pc, .int .u8 a.e.k, .float .f64 a.e.x, .string a.e.s, .int .i64 a.e.g, .slice a.e.a a.e.subs.length a.e.c]
structure Ru where
 k : Int
 bg : Bool
 en : Bool
 t : T
 s : ByteArray
 n : Int
 aa : Option Addr
 ac : Nat
 acts : List Ac
 go : ByteArray
 code : Int
def Ru.cs (r : Ru) : List Value := [.int .u8 r.k, .bool r.bg, .bool r.en, .int .u8 r.t.k, .int .u64 r.t.s0, .int .u64 r.t.s1, .int .u64 r.t.s2, .int .u64 r.t.s3, .int .i64 r.t.mn, .int .i64 r.t.mx, .slice r.t.a r.t.subs.length r.t.c, .string r.s, .int .i64 r.n, .slice r.aa r.acts.length r.ac, .string r.go, .int .i64 r.code]
structure Sta where
 s : ByteArray
 ra : Option Addr
 rc : Nat
 rules : List Ru
def Sta.cs (x : Sta) : List Value := [.string x.s, .slice x.ra x.rules.length x.rc]
structure Va where
 s : ByteArray
 b : Bool
 t : ByteArray
 x : Nat
def Va.cs (v : Va) : List Value := [.string v.s, .bool v.b, .string v.t, .float .f64 v.x]
structure Sc where
 n : Int
 va : Option Addr
 vc : Nat
 vars : List Va
 sa : Option Addr
 sc : Nat
 states : List Sta
def Sc.cs (s : Sc) : List Value := [.int .i64 s.n, .slice s.va s.vars.length s.vc, .slice s.sa s.states.length s.sc]
def Sc.v (s : Sc) : Value := .agg #[.int .i64 s.n, .slice s.va s.vars.length s.vc, .slice s.sa s.states.length s.sc]
theorem Pt.len (p : Pt) : p.cs.length = 8 := rfl
theorem Ac.len (p : Ac) : p.cs.length = 8 := rfl
theorem Ru.len (p : Ru) : p.cs.length = 16 := rfl
theorem Sta.len (p : Sta) : p.cs.length = 2 := rfl
theorem Va.len (p : Va) : p.cs.length = 4 := rfl
def I64 (n : Int) : Prop := -9223372036854775808 ≤ n ∧ n ≤ 9223372036854775807
def few : Nat := 100000
structure RepP (m : Mem) (p : Pt) : Prop where
 k : 0 ≤ p.k ∧ p.k < 256
 s : p.s.size ≤ 1000000000000000
 g : I64 p.g
 e : RepE m p.e
structure RepA (m : Mem) (a : Ac) : Prop where
 k : 0 ≤ a.k ∧ a.k < 256
 s : a.s.size ≤ 1000000000000000
 n : a.parts.length ≤ few
 row : rowRd m a.pa (a.parts.map Pt.cs).flatten
 all : ∀ p ∈ a.parts, RepP m p
 e : RepE m a.e
structure RepR (m : Mem) (r : Ru) : Prop where
 k : 0 ≤ r.k ∧ r.k < 256
 t : Rep m r.t
 s : r.s.size ≤ 1000000000000000
 n : I64 r.n
 len : r.acts.length ≤ few
 row : rowRd m r.aa (r.acts.map Ac.cs).flatten
 all : ∀ p ∈ r.acts, RepA m p
 go : r.go.size ≤ 1000000000000000
 code : I64 r.code
structure RepS (m : Mem) (x : Sta) : Prop where
 s : x.s.size ≤ 1000000000000000
 len : x.rules.length ≤ few
 row : rowRd m x.ra (x.rules.map Ru.cs).flatten
 all : ∀ p ∈ x.rules, RepR m p
structure RepV (v : Va) : Prop where
 s : v.s.size ≤ 1000000000000000
 t : v.t.size ≤ 1000000000000000
structure RepC (m : Mem) (s : Sc) : Prop where
 n : I64 s.n
 vlen : s.vars.length ≤ few
 vrow : rowRd m s.va (s.vars.map Va.cs).flatten
 vall : ∀ v ∈ s.vars, RepV v
 len : s.states.length ≤ few
 row : rowRd m s.sa (s.states.map Sta.cs).flatten
 all : ∀ x ∈ s.states, RepS m x
 vcap : s.vars.length ≤ s.vc
 scap : s.states.length ≤ s.sc
section
variable {m m' : Mem} (h : m.le m')
include h
theorem RepP.mono {p : Pt} (x : RepP m p) : RepP m' p := ⟨x.k, x.s, x.g, RepE.mono h _ x.e⟩
theorem RepA.mono {p : Ac} (x : RepA m p) : RepA m' p := ⟨x.k, x.s, x.n, x.row.mono h, fun p hp => (x.all p hp).mono h, RepE.mono h _ x.e⟩
theorem RepR.mono {p : Ru} (x : RepR m p) : RepR m' p := ⟨x.k, x.t.mono h, x.s, x.n, x.len, x.row.mono h, fun p hp => (x.all p hp).mono h, x.go, x.code⟩
theorem RepS.mono {p : Sta} (x : RepS m p) : RepS m' p := ⟨x.s, x.len, x.row.mono h, fun p hp => (x.all p hp).mono h⟩
theorem RepC.mono {p : Sc} (x : RepC m p) : RepC m' p := ⟨x.n, x.vlen, x.vrow.mono h, x.vall, x.len, x.row.mono h, fun p hp => (x.all p hp).mono h, x.vcap, x.scap⟩
end
def nE (e : E) : Int := if e.light then e.size else 20001
def sumI : List Int → Int
 | [] => 0
 | x :: l => x + sumI l
theorem sumI_app (l r : List Int) : sumI (l ++ r) = sumI l + sumI r := by
 induction l with
 | nil => simp [sumI]
 | cons x l ih => simp only [List.cons_append, sumI, ih]; omega
theorem sum_step {α : Type} {l : List α} {i : Nat} {x : α} (f : α → Int) (h : l[i]? = some x) : sumI ((l.take (i + 1)).map f) = sumI ((l.take i).map f) + f x := by
 rw [List.take_add_one, h, List.map_append, sumI_app]; simp [sumI]
theorem sum_nn {α : Type} (f : α → Int) (hf : ∀ x, 0 ≤ f x) : ∀ l : List α, 0 ≤ sumI (l.map f)
 | [] => by simp [sumI]
 | x :: l => by
  have := sum_nn f hf l; have := hf x
  simp only [List.map_cons, sumI]; omega
theorem sum_take {α : Type} (f : α → Int) (hf : ∀ x, 0 ≤ f x) (l : List α) (i : Nat) : sumI ((l.take i).map f) ≤ sumI (l.map f) := by
 have e : sumI (l.map f) = sumI ((l.take i).map f) + sumI ((l.drop i).map f) := by rw [← sumI_app, ← List.map_append, List.take_append_drop]
 have := sum_nn f hf (l.drop i)
 omega
def wA (a : Ac) : Int := 1 + nE a.e + a.parts.length + sumI (a.parts.map fun p => nE p.e)
def wR (r : Ru) : Int := 1 + imin r.t.size 20000 + (if r.t.light then 0 else 20001) + sumI (r.acts.map wA)
theorem nE_bd (e : E) : 0 ≤ nE e ∧ nE e ≤ 20001 := by
 unfold nE E.size E.light
 split
 ·rename_i h
  simp only [decide_eq_true_eq] at h
  first | omega | (rw [if_pos (by simpa using h)]; omega)
 ·omega
theorem size_bd (t : T) : 0 ≤ t.size ∧ t.size ≤ 10001 := by
 unfold T.size T.light
 split
 ·rename_i h; simp only [decide_eq_true_eq] at h; omega
 ·omega
theorem wA_nn (a : Ac) : 0 ≤ wA a := by
 have := (nE_bd a.e).1
 have := sum_nn (fun p : Pt => nE p.e) (fun p => (nE_bd p.e).1) a.parts
 unfold wA; omega
theorem wR_nn (r : Ru) : 0 ≤ wR r := by
 have := sum_nn wA wA_nn r.acts
 have h1 := (size_bd r.t).1
 have : 0 ≤ imin r.t.size 20000 := by unfold imin; split <;> omega
 unfold wR; split <;> omega
def wS (x : Sta) : Int := sumI (x.rules.map wR)
theorem wS_nn (x : Sta) : 0 ≤ wS x := sum_nn wR wR_nn _
def Sc.weight (s : Sc) : Int := s.vars.length + s.states.length + sumI (s.states.map wS)
def Sc.light (s : Sc) : Bool := decide (s.weight ≤ 20000)
structure Pl where
 v : Int
 s : Int
 r : Int
 a : Int
 p : Int
deriving DecidableEq
def Pl.cs (p : Pl) : List Value := [.int .i64 p.v, .int .i64 p.s, .int .i64 p.r, .int .i64 p.a, .int .i64 p.p]
def top : Pl := ⟨-1, -1, -1, -1, -1⟩
def upto (n : Nat) (f : Nat → List Pl) : List Pl := (List.range n).flatMap f
def plA (i k m : Nat) (a : Ac) : List Pl := ⟨-1, i, k, m, -1⟩ :: upto a.parts.length fun n => [⟨-1, i, k, m, n⟩]
def plR (i k : Nat) (r : Ru) : List Pl := ⟨-1, i, k, -1, -1⟩ :: upto r.acts.length fun m => match r.acts[m]? with
 | some a => plA i k m a
 | none => []
def plS (i : Nat) (x : Sta) : List Pl := ⟨-1, i, -1, -1, -1⟩ :: upto x.rules.length fun k => match x.rules[k]? with
 | some r => plR i k r
 | none => []
def Sc.places (s : Sc) : List Pl := if s.light then top :: (upto s.vars.length (fun i => [⟨i, -1, -1, -1, -1⟩]) ++ upto s.states.length fun i => match s.states[i]? with
 | some x => plS i x
 | none => []) else []
def firstE : List (Int × Bool) → Int
 | [] => 0
 | (e, w) :: l => if w then e else firstE l
def within (n a b : Int) : Bool := decide (n ≥ a) && decide (n ≤ b)
def eqS (a b : ByteArray) : Bool := a.toList == b.toList
def nameC (c : UInt8) : Bool := (decide (97 ≤ c.toNat) && decide (c.toNat ≤ 122)) || (decide (48 ≤ c.toNat) && decide (c.toNat ≤ 57)) || c.toNat == 95
def words3 : List ByteArray := [⟨#[109, 105, 110]⟩, ⟨#[109, 97, 120]⟩, ⟨#[110, 117, 109]⟩]
def isName (s : ByteArray) : Bool := !(s.size == 0 || decide (s.size > 16) || decide ((s.data.toList.getD 0 0).toNat < 97) || decide ((s.data.toList.getD 0 0).toNat > 122) || words3.any fun w => eqS w s) && s.data.toList.all nameC
def kindS (s : Sc) (name : ByteArray) : Bool × Bool := match s.vars.find? fun v => eqS v.s name with
 | some v => (v.b, true)
 | none => (false, false)
def numbersS (s : Sc) (e : E) : Bool := !e.vars.any fun n => !(kindS s n).1
def noneE (e : E) : Bool := e.light && (E0.light && e.same E0)
def subsN (k : Int) : Int := if k = 1 then 1 else if 2 ≤ k ∧ k ≤ 7 then 2 else 0
def headK8 : List E → Bool
 | u :: _ => u.k == 8
 | [] => false
def E.right (t : E) : Bool := !(t.k == 0) && (decide (t.k ≤ 10) && ((if t.k = 9 then isName t.s else t.s.size == 0) && ((if t.k = 8 then cleanF t.x else sameF t.x 0) && ((if t.k = 10 then decide (t.g ≥ 0) && decide (t.g ≤ 9) else t.g == 0) && ((t.subs.length : Int) == subsN t.k && !(t.k == 1 && (t.subs.length == 1 && headK8 t.subs)))))))
def E.clean (t : E) : Bool := t.light && t.nodes.all E.right
def wholeS (s : Sc) : Int := firstE [(300, !within s.n 2 256), (302, !within s.states.length 1 24 || decide (s.vars.length > 12))]
def rightV (v : Va) : Bool := if v.b then cleanF v.x && v.t.size == 0 else v.x == 0 && decide (v.t.size ≤ 512)
def variableS (s : Sc) (i : Nat) (v : Va) : Int := firstE [(301, !isName v.s || (!rightV v || (s.vars.take i).any fun x => eqS x.s v.s))]
def stateS (s : Sc) (i : Nat) (x : Sta) : Int := firstE [(303, !isName x.s || (decide (x.rules.length > 12) || (s.states.take i).any fun y => eqS y.s x.s))]
def isRx (r : Ru) : Bool := r.bg || (r.en || !(r.t.light && (T0.light && r.t.same T0)))
def fieldsR (r : Ru) : Bool := if r.k = 2 then !isRx r && (r.n == 0 && within r.s.size 1 64) else if r.k = 4 then !isRx r && (r.s.size == 0 && within r.n 1 1000) else if r.k = 3 then !isRx r && (r.s.size == 0 && r.n == 0) else if r.k = 1 then r.s.size == 0 && r.n == 0 else false
def capsR (r : Ru) : Int := if r.k = 1 then r.t.groups else if r.k = 2 then 0 else -1
def findS (s : Sc) (name : ByteArray) : Bool := (s.states.any fun x => eqS x.s name) && s.light
def ruleS (s : Sc) (r : Ru) (total : Int) : Int := firstE [(304, !fieldsR r || decide (r.acts.length > 8)), (305, r.k == 1 && (!(r.t.check == 0) || decide (total > 600))),
 (306, if r.go.size = 0 then !within r.code 0 255 else !findS s r.go || !(r.code == 0))]
def actionS (s : Sc) (r : Ru) (a : Ac) : Int := firstE [(307, !within a.k 1 3 || (a.k == 1 && !(a.s.size == 0)) || (a.k == 3 && decide (a.parts.length > 0)) || (a.k == 3 && !a.e.clean) || (!(a.k == 3) && !noneE a.e) || decide (a.parts.length > 16)),
 (308, (!(a.k == 1) && (!(kindS s a.s).2 || !((kindS s a.s).1 == (a.k == 3)))) || (a.k == 3 && !numbersS s a.e)), (309, a.k == 3 && decide (a.e.most > capsR r))]
def cleanP (p : Pt) : Bool := if p.k = 1 then decide (p.s.size > 0) && (decide (p.s.size ≤ 512) && (p.g == 0 && noneE p.e)) else if p.k = 2 then isName p.s && (p.g == 0 && noneE p.e) else if p.k = 3 then decide (p.g ≥ 0) && (decide (p.g ≤ 9) && (p.s.size == 0 && noneE p.e)) else if p.k = 4 then p.e.clean && (p.s.size == 0 && p.g == 0) else false
def partS (s : Sc) (r : Ru) (l : List Pt) (i : Nat) (p : Pt) : Int := firstE [(307, !cleanP p || (decide (i > 0) && (p.k == 1 && (match l[i - 1]? with
 | some q => q.k == 1
 | none => false)))), (308, (p.k == 2 && !(kindS s p.s).2) || (p.k == 4 && !numbersS s p.e)), (309, (p.k == 3 && decide (p.g > capsR r)) || (p.k == 4 && decide (p.e.most > capsR r)))]
def sizeR (r : Ru) : Int := if r.k = 1 then r.t.size else 0
def totals (s : Sc) (i k : Nat) : Int := sumI ((s.states.take i).map fun x => sumI (x.rules.map sizeR)) + (match s.states[i]? with
 | some x => sumI ((x.rules.take (k + 1)).map sizeR)
 | none => 0)
def atS (s : Sc) (p : Pl) : Int := if p.v ≥ 0 then (match s.vars[p.v.toNat]? with
  | some v => variableS s p.v.toNat v
  | none => 0) else if p.s < 0 then wholeS s else match s.states[p.s.toNat]? with
  | none => 0
  | some x => if p.r < 0 then stateS s p.s.toNat x else match x.rules[p.r.toNat]? with
   | none => 0
   | some r => if p.a < 0 then ruleS s r (totals s p.s.toNat p.r.toNat) else match r.acts[p.a.toNat]? with
    | none => 0
    | some a => if p.p < 0 then actionS s r a else match a.parts[p.p.toNat]? with
     | none => 0
     | some q => partS s r a.parts p.p.toNat q
def Sc.problems (s : Sc) : List (Pl × Int) := s.places.filterMap fun p => if atS s p = 0 then none else some (p, atS s p)
def Sc.check (s : Sc) : Pl × Int := if s.light then (match s.problems with
 | p :: _ => p
 | [] => (top, 0)) else (top, 5)
end Go.Rx
namespace Go.Rx
open Go Go.Eng
theorem upto_succ (n : Nat) (f : Nat → List Pl) : upto (n + 1) f = upto n f ++ f n := by simp [upto, List.range_succ, List.flatMap_append]
theorem upto_le {i n : Nat} (h : i ≤ n) (f : Nat → List Pl) : (upto i f).length ≤ (upto n f).length := by
 induction n with
 | zero =>
  obtain rfl : i = 0 := by omega
  exact Nat.le_refl _
 | succ n ih =>
  by_cases e : i = n + 1
  ·rw [e]; exact Nat.le_refl _
  ·have := ih (by omega)
   rw [upto_succ, List.length_append]; omega
theorem upto_one (n : Nat) (f : Nat → Pl) : (upto n fun i => [f i]).length = n := by
 induction n with
 | zero => rfl
 | succ n ih => rw [upto_succ, List.length_append, ih]; rfl
theorem upto_sum {α : Type} (l : List α) (F : Nat → List Pl) (g : Nat → α → List Pl) (w : α → Int) (hF : ∀ i x, l[i]? = some x → F i = g i x) (hw : ∀ i x, x ∈ l → ((g i x).length : Int) ≤ w x) : ∀ k, k ≤ l.length → ((upto k F).length : Int) ≤ sumI ((l.take k).map w) := by
 intro k
 induction k with
 | zero => intro _; simp [upto, sumI]
 | succ k ih =>
  intro hk
  have := ih (by omega)
  have hx : l[k]? = some l[k] := List.getElem?_eq_getElem (by omega)
  have h2 := hw k l[k] (List.getElem_mem _)
  rw [upto_succ, List.length_append, sum_step w hx, hF k _ hx]
  push_cast
  omega
def Hf (i k : Nat) (r : Ru) (m : Nat) : List Pl := match r.acts[m]? with
 | some a => plA i k m a
 | none => []
def Gf (i : Nat) (x : Sta) (k : Nat) : List Pl := match x.rules[k]? with
 | some r => plR i k r
 | none => []
def Ff (s : Sc) (i : Nat) : List Pl := match s.states[i]? with
 | some x => plS i x
 | none => []
def Pf (i k m n : Nat) : List Pl := [⟨-1, i, k, m, n⟩]
def Vf (i : Nat) : List Pl := [⟨i, -1, -1, -1, -1⟩]
theorem plA_eq (i k m : Nat) (a : Ac) : plA i k m a = ⟨-1, i, k, m, -1⟩ :: upto a.parts.length (Pf i k m) := rfl
theorem plR_eq (i k : Nat) (r : Ru) : plR i k r = ⟨-1, i, k, -1, -1⟩ :: upto r.acts.length (Hf i k r) := rfl
theorem plS_eq (i : Nat) (x : Sta) : plS i x = ⟨-1, i, -1, -1, -1⟩ :: upto x.rules.length (Gf i x) := rfl
theorem places_eq {s : Sc} (h : s.light = true) : s.places = top :: (upto s.vars.length Vf ++ upto s.states.length (Ff s)) := by unfold Sc.places; rw [if_pos h]; rfl
theorem places_len (s : Sc) : s.places.length ≤ 20001 := by
 cases h : s.light with
 | false => unfold Sc.places; rw [h]; simp
 | true =>
  have hw : s.weight ≤ 20000 := by unfold Sc.light at h; exact of_decide_eq_true h
  rw [places_eq h, List.length_cons, List.length_append]
  have h1 : (upto s.vars.length Vf).length = s.vars.length := upto_one _ _
  have hA : ∀ i k m (a : Ac), ((plA i k m a).length : Int) ≤ wA a := fun i k m a => by
   rw [plA_eq, List.length_cons, show (upto a.parts.length (Pf i k m)).length = a.parts.length from upto_one _ _]
   have := (nE_bd a.e).1
   have := sum_nn (fun p : Pt => nE p.e) (fun p => (nE_bd p.e).1) a.parts
   unfold wA; push_cast; omega
  have hR : ∀ i k (r : Ru), ((plR i k r).length : Int) ≤ wR r := fun i k r => by
   rw [plR_eq, List.length_cons]
   have := upto_sum r.acts (Hf i k r) (plA i k) wA (fun m a h => by unfold Hf; rw [h]) (fun j x _ => hA i k j x) r.acts.length (Nat.le_refl _)
   rw [List.take_length] at this
   have h1 := (size_bd r.t).1
   have h2 : 0 ≤ imin r.t.size 20000 := by unfold imin; split <;> omega
   have h3 : ((upto r.acts.length (Hf i k r)).length : Int) ≤ sumI (r.acts.map wA) := this
   unfold wR; push_cast; split <;> omega
  have hS : ∀ i (x : Sta), ((plS i x).length : Int) ≤ 1 + wS x := fun i x => by
   rw [plS_eq, List.length_cons]
   have := upto_sum x.rules (Gf i x) (plR i) wR (fun m a h => by unfold Gf; rw [h]) (fun j x _ => hR i j x) x.rules.length (Nat.le_refl _)
   rw [List.take_length] at this
   have h3 : ((upto x.rules.length (Gf i x)).length : Int) ≤ sumI (x.rules.map wR) := this
   unfold wS; push_cast; omega
  have := upto_sum s.states (Ff s) plS (fun x => 1 + wS x) (fun m a h => by unfold Ff; rw [h]) (fun j x _ => hS j x) s.states.length (Nat.le_refl _)
  rw [List.take_length] at this
  have h3 : ((upto s.states.length (Ff s)).length : Int) ≤ sumI (s.states.map fun x => 1 + wS x) := this
  have h4 : ∀ l : List Sta, sumI (l.map fun x => 1 + wS x) = l.length + sumI (l.map wS) := fun l => by
   induction l with
   | nil => rfl
   | cons x l ih => simp only [List.map_cons, sumI, ih, List.length_cons]; push_cast; omega
  rw [h4] at h3
  unfold Sc.weight at hw
  omega
theorem mem_upto {n : Nat} {f : Nat → List Pl} {p : Pl} (h : p ∈ upto n f) : ∃ i, i < n ∧ p ∈ f i := by
 unfold upto at h
 obtain ⟨i, hi, hp⟩ := List.mem_flatMap.1 h
 exact ⟨i, List.mem_range.1 hi, hp⟩
def PlOk (s : Sc) (p : Pl) : Prop := (∃ i : Nat, p.v = i ∧ ∃ v, s.vars[i]? = some v) ∨ (p.v < 0 ∧ (p.s < 0 ∨ ∃ i : Nat, p.s = i ∧ ∃ x, s.states[i]? = some x ∧ (p.r < 0 ∨ ∃ k : Nat, p.r = k ∧ ∃ r, x.rules[k]? = some r ∧ (p.a < 0 ∨ ∃ j : Nat, p.a = j ∧ ∃ a, r.acts[j]? = some a ∧ (p.p < 0 ∨ ∃ n : Nat, p.p = n ∧ ∃ q, a.parts[n]? = some q)))))
theorem neg1 : (-1 : Int) < 0 := by decide
theorem at_in {α : Type} {l : List α} {n : Nat} (h : n < l.length) : ∃ c, l[n]? = some c := ⟨_, List.getElem?_eq_getElem h⟩
theorem places_ok (s : Sc) : ∀ p ∈ s.places, PlOk s p := by
 intro p hp
 cases h : s.light with
 | false => unfold Sc.places at hp; rw [h] at hp; simp at hp
 | true =>
  rw [places_eq h] at hp
  rcases List.mem_cons.1 hp with rfl | hp
  ·exact .inr ⟨by decide, .inl (by decide)⟩
  rcases List.mem_append.1 hp with hp | hp
  ·obtain ⟨i, hi, hp⟩ := mem_upto hp
   obtain rfl : p = ⟨i, -1, -1, -1, -1⟩ := by simpa [Vf] using hp
   exact .inl ⟨i, rfl, at_in hi⟩
  ·obtain ⟨i, hi, hp⟩ := mem_upto hp
   obtain ⟨x, hx⟩ := at_in hi
   have hp : p ∈ plS i x := by unfold Ff at hp; rw [hx] at hp; exact hp
   rw [plS_eq] at hp
   rcases List.mem_cons.1 hp with rfl | hp
   ·exact .inr ⟨neg1, .inr ⟨i, rfl, x, hx, .inl (neg1)⟩⟩
   obtain ⟨k, hk, hp⟩ := mem_upto hp
   obtain ⟨r, hr⟩ := at_in hk
   have hp : p ∈ plR i k r := by unfold Gf at hp; rw [hr] at hp; exact hp
   rw [plR_eq] at hp
   rcases List.mem_cons.1 hp with rfl | hp
   ·exact .inr ⟨neg1, .inr ⟨i, rfl, x, hx, .inr ⟨k, rfl, r, hr, .inl (neg1)⟩⟩⟩
   obtain ⟨j, hj, hp⟩ := mem_upto hp
   obtain ⟨a, ha⟩ := at_in hj
   have hp : p ∈ plA i k j a := by unfold Hf at hp; rw [ha] at hp; exact hp
   rw [plA_eq] at hp
   rcases List.mem_cons.1 hp with rfl | hp
   ·exact .inr ⟨neg1, .inr ⟨i, rfl, x, hx, .inr ⟨k, rfl, r, hr, .inr ⟨j, rfl, a, ha, .inl (neg1)⟩⟩⟩⟩
   obtain ⟨n, hn, hp⟩ := mem_upto hp
   obtain rfl : p = ⟨-1, i, k, j, n⟩ := by simpa [Pf] using hp
   exact .inr ⟨neg1, .inr ⟨i, rfl, x, hx, .inr ⟨k, rfl, r, hr, .inr ⟨j, rfl, a, ha, .inr ⟨n, rfl, at_in hn⟩⟩⟩⟩⟩
end Go.Rx
namespace Go.Rx
open Go Go.Eng
set_option maxRecDepth 100000
def clsX : T := .node 2 0 72057594037927936 0 0 0 0 none 0 []
def clsY : T := .node 2 0 144115188075855872 0 0 0 0 none 0 []
def rxT (a1 a2 : Option Addr) : T := .node 3 0 0 0 0 0 0 a2 2 [.node 6 0 0 0 0 0 0 a1 1 [clsX], clsY]
def capP (n : Int) : Pt := ⟨3, ⟨#[]⟩, n, E0⟩
def sendA (pa : Option Addr) (pc : Nat) (l : List Int) : Ac := ⟨1, ⟨#[]⟩, pa, pc, l.map capP, E0⟩
def letA : Ac := ⟨3, ⟨#[110]⟩, none, 0, [], .node 9 0 ⟨#[109]⟩ 0 none 0 []⟩
def setA (pa : Option Addr) : Ac := ⟨2, ⟨#[110]⟩, pa, 1, [⟨1, ⟨#[120]⟩, 0, E0⟩], E0⟩
def ru0 (k : Int) : Ru := ⟨k, false, false, T0, ⟨#[]⟩, 0, none, 0, [], ⟨#[]⟩, 0⟩
def ruRx (a1 a2 aa pa : Option Addr) (ac pc : Nat) (l : List Int) : Ru := ⟨1, false, false, rxT a1 a2, ⟨#[]⟩, 0, aa, ac, [sendA pa pc l], ⟨#[97]⟩, 0⟩
def ruEx (aa pa : Option Addr) (ac pc : Nat) (l : List Int) : Ru := ⟨2, false, false, T0, ⟨#[97, 98]⟩, 0, aa, ac, [sendA pa pc l], ⟨#[]⟩, 256⟩
def ruAc (aa : Option Addr) (ac : Nat) (a : Ac) : Ru := ⟨3, false, false, T0, ⟨#[]⟩, 0, aa, ac, [a], ⟨#[]⟩, 0⟩
def vars2 : List Va := [⟨⟨#[110]⟩, true, ⟨#[]⟩, 0⟩, ⟨⟨#[116]⟩, false, ⟨#[]⟩, 0⟩]
def oneS (va sa ra : Option Addr) (r : Ru) : Sc := ⟨9, va, 2, vars2, sa, 1, [⟨⟨#[97]⟩, ra, 1, [r]⟩]⟩
def twoS (va sa ra : Option Addr) (sc : Nat) : Sc := ⟨9, va, 2, vars2, sa, sc, [⟨⟨#[97]⟩, ra, 1, [ru0 3]⟩, ⟨⟨#[97]⟩, none, 0, []⟩]⟩
def noneS (n : Int) : Sc := ⟨n, none, 0, [], none, 0, []⟩
theorem ex1 (va sa ra a1 a2 aa pa : Option Addr) (ac pc : Nat) : (oneS va sa ra (ruRx a1 a2 aa pa ac pc [1, 2])).check = (⟨-1, 0, 0, 0, 1⟩, 309) := by kernel_rfl
theorem ex2 (va sa ra a1 a2 aa pa : Option Addr) (ac pc : Nat) : (oneS va sa ra (ruRx a1 a2 aa pa ac pc [1, 0])).check = (⟨-1, -1, -1, -1, -1⟩, 0) := by kernel_rfl
theorem ex3 (va sa ra aa pa : Option Addr) (ac pc : Nat) : (oneS va sa ra (ruEx aa pa ac pc [0])).check = (⟨-1, 0, 0, -1, -1⟩, 306) := by kernel_rfl
theorem ex4 (va sa ra : Option Addr) : (oneS va sa ra (ru0 4)).check = (⟨-1, 0, 0, -1, -1⟩, 304) := by kernel_rfl
theorem ex5 (va sa ra aa : Option Addr) (ac : Nat) : (oneS va sa ra (ruAc aa ac letA)).check = (⟨-1, 0, 0, 0, -1⟩, 308) := by kernel_rfl
theorem ex6 (va sa ra aa pa : Option Addr) (ac : Nat) : (oneS va sa ra (ruAc aa ac (setA pa))).check = (⟨-1, 0, 0, 0, -1⟩, 308) := by kernel_rfl
theorem ex7 (va sa ra : Option Addr) (sc : Nat) : (twoS va sa ra sc).check = (⟨-1, 1, -1, -1, -1⟩, 303) := by kernel_rfl
theorem ex8 : (noneS 9).check = (⟨-1, -1, -1, -1, -1⟩, 302) := by kernel_rfl
theorem ex9 : (noneS 1).check = (⟨-1, -1, -1, -1, -1⟩, 300) := by kernel_rfl
theorem ex10 (va sa ra aa pa : Option Addr) (ac pc : Nat) : (oneS va sa ra (ruAc aa ac (sendA pa pc [0]))).check = (⟨-1, 0, 0, 0, 0⟩, 309) := by kernel_rfl
end Go.Rx
