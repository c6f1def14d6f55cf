/- Trees of regexes, what they mean, and how they lie in memory; plain, no program is named. No condition. -/
import Derived.Test.YtmggihkjgbnhbaaMc
set_option linter.unusedVariables false
set_option linter.unusedSimpArgs false
namespace Go.Rx
open Go Go.Eng
inductive T where
 | node (k s0 s1 s2 s3 mn mx : Int) (a : Option Addr) (c : Nat) (subs : List T)
def T.k : T → Int
 | .node k _ _ _ _ _ _ _ _ _ => k
def T.s0 : T → Int
 | .node _ s _ _ _ _ _ _ _ _ => s
def T.s1 : T → Int
 | .node _ _ s _ _ _ _ _ _ _ => s
def T.s2 : T → Int
 | .node _ _ _ s _ _ _ _ _ _ => s
def T.s3 : T → Int
 | .node _ _ _ _ s _ _ _ _ _ => s
def T.mn : T → Int
 | .node _ _ _ _ _ x _ _ _ _ => x
def T.mx : T → Int
 | .node _ _ _ _ _ _ x _ _ _ => x
def T.a : T → Option Addr
 | .node _ _ _ _ _ _ _ a _ _ => a
def T.c : T → Nat
 | .node _ _ _ _ _ _ _ _ c _ => c
def T.subs : T → List T
 | .node _ _ _ _ _ _ _ _ _ l => l
def T.sl (t : T) : Value := .slice t.a t.subs.length t.c
def T.cs (t : T) : List Value := [.int .u8 t.k, .int .u64 t.s0, .int .u64 t.s1, .int .u64 t.s2, .int .u64 t.s3, .int .i64 t.mn, .int .i64 t.mx, t.sl]
def T.v (t : T) : Value := .agg #[.int .u8 t.k, .int .u64 t.s0, .int .u64 t.s1, .int .u64 t.s2, .int .u64 t.s3, .int .i64 t.mn, .int .i64 t.mx, .slice t.a t.subs.length t.c]
structure OkN (k s0 s1 s2 s3 mn mx : Int) : Prop where
 k : 0 ≤ k ∧ k < 256
 s0 : 0 ≤ s0 ∧ s0 < 18446744073709551616
 s1 : 0 ≤ s1 ∧ s1 < 18446744073709551616
 s2 : 0 ≤ s2 ∧ s2 < 18446744073709551616
 s3 : 0 ≤ s3 ∧ s3 < 18446744073709551616
 mn : -9223372036854775808 ≤ mn ∧ mn ≤ 9223372036854775807
 mx : -9223372036854775808 ≤ mx ∧ mx ≤ 9223372036854775807
mutual
def Rep (m : Mem) : T → Prop
 | .node k s0 s1 s2 s3 mn mx a _ l => l.length ≤ 1000000000000000 ∧ (l = [] ∨ ∃ b o, a = some ⟨b, o, none⟩ ∧ RepAt m b o l) ∧ OkN k s0 s1 s2 s3 mn mx
def RepAt (m : Mem) (b : Nat) : Nat → List T → Prop
 | _, [] => True
 | o, t :: l => m.reads b o t.cs ∧ Rep m t ∧ RepAt m b (o + 8) l
end
theorem Rep_iff {m : Mem} {t : T} : Rep m t → (t.subs.length ≤ 1000000000000000 ∧ (t.subs = [] ∨ ∃ b o, t.a = some ⟨b, o, none⟩ ∧ RepAt m b o t.subs)) := by
 cases t; simp only [Rep, T.subs, T.a]; exact fun h => ⟨h.1, h.2.1⟩
theorem Rep_ok {m : Mem} {t : T} : Rep m t → OkN t.k t.s0 t.s1 t.s2 t.s3 t.mn t.mx := by
 cases t; simp only [Rep]; exact fun h => h.2.2
theorem Rep_mk {m : Mem} {t : T} (h1 : t.subs.length ≤ 1000000000000000) (h2 : t.subs = [] ∨ ∃ b o, t.a = some ⟨b, o, none⟩ ∧ RepAt m b o t.subs) (h3 : OkN t.k t.s0 t.s1 t.s2 t.s3 t.mn t.mx) : Rep m t := by
 cases t; simp only [Rep]; exact ⟨h1, h2, h3⟩
mutual
theorem Rep.mono {m m' : Mem} (h : m.le m') : ∀ t : T, Rep m t → Rep m' t
 | .node _ _ _ _ _ _ _ a _ l, hr => by
  simp only [Rep] at *
  refine ⟨hr.1, ?_, hr.2.2⟩
  rcases hr.2.1 with hr | ⟨b, o, h1, h2⟩
  ·exact .inl hr
  ·exact .inr ⟨b, o, h1, RepAt.mono h b o l h2⟩
theorem RepAt.mono {m m' : Mem} (h : m.le m') (b : Nat) : ∀ (o : Nat) (l : List T), RepAt m b o l → RepAt m' b o l
 | _, [], _ => by simp only [RepAt]
 | o, t :: l, hr => by
  simp only [RepAt] at *
  exact ⟨hr.1.mono h, Rep.mono h t hr.2.1, RepAt.mono h b (o + 8) l hr.2.2⟩
end
theorem RepAt.get {m : Mem} {b : Nat} : ∀ {o : Nat} {l : List T} {i : Nat} {t : T}, RepAt m b o l → l[i]? = some t → m.reads b (o + i * 8) t.cs ∧ Rep m t
 | o, [], i, t, _, hi => by simp at hi
 | o, x :: l, 0, t, h, hi => by
  simp only [RepAt] at h
  simp at hi; subst hi
  exact ⟨by simpa using h.1, h.2.1⟩
 | o, x :: l, i + 1, t, h, hi => by
  simp only [RepAt] at h
  have := h.2.2.get (i := i) (by simpa using hi)
  rw [show o + (i + 1) * 8 = o + 8 + i * 8 by omega]
  exact this
mutual
def T.nodes : T → List T
 | .node k s0 s1 s2 s3 mn mx a c l => .node k s0 s1 s2 s3 mn mx a c l :: nodesL l
def nodesL : List T → List T
 | [] => []
 | t :: l => t.nodes ++ nodesL l
end
theorem nodes_eq (t : T) : t.nodes = t :: nodesL t.subs := by cases t; simp only [T.nodes, T.subs]
theorem nodesL_append (l r : List T) : nodesL (l ++ r) = nodesL l ++ nodesL r := by
 induction l with
 | nil => simp [nodesL]
 | cons t l ih => simp [nodesL, ih, List.append_assoc]
theorem nodesL_take {l : List T} {i : Nat} {t : T} (h : l[i]? = some t) : nodesL (l.take (i + 1)) = nodesL (l.take i) ++ t.nodes := by
 have : l.take (i + 1) = l.take i ++ [t] := by
  rw [List.take_add_one, h]; rfl
 rw [this, nodesL_append]; simp [nodesL]
theorem nodesL_split {l : List T} {i : Nat} {t : T} (h : l[i]? = some t) : nodesL l = nodesL (l.take i) ++ (t.nodes ++ nodesL (l.drop (i + 1))) := by
 have hlt := (List.getElem?_eq_some_iff.1 h).1
 have e : l = l.take i ++ (t :: l.drop (i + 1)) := by
  have := List.drop_eq_getElem_cons hlt
  rw [(List.getElem?_eq_some_iff.1 h).2] at this
  rw [← this, List.take_append_drop]
 conv => lhs; rw [e, nodesL_append]
 simp [nodesL]
theorem nodes_at {t x z : T} {i q : Nat} (hx : t.subs[i]? = some x) (hz : x.nodes[q]? = some z) : t.nodes[1 + (nodesL (t.subs.take i)).length + q]? = some z := by
 have hq := (List.getElem?_eq_some_iff.1 hz).1
 rw [nodes_eq, show 1 + (nodesL (t.subs.take i)).length + q = ((nodesL (t.subs.take i)).length + q) + 1 by omega, List.getElem?_cons_succ, nodesL_split hx, List.getElem?_append_right (by omega), List.getElem?_append_left (by omega), show (nodesL (List.take i t.subs)).length + q - (nodesL (List.take i t.subs)).length = q by omega]
 exact hz
theorem sub_lt {t x : T} (h : x ∈ t.subs) : SizeOf.sizeOf x < SizeOf.sizeOf t := by
 cases t with
 | node k s0 s1 s2 s3 mn mx a c l =>
  have h' : x ∈ l := h
  have := List.sizeOf_lt_of_mem h'
  simp only [T.node.sizeOf_spec]
  omega
theorem fits_v (t : T) : Shape.fitsL [.agg [.int .u8, .int .u64, .int .u64, .int .u64, .int .u64, .int .i64, .int .i64, .slice]] [t.v] = true := by
 simp [Shape.fitsL, Shape.fits, T.v]
mutual
theorem rep_node {m : Mem} : ∀ (t : T), Rep m t → ∀ x ∈ t.nodes, Rep m x
 | .node k s0 s1 s2 s3 mn mx a c l, hr, x, hx => by
  simp only [T.nodes, List.mem_cons] at hx
  rcases hx with rfl | hx
  ·exact hr
  ·simp only [Rep] at hr
   rcases hr.2.1 with h | ⟨b, o, _, h⟩
   ·subst h; simp [nodesL] at hx
   ·exact rep_nodeL b o l h x hx
theorem rep_nodeL {m : Mem} (b : Nat) : ∀ (o : Nat) (l : List T), RepAt m b o l → ∀ x ∈ nodesL l, Rep m x
 | _, [], _, x, hx => by simp [nodesL] at hx
 | o, t :: l, hr, x, hx => by
  simp only [RepAt] at hr
  simp only [nodesL, List.mem_append] at hx
  rcases hx with hx | hx
  ·exact rep_node t hr.2.1 x hx
  ·exact rep_nodeL b (o + 8) l hr.2.2 x hx
end
theorem rep_nodes {m : Mem} {t x : T} (h : Rep m t) (hx : x ∈ t.nodes) : Rep m x := rep_node t h x hx
def bounds (least most : Int) : Bool := !(decide (least < 0) || decide (least > 16) || (least == 1 && most == 1)) && (most == -1 || (decide (most ≥ 1) && decide (most ≤ 16) && decide (most ≥ least)))
def T.has (t : T) (k : Int) : Bool := t.subs.any fun x => x.k == k
def T.light (t : T) : Bool := decide (t.nodes.length ≤ 10000)
def T.setZ (t : T) : Bool := t.s0 == 0 && t.s1 == 0 && t.s2 == 0 && t.s3 == 0
def T.right (t : T) : Bool :=
 !(t.k != 2 && !t.setZ || (t.k != 5 && (t.mn != 0 || t.mx != 0) || (decide (t.k < 3) && decide (0 < t.subs.length)))) &&
 (if t.k = 1 then true else if t.k = 2 then !t.setZ else if t.k = 3 then decide (1 < t.subs.length) && (!t.has 1 && !t.has 3) else if t.k = 4 then decide (1 < t.subs.length) && !t.has 4
  else if t.k = 5 then t.subs.length == 1 && (bounds t.mn t.mx && !t.has 1) else t.k == 6 && t.subs.length == 1)
def T.clean (t : T) : Bool := t.light && t.nodes.all T.right
def T.size (t : T) : Int := if t.light then t.nodes.length else 10001
def T.groups (t : T) : Int := if t.light then (t.nodes.countP fun x => x.k == 6 : Nat) else 10001
def imax (x y : Int) : Int := if y > x then y else x
def imin (x y : Int) : Int := if y < x then y else x
def posR (k mn mx sum : Int) : Int := imin (if k = 5 then sum * imin (if mx = -1 then imax (imax mn 0) 1 else imax (imax mn 0) mx) 10001 else sum) 10001
mutual
def T.pos : T → Int
 | .node k _ _ _ _ mn mx _ _ l => posR k mn mx ((if k = 2 then 1 else 0) + posL l)
def posL : List T → Int
 | [] => 0
 | t :: l => t.pos + posL l
end
def T.positions (t : T) : Int := if t.light then t.pos else 10001
def T.check (t : T) : Int := if t.clean = false then 80 else if t.size > 120 then 81 else if t.positions > 400 then 82 else if t.groups > 9 then 83 else 0
mutual
def T.same : T → T → Bool
 | .node k s0 s1 s2 s3 mn mx _ _ l, .node k' s0' s1' s2' s3' mn' mx' _ _ l' => k == k' && ((s0 == s0' && s1 == s1' && s2 == s2' && s3 == s3') && (mn == mn' && (mx == mx' && sameL l l')))
def sameL : List T → List T → Bool
 | [], [] => true
 | t :: l, t' :: l' => t.same t' && sameL l l'
 | _, _ => false
end
theorem same_eq (t u : T) : t.same u = (t.k == u.k && ((t.s0 == u.s0 && t.s1 == u.s1 && t.s2 == u.s2 && t.s3 == u.s3) && (t.mn == u.mn && (t.mx == u.mx && sameL t.subs u.subs)))) := by
 cases t; cases u; simp only [T.same, T.k, T.s0, T.s1, T.s2, T.s3, T.mn, T.mx, T.subs]
theorem sameL_len : ∀ {l r : List T}, ¬ l.length = r.length → sameL l r = false
 | [], [], h => by simp at h
 | [], _ :: _, _ => by simp [sameL]
 | _ :: _, [], _ => by simp [sameL]
 | x :: l, y :: r, h => by
  simp only [sameL, sameL_len (l := l) (r := r) (by simpa using h), Bool.and_false]
theorem sameL_at : ∀ {l r : List T} {i : Nat} {x y : T}, l[i]? = some x → r[i]? = some y → x.same y = false → sameL l r = false
 | [], r, i, x, y, h, _, _ => by simp at h
 | _ :: _, [], i, x, y, _, h, _ => by simp at h
 | a :: l, b :: r, 0, x, y, h, k, e => by
  simp at h k; subst h k
  simp [sameL, e]
 | a :: l, b :: r, i + 1, x, y, h, k, e => by
  simp only [sameL, sameL_at (l := l) (r := r) (i := i) (by simpa using h) (by simpa using k) e, Bool.and_false]
theorem sameL_take : ∀ {l r : List T} {i : Nat} {x y : T}, l[i]? = some x → r[i]? = some y → sameL (l.take i) (r.take i) = true → x.same y = true → True → sameL (l.take (i + 1)) (r.take (i + 1)) = true
 | [], r, i, x, y, h, _, _, _, _ => by simp at h
 | _ :: _, [], i, x, y, _, h, _, _, _ => by simp at h
 | a :: l, b :: r, 0, x, y, h, k, _, e, _ => by
  simp at h k; subst h k
  simp [sameL, e]
 | a :: l, b :: r, i + 1, x, y, h, k, hs, e, _ => by
  simp only [List.take_succ_cons, sameL, Bool.and_eq_true] at hs ⊢
  exact ⟨hs.1, sameL_take (by simpa using h) (by simpa using k) hs.2 e trivial⟩
theorem pos_eq (t : T) : t.pos = posR t.k t.mn t.mx ((if t.k = 2 then 1 else 0) + posL t.subs) := by
 cases t; simp only [T.pos, T.k, T.mn, T.mx, T.subs]; congr 1
theorem posL_append (l r : List T) : posL (l ++ r) = posL l + posL r := by
 induction l with
 | nil => simp [posL]
 | cons t l ih => simp [posL, ih, Int.add_assoc]
theorem imax_le (x y : Int) : x ≤ imax x y ∧ y ≤ imax x y := by unfold imax; split <;> omega
theorem imin_le (x y : Int) : imin x y ≤ x ∧ imin x y ≤ y := by unfold imin; split <;> omega
theorem imin_nn {x y : Int} (h : 0 ≤ x) (k : 0 ≤ y) : 0 ≤ imin x y := by unfold imin; split <;> omega
def posF (mn mx : Int) : Int := imin (if mx = -1 then imax (imax mn 0) 1 else imax (imax mn 0) mx) 10001
theorem posF_bd (mn mx : Int) : 0 ≤ posF mn mx ∧ posF mn mx ≤ 10001 := by
 unfold posF
 refine ⟨imin_nn ?_ (by omega), (imin_le _ _).2⟩
 have h1 := imax_le mn 0
 split
 ·have := imax_le (imax mn 0) 1; omega
 ·have := imax_le (imax mn 0) mx; omega
theorem posR_bd {k mn mx sum : Int} (h : 0 ≤ sum) : 0 ≤ posR k mn mx sum ∧ posR k mn mx sum ≤ 10001 := by
 have h2 := Int.mul_nonneg h (posF_bd mn mx).1
 unfold posR
 refine ⟨imin_nn ?_ (by omega), (imin_le _ _).2⟩
 split
 ·exact h2
 ·exact h
mutual
theorem pos_bd : ∀ t : T, 0 ≤ t.pos ∧ t.pos ≤ 10001
 | .node k _ _ _ _ mn mx _ _ l => by
  simp only [T.pos]
  have := posL_nn l
  exact posR_bd (by split <;> omega)
theorem posL_nn : ∀ l : List T, 0 ≤ posL l
 | [] => by simp [posL]
 | t :: l => by
  simp only [posL]
  have := pos_bd t
  have := posL_nn l
  omega
end
def T.hasB (t : T) (c : Nat) : Bool := ((if c / 64 = 0 then t.s0 else if c / 64 = 1 then t.s1 else if c / 64 = 2 then t.s2 else t.s3).toNat).testBit (c % 64)
end Go.Rx
namespace Go.Rx
open Go Go.Eng Go.RowKit
end Go.Rx
set_option linter.unusedSectionVars false
namespace Go.Rx
open Go Go.Eng Go.RowKit
def Byt (m : Mem) (a : Option Addr) (s : List Nat) : Prop := (s = [] ∨ ∃ b o, a = some ⟨b, o, none⟩ ∧ m.reads b o (s.map fun c : Nat => Value.int .u8 c)) ∧ ∀ c ∈ s, c < 256
theorem Byt.mono {m m' : Mem} {a s} (h : Byt m a s) (hm : m.le m') : Byt m' a s := by
 refine ⟨?_, h.2⟩
 rcases h.1 with h | ⟨b, o, h1, h2⟩
 ·exact .inl h
 ·exact .inr ⟨b, o, h1, h2.mono hm⟩
theorem Byt.get {m : Mem} {a s} (h : Byt m a s) {i c : Nat} (hi : s[i]? = some c) : (∃ b o, a = some ⟨b, o, none⟩ ∧ m b (o + i) = some (.int .u8 c)) ∧ c < 256 := by
 refine ⟨?_, h.2 c (List.mem_of_getElem? hi)⟩
 rcases h.1 with h | ⟨b, o, h1, h2⟩
 ·subst h; simp at hi
 ·exact ⟨b, o, h1, h2 i _ (by rw [List.getElem?_map, hi]; rfl)⟩
def clsAt (t : T) (back : Bool) (f i c out : Nat) : Nat := if (f.testBit (if back then i + 1 else i) && t.hasB c) = true then out ||| 2 ^ (if back then i else i + 1) else out
def clsL (t : T) (back : Bool) (f : Nat) : List Nat → Nat → Nat → Nat
 | [], _, out => out
 | c :: s, i, out => clsL t back f s (i + 1) (clsAt t back f i c out)
def iter (g : Nat → Nat) : Nat → Nat → Nat
 | 0, f => f
 | n + 1, f => iter g n (g f)
def starF (g : Nat → Nat) (mx : Int) : Nat → Int → Nat → Nat → Nat
 | 0, _, out, _ => out
 | n + 1, k, out, last => if k = mx then out else if out ||| g last = out then out else starF g mx n (IntKind.i64.wrap (k + 1)) (out ||| g last) (g last)
@[irreducible] def E576 : Nat := 576
abbrev B576 : Nat := 2 ^ E576
def repN (g : Nat → Nat) (mn mx : Int) (f : Nat) : Nat := starF g mx (B576 + 1) mn (iter g mn.toNat f) (iter g mn.toNat f)
mutual
def T.lead (s : List Nat) (back : Bool) : T → Nat → Nat
 | .node k s0 s1 s2 s3 mn mx a c l => fun f =>
  if k = 1 then f else if k = 2 then clsL (.node k s0 s1 s2 s3 mn mx a c l) back f s 0 0
  else if k = 3 then (if back then leadB s back l f else leadF s back l f)
  else if k = 4 then altL s back l f 0
  else if k = 5 then repN (headL s back l) mn mx f
  else if k = 6 then headL s back l f else 0
def leadF (s : List Nat) (back : Bool) : List T → Nat → Nat
 | [] => fun f => f
 | t :: l => fun f => leadF s back l (t.lead s back f)
def leadB (s : List Nat) (back : Bool) : List T → Nat → Nat
 | [] => fun f => f
 | t :: l => fun f => t.lead s back (leadB s back l f)
def altL (s : List Nat) (back : Bool) : List T → Nat → Nat → Nat
 | [] => fun _ out => out
 | t :: l => fun f out => altL s back l f (out ||| t.lead s back f)
def headL (s : List Nat) (back : Bool) : List T → Nat → Nat
 | [] => fun f => f
 | t :: _ => fun f => t.lead s back f
end
section
variable {s : List Nat} {back : Bool}
end
theorem take_at {α : Type} {l : List α} {i : Nat} {x : α} (h : l[i]? = some x) : l.take (i + 1) = l.take i ++ [x] := by
 rw [List.take_add_one, h]; rfl
section
variable (s : List Nat) (back : Bool) (hs : s.length ≤ 512)
include hs
end
end Go.Rx
namespace Go.Rx
open Go Go.Eng Go.RowKit
def T0 : T := .node 0 0 0 0 0 0 0 none 0 []
def T1 : T := .node 1 0 0 0 0 0 0 none 0 []
theorem rep_T0 (m : Mem) : Rep m T0 := by simp only [T0, Rep]; exact ⟨by simp, .inl trivial, by constructor <;> decide⟩
theorem rep_T1 (m : Mem) : Rep m T1 := by simp only [T1, Rep]; exact ⟨by simp, .inl trivial, by constructor <;> decide⟩
def T.isNone (t : T) : Bool := t.k == 0 && (t.light && (T0.light && t.same T0))
structure Rg where
 bg : Bool
 en : Bool
 t : T
def Rg.v (r : Rg) : Value := .agg #[.bool r.bg, .bool r.en, .int .u8 r.t.k, .int .u64 r.t.s0, .int .u64 r.t.s1, .int .u64 r.t.s2, .int .u64 r.t.s3, .int .i64 r.t.mn, .int .i64 r.t.mx, .slice r.t.a r.t.subs.length r.t.c]
def Rg.cs (r : Rg) : List Value := [.bool r.bg, .bool r.en, .int .u8 r.t.k, .int .u64 r.t.s0, .int .u64 r.t.s1, .int .u64 r.t.s2, .int .u64 r.t.s3, .int .i64 r.t.mn, .int .i64 r.t.mx, .slice r.t.a r.t.subs.length r.t.c]
def Rgs (m : Mem) (a : Option Addr) (l : List Rg) : Prop := l.length ≤ 1000000000000000 ∧ (l = [] ∨ ∃ b o, a = some ⟨b, o, none⟩ ∧ ∀ i r, l[i]? = some r → m.reads b (o + i * 10) r.cs) ∧ ∀ r ∈ l, Rep m r.t
theorem Rgs.mono {m m' : Mem} {a l} (h : Rgs m a l) (hm : m.le m') : Rgs m' a l := by
 refine ⟨h.1, ?_, fun r hr => (h.2.2 r hr).mono hm⟩
 rcases h.2.1 with h | ⟨b, o, h1, h2⟩
 ·exact .inl h
 ·exact .inr ⟨b, o, h1, fun i r hi => (h2 i r hi).mono hm⟩
def bitsOf (f : Nat) : List Nat := (List.range 513).filter fun i => f.testBit i
def firstLe (n : Nat) : List Nat → Option Nat
 | [] => none
 | i :: _ => if i > n then none else some i
def Rg.from (s : List Nat) (n : Nat) (r : Rg) : Option Nat := if (r.en && decide ((n : Int) < s.length)) = true then none else if r.bg then (if (r.t.lead s true (2 ^ n)).testBit 0 then some 0 else none) else
 firstLe n (bitsOf (r.t.lead s true (2 ^ n)))
end Go.Rx
namespace Go.Rx
open Go Go.Eng Go.RowKit
def TreeR (φ : T → Prop) : Value → Mem → List (List Value) → Prop := fun v m' _ => ∃ t : T, v = t.v ∧ Rep m' t ∧ φ t
abbrev TRK := Int → Int → Int → Int → Int → Int → Int → Option Addr → Nat → Nat → Mem → Prop
theorem tree_k {φ : T → Prop} {m : Mem} {K : TRK} (k : ∀ (t : T) (m' : Mem), m.le m' → Rep m' t → φ t → K t.k t.s0 t.s1 t.s2 t.s3 t.mn t.mx t.a t.subs.length t.c m') :
  ∀ (n0 n1 n2 n3 n4 n5 n6 : Int) (a : Option Addr) (n c : Nat) (m' : Mem), m.le m' → TreeR φ (.agg #[.int .u8 n0, .int .u64 n1, .int .u64 n2, .int .u64 n3, .int .u64 n4, .int .i64 n5, .int .i64 n6, .slice a n c]) m' [] → K n0 n1 n2 n3 n4 n5 n6 a n c m' := by
 rintro n0 n1 n2 n3 n4 n5 n6 a n c m' hm ⟨t, hv, hr, hp⟩
 simp only [T.v, Value.agg.injEq, Array.mk.injEq, List.cons.injEq, Value.int.injEq, Value.slice.injEq, true_and, and_true] at hv
 obtain ⟨rfl, rfl, rfl, rfl, rfl, rfl, rfl, rfl, rfl, rfl⟩ := hv
 exact k t m' hm hr hp
theorem tree_fits {φ : T → Prop} : ∀ (v : Value) (m' : Mem) (css : List (List Value)), TreeR φ v m' css → Shape.fits (.agg [.int .u8, .int .u64, .int .u64, .int .u64, .int .u64, .int .i64, .int .i64, .slice]) v = true := fun v _ _ ⟨t, e, _⟩ => by rw [e]; rfl
def wordI (c j : Nat) : Int := if c / 64 = j then ((2 ^ (c % 64) : Nat) : Int) else 0
def letterT (c : Nat) : T := .node 2 (wordI c 0) (wordI c 1) (wordI c 2) (wordI c 3) 0 0 none 0 []
theorem wordI_ok (c j : Nat) : 0 ≤ wordI c j ∧ wordI c j < 18446744073709551616 := by
 unfold wordI
 split
 ·have h : (2 : Nat) ^ (c % 64) < 2 ^ 64 := Nat.pow_lt_pow_right (by omega) (by omega)
  have e : (2 : Nat) ^ 64 = 18446744073709551616 := by decide
  rw [e] at h
  generalize (2 : Nat) ^ (c % 64) = w at *
  exact ⟨by omega, by omega⟩
 ·omega
theorem rep_letter (c : Nat) (m : Mem) : Rep m (letterT c) := by
 simp only [letterT, Rep]
 exact ⟨by simp, .inl trivial, ⟨by omega, wordI_ok c 0, wordI_ok c 1, wordI_ok c 2, wordI_ok c 3, by omega, by omega⟩⟩
def RepL (m : Mem) (a : Option Addr) (l : List T) : Prop := l.length ≤ 1000000000000000 ∧ (l = [] ∨ ∃ b o, a = some ⟨b, o, none⟩ ∧ RepAt m b o l)
theorem RepL.mono {m m' : Mem} {a l} (h : RepL m a l) (hm : m.le m') : RepL m' a l := by
 refine ⟨h.1, ?_⟩
 rcases h.2 with h | ⟨b, o, h1, h2⟩
 ·exact .inl h
 ·exact .inr ⟨b, o, h1, h2.mono hm⟩
theorem Rep.subs {m : Mem} {t : T} (h : Rep m t) : RepL m t.a t.subs := Rep_iff h
def nodeT (k mn mx : Int) (a : Option Addr) (c : Nat) (l : List T) : T := .node k 0 0 0 0 mn mx a c l
theorem rep_node_mk {m : Mem} {k mn mx : Int} {a : Option Addr} {c : Nat} {l : List T} (h : RepL m a l) (hk : 0 ≤ k ∧ k < 256) (h1 : -9223372036854775808 ≤ mn ∧ mn ≤ 9223372036854775807) (h2 : -9223372036854775808 ≤ mx ∧ mx ≤ 9223372036854775807) : Rep m (nodeT k mn mx a c l) := by
 simp only [nodeT, Rep]
 exact ⟨h.1, h.2, ⟨hk, by omega, by omega, by omega, by omega, h1, h2⟩⟩
theorem repL_one {m : Mem} {b : Nat} {t : T} (h : m.reads b 0 t.cs) (hr : Rep m t) : RepL m (some ⟨b, 0, none⟩) [t] := ⟨by simp, .inr ⟨b, 0, rfl, by simp only [RepAt]; exact ⟨h, hr, trivial⟩⟩⟩
def cellsL (l : List T) : List Value := (l.map T.cs).flatten
theorem cellsL_len (l : List T) : (cellsL l).length = l.length * 8 := by
 induction l with
 | nil => rfl
 | cons t l ih => simp [cellsL, T.cs] at ih ⊢; omega
theorem cellsL_snoc (l : List T) (t : T) : cellsL (l ++ [t]) = cellsL l ++ t.cs := by simp [cellsL]
theorem cellsL_append (l r : List T) : cellsL (l ++ r) = cellsL l ++ cellsL r := by simp [cellsL]
theorem repAt_of {m : Mem} {b : Nat} : ∀ {o : Nat} {l : List T}, m.reads b o (cellsL l) → (∀ t ∈ l, Rep m t) → RepAt m b o l
 | o, [], _, _ => by simp only [RepAt]
 | o, t :: l, h, hr => by
  simp only [RepAt]
  refine ⟨fun j v hj => ?_, hr t (by simp), repAt_of (fun j v hj => ?_) fun x hx => hr x (by simp [hx])⟩
  ·refine h j v ?_
   simp only [cellsL, List.map_cons, List.flatten_cons]
   rw [List.getElem?_append_left (List.getElem?_eq_some_iff.1 hj).1]; exact hj
  ·have := h (8 + j) v (by
    simp only [cellsL, List.map_cons, List.flatten_cons]
    rw [List.getElem?_append_right (by simp [T.cs])]
    have e : 8 + j - t.cs.length = j := by simp [T.cs]
    rw [e]; exact hj)
   rw [show o + 8 + j = o + (8 + j) by omega]; exact this
theorem repL_of {m : Mem} {a : Option Addr} {l : List T} (h : rowRd m a (cellsL l)) (hr : ∀ t ∈ l, Rep m t) (hl : l.length ≤ 1000000000000000) : RepL m a l := by
 refine ⟨hl, ?_⟩
 cases l with
 | nil => exact .inl rfl
 | cons t l =>
  rcases h with h | ⟨b, o, h1, h2⟩
  ·simp [cellsL, T.cs] at h
  ·exact .inr ⟨b, o, h1, repAt_of h2 hr⟩
theorem row_of_repL {m : Mem} {a : Option Addr} {l : List T} (h : RepL m a l) : rowRd m a (cellsL l) := by
 have key : ∀ (l : List T) (b o : Nat), RepAt m b o l → m.reads b o (cellsL l) := by
  intro l
  induction l with
  | nil => intro b o _ j v hj; simp [cellsL] at hj
  | cons t l ih =>
   intro b o hr j v hj
   simp only [RepAt] at hr
   simp only [cellsL, List.map_cons, List.flatten_cons] at hj
   by_cases hlt : j < 8
   ·rw [List.getElem?_append_left (by simpa [T.cs] using hlt)] at hj
    exact hr.1 j v hj
   ·rw [List.getElem?_append_right (by simp [T.cs]; omega)] at hj
    have := ih b (o + 8) hr.2.2 (j - 8) v (by simpa [T.cs, cellsL] using hj)
    rw [show o + 8 + (j - 8) = o + j by omega] at this; exact this
 rcases h.2 with h | ⟨b, o, h1, h2⟩
 ·subst h; exact .inl rfl
 ·exact .inr ⟨b, o, h1, key l b o h2⟩
theorem repL_reps {m : Mem} {a : Option Addr} {l : List T} (h : RepL m a l) : ∀ t ∈ l, Rep m t := by
 rcases h.2 with h | ⟨b, o, _, h⟩
 ·subst h; simp
 ·intro t ht
  obtain ⟨i, hi⟩ := List.getElem?_of_mem ht
  exact (h.get hi).2
end Go.Rx
namespace Go.Rx
open Go Go.Eng Go.RowKit
def T.good (t : T) : Bool := t.nodes.all T.right
def isG (t : T) : Bool := t.k == 6
theorem nodesL_all (p : T → Bool) : ∀ l : List T, (nodesL l).all p = l.all fun t => t.nodes.all p
 | [] => rfl
 | t :: l => by simp only [nodesL, List.all_append, List.all_cons, nodesL_all p l]
theorem good_eq (t : T) : t.good = (t.right && t.subs.all T.good) := by
 unfold T.good; rw [nodes_eq, List.all_cons, nodesL_all]
def grL (l : List T) : Nat := (nodesL l).countP isG
def szL (l : List T) : Nat := (nodesL l).length
def T.gr (t : T) : Nat := t.nodes.countP isG
theorem szL_append (l r : List T) : szL (l ++ r) = szL l + szL r := by unfold szL; rw [nodesL_append, List.length_append]
theorem grL_append (l r : List T) : grL (l ++ r) = grL l + grL r := by unfold grL; rw [nodesL_append, List.countP_append]
theorem szL_one (t : T) : szL [t] = t.nodes.length := by simp [szL, nodesL]
theorem grL_one (t : T) : grL [t] = t.gr := by simp [grL, nodesL, T.gr]
theorem posL_one (t : T) : posL [t] = t.pos := by simp [posL]
theorem szL_cons (t : T) (l : List T) : szL (t :: l) = t.nodes.length + szL l := by simp [szL, nodesL]
theorem grL_cons (t : T) (l : List T) : grL (t :: l) = t.gr + grL l := by simp [grL, nodesL, T.gr, List.countP_append]
theorem sz_eq (t : T) : t.nodes.length = 1 + szL t.subs := by rw [nodes_eq, List.length_cons, szL]; omega
theorem gr_eq (t : T) : t.gr = (if isG t = true then 1 else 0) + grL t.subs := by
 unfold T.gr; rw [nodes_eq, List.countP_cons, grL]; omega
theorem len_szL (l : List T) : l.length ≤ szL l := by
 induction l with
 | nil => simp
 | cons t l ih => rw [szL_cons, sz_eq, List.length_cons]; omega
def joinL (k : Int) (t : T) : List T := if t.k = k then t.subs else if k = 3 ∧ t.k = 1 then [] else [t]
def mkJoin (k : Int) (a : Option Addr) (c : Nat) : List T → T
 | [] => T1
 | [x] => x
 | x :: y :: l => nodeT k 0 0 a c (x :: y :: l)
theorem has_false {t : T} {k : Int} (h : t.has k = false) : ∀ x ∈ t.subs, x.k ≠ k := by
 intro x hx e
 unfold T.has at h
 have := List.any_eq_false.1 h x hx
 simp [e] at this
theorem has_of {t : T} {k : Int} (h : ∀ x ∈ t.subs, x.k ≠ k) : t.has k = false := by
 unfold T.has
 rw [List.any_eq_false]
 intro x hx
 have := h x hx
 simpa using this
theorem joinL_ok {k : Int} {t : T} (hk : k = 3 ∨ k = 4) (hg : t.good = true) (hp : t.pos ≤ 10000) : (∀ x ∈ joinL k t, x.good = true ∧ x.k ≠ k ∧ (k = 3 → x.k ≠ 1)) ∧ szL (joinL k t) ≤ t.nodes.length ∧ grL (joinL k t) ≤ t.gr ∧ posL (joinL k t) ≤ t.pos := by
 have hg' := hg
 rw [good_eq, Bool.and_eq_true, List.all_eq_true] at hg'
 unfold joinL
 split
 ·rename_i hkk
  refine ⟨fun x hx => ⟨hg'.2 x hx, ?_⟩, by rw [sz_eq]; omega, by rw [gr_eq]; omega, ?_⟩
  ·have hr := hg'.1
   unfold T.right at hr
   rw [Bool.and_eq_true] at hr
   have hr := hr.2
   rcases hk with rfl | rfl
   ·simp only [hkk] at hr
    simp at hr
    exact ⟨has_false hr.2.2 x hx, fun _ => has_false hr.2.1 x hx⟩
   ·simp only [hkk] at hr
    simp at hr
    exact ⟨has_false hr.2 x hx, fun h => by omega⟩
  ·rw [pos_eq] at hp ⊢
   have h5 : ¬ t.k = 5 := by omega
   have h2 : ¬ t.k = 2 := by omega
   unfold posR at hp ⊢
   rw [if_neg h5, if_neg h2, Int.zero_add] at hp ⊢
   unfold imin at hp ⊢
   split at hp
   ·omega
   ·split <;> omega
 ·rename_i hkk
  split
  ·refine ⟨fun x hx => by simp at hx, by simp [szL, nodesL], by simp [grL, nodesL], ?_⟩
   simp only [posL]; exact (pos_bd t).1
  ·rename_i h31
   refine ⟨fun x hx => ?_, by rw [szL_one]; exact Nat.le_refl _, by rw [grL_one]; exact Nat.le_refl _, by rw [posL_one]; exact Int.le_refl _⟩
   simp at hx; subst hx
   exact ⟨hg, hkk, fun h => fun h1 => h31 ⟨h, h1⟩⟩
theorem mkJoin_ok {k : Int} (hk : k = 3 ∨ k = 4) (a : Option Addr) (c : Nat) : ∀ {l : List T}, (∀ x ∈ l, x.good = true ∧ x.k ≠ k ∧ (k = 3 → x.k ≠ 1)) → (mkJoin k a c l).good = true ∧ (mkJoin k a c l).nodes.length ≤ 1 + szL l ∧ (mkJoin k a c l).gr ≤ grL l ∧ (mkJoin k a c l).pos ≤ posL l
 | [], _ => ⟨show T1.good = true by decide, show T1.nodes.length ≤ 1 by decide, show T1.gr ≤ 0 by decide, show T1.pos ≤ 0 by decide⟩
 | [x], h => by
  rw [szL_one, grL_one, posL_one]
  exact ⟨(h x (by simp)).1, by show x.nodes.length ≤ _; omega, Nat.le_refl _, Int.le_refl _⟩
 | x :: y :: l, h => by
  show (nodeT k 0 0 a c (x :: y :: l)).good = true ∧ (nodeT k 0 0 a c (x :: y :: l)).nodes.length ≤ _ ∧ (nodeT k 0 0 a c (x :: y :: l)).gr ≤ _ ∧ (nodeT k 0 0 a c (x :: y :: l)).pos ≤ _
  have hs : (nodeT k 0 0 a c (x :: y :: l)).subs = x :: y :: l := rfl
  have hkk : (nodeT k 0 0 a c (x :: y :: l)).k = k := rfl
  have hz : (nodeT k 0 0 a c (x :: y :: l)).setZ = true := rfl
  have hmn : (nodeT k 0 0 a c (x :: y :: l)).mn = 0 := rfl
  have hmx : (nodeT k 0 0 a c (x :: y :: l)).mx = 0 := rfl
  refine ⟨?_, by rw [sz_eq, hs]; exact Nat.le_refl _, ?_, ?_⟩
  ·rw [good_eq, Bool.and_eq_true, List.all_eq_true, hs]
   refine ⟨?_, fun z hz => (h z hz).1⟩
   have h1 : k = 3 → (nodeT k 0 0 a c (x :: y :: l)).has 1 = false := fun e => has_of fun z hz => (h z hz).2.2 e
   have h2 : (nodeT k 0 0 a c (x :: y :: l)).has k = false := has_of fun z hz => (h z hz).2.1
   unfold T.right
   rw [hkk, hz, hmn, hmx, hs]
   rcases hk with rfl | rfl
   ·simp [h1 rfl, h2]
   ·simp [h2]
  ·rw [gr_eq, hs, isG, hkk]
   rcases hk with rfl | rfl <;> simp
  ·rw [pos_eq, hkk, hmn, hmx, hs]
   unfold posR
   rw [if_neg (by omega), if_neg (by omega), Int.zero_add]
   exact (imin_le _ _).1
structure J (i : Nat) (ts : List T) (u g : Nat) : Prop where
 good : ∀ t ∈ ts, t.good = true
 sz : szL ts ≤ i
 pos : posL ts ≤ (i * u : Nat)
 u1 : 1 ≤ u
 u16 : u ≤ 16
 gr : grL ts ≤ g
 g9 : g ≤ 9
theorem J.zero : J 0 [] 1 0 := ⟨by simp, by simp [szL, nodesL], by simp [posL], by omega, by omega, by simp [grL, nodesL], by omega⟩
theorem J.skip {i ts u g} (h : J i ts u g) : J (i + 1) ts u g :=
 ⟨h.good, by have := h.sz; omega, by have := h.pos; have e : (i + 1) * u = i * u + u := Nat.succ_mul i u; rw [e]; omega, h.u1, h.u16, h.gr, h.g9⟩
theorem J.push {i ts u g} (h : J i ts u g) {t : T} (hg : t.good = true) (hs : t.nodes.length = 1) (hp : t.pos ≤ 1) (hr : t.gr = 0) : J (i + 1) (ts ++ [t]) u g := by
 refine ⟨fun x hx => ?_, ?_, ?_, h.u1, h.u16, ?_, h.g9⟩
 ·rcases List.mem_append.1 hx with hx | hx
  ·exact h.good x hx
  ·simp at hx; subst hx; exact hg
 ·rw [szL_append, szL_one, hs]; have := h.sz; omega
 ·rw [posL_append, posL_one]; have := h.pos; have := h.u1; have e : (i + 1) * u = i * u + u := Nat.succ_mul i u; rw [e]; omega
 ·rw [grL_append, grL_one, hr]; have := h.gr; omega
structure F (t : T) (l : List T) : Prop where
 good : t.good = true
 goods : ∀ x ∈ l, x.good = true
 sz : t.nodes.length + szL l + l.length ≤ 60
 pos : t.pos + posL l ≤ 400
 gr : t.gr + grL l ≤ 9
theorem F.step {t x : T} {l : List T} (h : F t (x :: l)) (a : Option Addr) (c : Nat) : F (mkJoin 4 a c (joinL 4 t ++ joinL 4 x)) l := by
 have h1 := h.sz
 have h2 := h.pos
 have h3 := h.gr
 rw [szL_cons, List.length_cons] at h1
 rw [grL_cons] at h3
 simp only [posL] at h2
 have n1 := posL_nn l
 have n2 := (pos_bd x).1
 have n3 := (pos_bd t).1
 obtain ⟨a1, a2, a3, a4⟩ := joinL_ok (.inr rfl) h.good (by omega) (t := t)
 obtain ⟨b1, b2, b3, b4⟩ := joinL_ok (.inr rfl) (h.goods x (by simp)) (by omega)
 obtain ⟨c1, c2, c3, c4⟩ := mkJoin_ok (.inr rfl) a c (l := joinL 4 t ++ joinL 4 x) (fun z hz => by
  rcases List.mem_append.1 hz with hz | hz
  ·exact a1 z hz
  ·exact b1 z hz)
 rw [szL_append] at c2
 rw [grL_append] at c3
 rw [posL_append] at c4
 exact ⟨c1, fun z hz => h.goods z (by simp [hz]), by omega, by omega, by omega⟩
theorem F.done {t : T} {l : List T} (h : F t l) : t.check = 0 := by
 have h1 := h.sz
 have h2 := h.pos
 have h3 := h.gr
 have n1 := posL_nn l
 have hl : t.light = true := by unfold T.light; exact decide_eq_true (by omega)
 have hc : t.clean = true := by unfold T.clean; rw [hl]; exact h.good
 have hg : ((t.nodes.countP fun x => x.k == 6 : Nat)) = t.gr := rfl
 unfold T.check
 rw [hc]
 unfold T.size T.positions T.groups
 rw [hl, hg]
 simp only [if_true, Bool.true_eq_false, if_false]
 rw [if_neg (by omega), if_neg (by omega), if_neg (by omega)]
end Go.Rx
namespace Go.Rx
open Go Go.Eng Go.RowKit
set_option maxRecDepth 100000
theorem right_of_good {t : T} (h : t.good = true) : t.right = true ∧ ∀ x ∈ t.subs, x.good = true := by
 rw [good_eq, Bool.and_eq_true, List.all_eq_true] at h; exact h
theorem right_k {t : T} (h : t.right = true) : t.k = 1 ∨ t.k = 2 ∨ t.k = 3 ∨ t.k = 4 ∨ (t.k = 5 ∧ (∃ x, t.subs = [x]) ∧ 0 ≤ t.mn ∧ t.mn ≤ 16 ∧ (t.mx = -1 ∨ (1 ≤ t.mx ∧ t.mn ≤ t.mx ∧ t.mx ≤ 16))) ∨ (t.k = 6 ∧ ∃ x, t.subs = [x]) := by
 have one : (t.subs.length == 1) = true → ∃ x, t.subs = [x] := fun e => by
  have : t.subs.length = 1 := by simpa using e
  match hsub : t.subs, this with
  | [x], _ => exact ⟨x, rfl⟩
 unfold T.right at h
 rw [Bool.and_eq_true] at h
 have h := h.2
 by_cases h1 : t.k = 1
 ·exact .inl h1
 by_cases h2 : t.k = 2
 ·exact .inr (.inl h2)
 by_cases h3 : t.k = 3
 ·exact .inr (.inr (.inl h3))
 by_cases h4 : t.k = 4
 ·exact .inr (.inr (.inr (.inl h4)))
 by_cases h5 : t.k = 5
 ·rw [if_neg h1, if_neg h2, if_neg h3, if_neg h4, if_pos h5] at h
  rw [Bool.and_eq_true, Bool.and_eq_true] at h
  obtain ⟨a, b, _⟩ := h
  unfold bounds at b
  simp at b
  exact .inr (.inr (.inr (.inr (.inl ⟨h5, one a, by omega, by omega, by omega⟩))))
 ·rw [if_neg h1, if_neg h2, if_neg h3, if_neg h4, if_neg h5, Bool.and_eq_true] at h
  exact .inr (.inr (.inr (.inr (.inr ⟨by simpa using h.1, one h.2⟩))))
mutual
def T.er : T → T
 | .node k s0 s1 s2 s3 mn mx _ _ l => .node k s0 s1 s2 s3 mn mx none 0 (erL l)
def erL : List T → List T
 | [] => []
 | t :: l => t.er :: erL l
end
theorem erL_map : ∀ l : List T, erL l = l.map T.er
 | [] => rfl
 | t :: l => by simp only [erL, List.map_cons, erL_map l]
@[simp] theorem er_k (t : T) : t.er.k = t.k := by cases t; rfl
@[simp] theorem er_s0 (t : T) : t.er.s0 = t.s0 := by cases t; rfl
@[simp] theorem er_s1 (t : T) : t.er.s1 = t.s1 := by cases t; rfl
@[simp] theorem er_s2 (t : T) : t.er.s2 = t.s2 := by cases t; rfl
@[simp] theorem er_s3 (t : T) : t.er.s3 = t.s3 := by cases t; rfl
@[simp] theorem er_mn (t : T) : t.er.mn = t.mn := by cases t; rfl
@[simp] theorem er_mx (t : T) : t.er.mx = t.mx := by cases t; rfl
@[simp] theorem er_subs (t : T) : t.er.subs = t.subs.map T.er := by cases t; simp only [T.er, T.subs, erL_map]
mutual
theorem nodes_er : ∀ t : T, t.er.nodes = t.nodes.map T.er
 | .node k s0 s1 s2 s3 mn mx a c l => by
  simp only [T.er, T.nodes, List.map_cons]
  rw [nodesL_er l]
theorem nodesL_er : ∀ l : List T, nodesL (erL l) = (nodesL l).map T.er
 | [] => rfl
 | t :: l => by simp only [erL, nodesL, List.map_append, nodes_er t, nodesL_er l]
end
theorem has_er (t : T) (k : Int) : t.er.has k = t.has k := by
 unfold T.has; rw [er_subs, List.any_map]; congr 1; funext x; simp
theorem right_er (t : T) : t.er.right = t.right := by
 unfold T.right T.setZ
 simp only [has_er, er_k, er_s0, er_s1, er_s2, er_s3, er_mn, er_mx, er_subs, List.length_map]
theorem light_er (t : T) : t.er.light = t.light := by unfold T.light; rw [nodes_er, List.length_map]
theorem all_er (l : List T) : (l.map T.er).all T.right = l.all T.right := by
 rw [List.all_map]; congr 1; funext x; exact right_er x
theorem clean_er (t : T) : t.er.clean = t.clean := by unfold T.clean; rw [light_er, nodes_er, all_er]
theorem good_er (t : T) : t.er.good = t.good := by unfold T.good; rw [nodes_er, all_er]
def T.caps (t : T) : Prop := ∀ x ∈ t.nodes, x.subs.length ≤ x.c
theorem caps_sub {t x : T} (h : t.caps) (hx : x ∈ t.subs) : x.caps := fun y hy => h y (by
 rw [nodes_eq]
 refine List.mem_cons_of_mem _ ?_
 obtain ⟨i, hi⟩ := List.getElem?_of_mem hx
 rw [nodesL_split hi]
 simp [hy])
theorem caps_node {k s0 s1 s2 s3 mn mx : Int} {a : Option Addr} {c : Nat} {l : List T} (h : l.length ≤ c) (hl : ∀ x ∈ l, x.caps) : (T.node k s0 s1 s2 s3 mn mx a c l).caps := by
 intro y hy
 rw [nodes_eq] at hy
 rcases List.mem_cons.1 hy with rfl | hy
 ·exact h
 ·obtain ⟨x, hx, hy⟩ : ∃ x ∈ l, y ∈ x.nodes := by
   have : ∀ l : List T, y ∈ nodesL l → ∃ x ∈ l, y ∈ x.nodes := fun l => by
    induction l with
    | nil => intro h; simp [nodesL] at h
    | cons x l ih =>
     intro h
     simp only [nodesL, List.mem_append] at h
     rcases h with h | h
     ·exact ⟨x, by simp, h⟩
     ·obtain ⟨z, hz, h⟩ := ih h
      exact ⟨z, by simp [hz], h⟩
   exact this l hy
  exact hl x hx y hy
theorem caps_len {t : T} (h : t.caps) : t.subs.length ≤ t.c := h t (by rw [nodes_eq]; simp)
theorem er_node {k s0 s1 s2 s3 mn mx : Int} {a a' : Option Addr} {c c' : Nat} {l l' : List T} (h : l.map T.er = l'.map T.er) : (T.node k s0 s1 s2 s3 mn mx a c l).er = (T.node k s0 s1 s2 s3 mn mx a' c' l').er := by
 simp only [T.er, erL_map, h]
def Chkd (t t' : T) : Prop := ((t.clean = true ∧ t'.er = t.er) ∨ (t.clean = false ∧ t' = T0)) ∧ t'.caps
theorem caps_T0 : T0.caps := caps_node (by simp) (by simp)
theorem caps_T1 : T1.caps := caps_node (by simp) (by simp)
def Join (k : Int) (a : Option Addr) (c : Nat) (u : T) : List T → T → Prop
 | [], t' => t' = u
 | [x], t' => Chkd x t'
 | x :: y :: l, t' => Chkd (nodeT k 0 0 a c (x :: y :: l)) t'
def flat1 (k w : Int) (x : T) : List T := if x.k = k then x.subs else if x.k = w then [] else [x]
def flatL (k w : Int) (L : List T) : List T := (L.map (flat1 k w)).flatten
theorem flatL_snoc (k w : Int) (L : List T) (x : T) : flatL k w (L ++ [x]) = flatL k w L ++ flat1 k w x := by simp [flatL]
theorem flatL_len (k w : Int) : ∀ (L : List T), (∀ x ∈ L, x.subs.length ≤ 10000) → (flatL k w L).length ≤ L.length * 10001
 | [], _ => by simp [flatL]
 | x :: L, h => by
  have ih := flatL_len k w L fun y hy => h y (by simp [hy])
  have hx := h x (by simp)
  have h1 : (flat1 k w x).length ≤ 10001 := by
   unfold flat1
   split
   ·omega
   ·split <;> simp
  have e : (flatL k w (x :: L)).length = (flat1 k w x).length + (flatL k w L).length := by simp [flatL]
  rw [e, List.length_cons]
  omega
theorem clean_k {t : T} (h : t.clean = true) : t.k ≠ 0 := by
 have hg : t.good = true := by
  unfold T.clean at h
  rw [Bool.and_eq_true] at h
  exact h.2
 have := (right_of_good hg).1
 rcases right_k this with h | h | h | h | ⟨h, _⟩ | ⟨h, _⟩ <;> omega
theorem check_clean {t : T} (h : t.check = 0) : t.clean = true := by
 unfold T.check at h
 split at h
 ·cases h
 ·rename_i hc; simpa using hc
theorem clean_light {t : T} (h : t.clean = true) : t.nodes.length ≤ 10000 := by
 unfold T.clean T.light at h
 rw [Bool.and_eq_true] at h
 exact of_decide_eq_true h.1
def Timed (n : T) (lo hi : Int) (t' : T) : Prop :=
 (t' = T0 ∧ bounds lo hi = false) ∨ (t' = T1 ∧ ((lo = 0 ∧ hi = 0) ∨ (n.k = 1 ∧ ((lo = 1 ∧ hi = 1) ∨ bounds lo hi = true)))) ∨ (lo = 1 ∧ hi = 1 ∧ t'.er = n.er) ∨ ∃ a c, Chkd (nodeT 5 lo hi a c [n]) t'
theorem join_caps {k : Int} {a : Option Addr} {c : Nat} {u : T} (hu : u.caps) : ∀ {l : List T} {t' : T}, Join k a c u l t' → t'.caps
 | [], t', h => by
  have h : t' = u := h
  rw [h]; exact hu
 | [x], t', h => h.2
 | x :: y :: l, t', h => h.2
theorem timed_chkd {n t' : T} {lo hi : Int} (h : Timed n lo hi t') (hb : bounds lo hi = true) (hk : n.k ≠ 1) : ∃ a c, Chkd (nodeT 5 lo hi a c [n]) t' := by
 have hb' := hb
 unfold bounds at hb'
 simp only [Bool.and_eq_true, Bool.not_eq_true', Bool.or_eq_false_iff, Bool.or_eq_true, decide_eq_false_iff_not, decide_eq_true_eq, beq_iff_eq, Bool.and_eq_false_iff, beq_eq_false_iff_ne] at hb'
 rcases h with ⟨_, h⟩ | ⟨_, h⟩ | ⟨h1, h2, _⟩ | h
 ·rw [hb] at h; cases h
 ·rcases h with ⟨h1, h2⟩ | ⟨h, _⟩
  ·omega
  ·exact absurd h hk
 ·omega
 ·exact h
end Go.Rx
namespace Go.Rx
open Go Go.Eng Go.RowKit
set_option maxRecDepth 100000
mutual
def T.alts : T → List T
 | .node k s0 s1 s2 s3 mn mx a c l => (if k = 4 then [.node k s0 s1 s2 s3 mn mx a c l] else []) ++ altsL l
def altsL : List T → List T
 | [] => []
 | t :: l => t.alts ++ altsL l
end
theorem alts_eq (t : T) : t.alts = (if t.k = 4 then [t] else []) ++ altsL t.subs := by cases t; rw [T.alts]; rfl
theorem altsL_append (l r : List T) : altsL (l ++ r) = altsL l ++ altsL r := by
 induction l with
 | nil => rfl
 | cons t l ih => simp only [List.cons_append, altsL, ih, List.append_assoc]
theorem altsL_len : ∀ l : List T, (altsL l).length ≤ szL l
 | [] => by simp [altsL]
 | t :: l => by
  have ih := altsL_len l
  rw [altsL, List.length_append, szL_cons]
  have : t.alts.length ≤ t.nodes.length := by
   rw [alts_eq, List.length_append, sz_eq]
   have := altsL_len t.subs
   split <;> simp <;> omega
  omega
termination_by l => SizeOf.sizeOf l
decreasing_by
 all_goals simp_wf
 all_goals cases t; simp [T.subs]; omega
def catE (L : List T) : T := (mkJoin 3 none 0 (flatL 3 1 L)).er
def altE (L : List T) : T := (mkJoin 4 none 0 (flatL 4 0 L)).er
theorem er_er (t : T) : t.er.er = t.er := by
 cases t with
 | node k s0 s1 s2 s3 mn mx a c l =>
  simp only [T.er]
  rw [erL_er l]
where erL_er : ∀ l : List T, erL (erL l) = erL l
 | [] => rfl
 | t :: l => by simp only [erL, er_er t, erL_er l]
def Okk (k : Int) (x : T) : Prop := x.good = true ∧ x.k ≠ k ∧ (k = 3 → x.k ≠ 1)
theorem flat3_ok {x : T} (h : x.good = true) : ∀ y ∈ flat1 3 1 x, Okk 3 y := by
 have hg := h
 rw [good_eq, Bool.and_eq_true, List.all_eq_true] at hg
 intro y hy
 unfold flat1 at hy
 split at hy
 ·rename_i hk
  have hr := hg.1
  unfold T.right at hr
  rw [Bool.and_eq_true] at hr
  have hr := hr.2
  simp only [hk] at hr
  simp at hr
  exact ⟨hg.2 y hy, has_false hr.2.2 y hy, fun _ => has_false hr.2.1 y hy⟩
 ·split at hy
  ·simp at hy
  ·simp at hy; subst hy
   rename_i h1 h2
   exact ⟨h, h1, fun _ => h2⟩
theorem good_k {x : T} (h : x.good = true) : x.k ≠ 0 := by
 have := (right_of_good h).1
 rcases right_k this with h | h | h | h | ⟨h, _⟩ | ⟨h, _⟩ <;> omega
theorem flat4_ok {x : T} (h : x.good = true) : ∀ y ∈ flat1 4 0 x, Okk 4 y := by
 have hg := h
 rw [good_eq, Bool.and_eq_true, List.all_eq_true] at hg
 intro y hy
 unfold flat1 at hy
 split at hy
 ·rename_i hk
  have hr := hg.1
  unfold T.right at hr
  rw [Bool.and_eq_true] at hr
  have hr := hr.2
  simp only [hk] at hr
  simp at hr
  exact ⟨hg.2 y hy, has_false hr.2 y hy, fun h => by omega⟩
 ·split at hy
  ·rename_i h0; exact absurd h0 (good_k h)
  ·simp at hy; subst hy
   rename_i h1 h2
   exact ⟨h, h1, fun h => by omega⟩
theorem flatL_ok {k w : Int} {L : List T} (hf : ∀ x ∈ L, ∀ y ∈ flat1 k w x, Okk k y) : ∀ y ∈ flatL k w L, Okk k y := by
 intro y hy
 simp only [flatL, List.mem_flatten, List.mem_map] at hy
 obtain ⟨_, ⟨x, hx, rfl⟩, hy⟩ := hy
 exact hf x hx y hy
theorem flatL_cons (k w : Int) (x : T) (L : List T) : flatL k w (x :: L) = flat1 k w x ++ flatL k w L := by simp [flatL]
theorem flat1_gr {k w : Int} (hk : k = 3 ∧ w = 1 ∨ k = 4 ∧ w = 0) {x : T} (h : x.good = true) : grL (flat1 k w x) = x.gr := by
 unfold flat1
 split
 ·rename_i h1
  rw [gr_eq, if_neg (by unfold isG; simp; omega)]; omega
 ·split
  ·rename_i h1 h2
   rcases hk with ⟨rfl, rfl⟩ | ⟨rfl, rfl⟩
   ·have hr := (right_of_good h).1
    have : x.subs = [] := by
     unfold T.right at hr
     simp only [h2] at hr
     simp at hr
     simpa using hr.2.2
    rw [gr_eq, this, if_neg (by unfold isG; simp; omega)]; rfl
   ·exact absurd h2 (good_k h)
  ·rw [grL_one]
theorem flat1_sz {k w : Int} {x : T} : szL (flat1 k w x) ≤ x.nodes.length := by
 unfold flat1
 split
 ·rw [sz_eq]; omega
 ·split
  ·simp [szL, nodesL]
  ·rw [szL_one]; exact Nat.le_refl _
theorem flatL_gr {k w : Int} (hk : k = 3 ∧ w = 1 ∨ k = 4 ∧ w = 0) : ∀ {L : List T}, (∀ x ∈ L, x.good = true) → grL (flatL k w L) = grL L
 | [], _ => rfl
 | x :: L, h => by
  rw [flatL_cons, grL_append, flat1_gr hk (h x (by simp)), grL_cons, flatL_gr hk fun y hy => h y (by simp [hy])]
theorem flatL_sz {k w : Int} : ∀ L : List T, szL (flatL k w L) ≤ szL L
 | [] => Nat.le_refl _
 | x :: L => by
  have := flatL_sz (k := k) (w := w) L
  have := flat1_sz (k := k) (w := w) (x := x)
  rw [flatL_cons, szL_append, szL_cons]; omega
theorem mkJoin_gr {k : Int} (hk : k = 3 ∨ k = 4) (a : Option Addr) (c : Nat) : ∀ l : List T, (mkJoin k a c l).gr = grL l
 | [] => rfl
 | [x] => by rw [grL_one]; rfl
 | x :: y :: l => by
  show (nodeT k 0 0 a c (x :: y :: l)).gr = _
  rw [gr_eq, if_neg (by
   unfold isG
   show ¬ (k == 6) = true
   rcases hk with rfl | rfl <;> simp)]
  show 0 + grL (x :: y :: l) = _
  omega
theorem gr_er (t : T) : t.er.gr = t.gr := by
 unfold T.gr
 rw [nodes_er, List.countP_map]
 congr 1
 funext x
 simp [isG]
theorem sz_er (t : T) : t.er.nodes.length = t.nodes.length := by rw [nodes_er, List.length_map]
structure Made (L : List T) (r : T) : Prop where
 good : r.good = true
 sz : r.nodes.length ≤ 1 + szL L
 gr : r.gr = grL L
 er : r.er = r
theorem catE_made {L : List T} (h : ∀ x ∈ L, x.good = true) : Made L (catE L) := by
 have hok := flatL_ok (L := L) fun x hx => flat3_ok (h x hx)
 have hm := mkJoin_ok (.inl rfl) none 0 hok
 refine ⟨by unfold catE; rw [good_er]; exact hm.1, ?_, ?_, er_er _⟩
 ·unfold catE
  rw [sz_er]
  have := flatL_sz (k := 3) (w := 1) L
  omega
 ·unfold catE
  rw [gr_er, mkJoin_gr (.inl rfl), flatL_gr (.inl ⟨rfl, rfl⟩) h]
theorem altE_made {L : List T} (h : ∀ x ∈ L, x.good = true) : Made L (altE L) := by
 have hok := flatL_ok (L := L) fun x hx => flat4_ok (h x hx)
 have hm := mkJoin_ok (.inr rfl) none 0 hok
 refine ⟨by unfold altE; rw [good_er]; exact hm.1, ?_, ?_, er_er _⟩
 ·unfold altE
  rw [sz_er]
  have := flatL_sz (k := 4) (w := 0) L
  omega
 ·unfold altE
  rw [gr_er, mkJoin_gr (.inr rfl), flatL_gr (.inr ⟨rfl, rfl⟩) h]
theorem good_clean {t : T} (h : t.good = true) (hs : t.nodes.length ≤ 10000) : t.clean = true := by
 unfold T.clean T.light
 rw [Bool.and_eq_true]
 exact ⟨decide_eq_true hs, h⟩
theorem clean_good {t : T} (h : t.clean = true) : t.good = true ∧ t.nodes.length ≤ 10000 := by
 unfold T.clean T.light at h
 rw [Bool.and_eq_true] at h
 exact ⟨h.2, of_decide_eq_true h.1⟩
theorem chkd_clean {t t' : T} (h : Chkd t t') (hc : t.clean = true) : t'.er = t.er := by
 rcases h.1 with ⟨_, h⟩ | ⟨h, _⟩
 ·exact h
 ·rw [hc] at h; cases h
theorem join_mk {k : Int} (hk : k = 3 ∨ k = 4) {a : Option Addr} {c : Nat} {u : T} : ∀ {l : List T} {t' : T}, (∀ x ∈ l, Okk k x) → szL l ≤ 9000 → (l = [] → u = T1) → Join k a c u l t' → t'.er = (mkJoin k none 0 l).er
 | [], t', _, _, hu, h => by
  have h : t' = u := h
  rw [h, hu rfl]; rfl
 | [x], t', hl, hs, _, h => by
  rw [szL_one] at hs
  exact chkd_clean h (good_clean (hl x (by simp)).1 (show x.nodes.length ≤ 10000 by omega))
 | x :: y :: l, t', hl, hs, _, h => by
  have hm := mkJoin_ok hk a c hl
  have h : Chkd (nodeT k 0 0 a c (x :: y :: l)) t' := h
  have h2 := hm.2.1
  rw [chkd_clean h (good_clean hm.1 (show (mkJoin k a c (x :: y :: l)).nodes.length ≤ 10000 by omega))]
  rfl
theorem seq_spec {L : List T} {t' : T} {a : Option Addr} {c : Nat} (h : ∀ x ∈ L, x.good = true) (hs : szL L ≤ 9000) (hj : Join 3 a c T1 (flatL 3 1 L) t') : t'.er = catE L :=
 join_mk (.inl rfl) (flatL_ok fun x hx => flat3_ok (h x hx)) (Nat.le_trans (flatL_sz L) hs) (fun _ => rfl) hj
theorem flat4_ne {x : T} (h : x.good = true) : flat1 4 0 x ≠ [] := by
 unfold flat1
 split
 ·rename_i hk
  have hr := (right_of_good h).1
  unfold T.right at hr
  simp only [hk] at hr
  simp at hr
  intro e
  rw [e] at hr
  simp at hr
 ·split
  ·rename_i h0; exact absurd h0 (good_k h)
  ·simp
theorem or_spec {L : List T} {t' : T} {a : Option Addr} {c : Nat} (h : ∀ x ∈ L, x.good = true) (hne : L ≠ []) (hs : szL L ≤ 9000) (hj : Join 4 a c T0 (flatL 4 0 L) t') : t'.er = altE L := by
 refine join_mk (.inr rfl) (flatL_ok fun x hx => flat4_ok (h x hx)) (Nat.le_trans (flatL_sz L) hs) (fun e => ?_) hj
 exfalso
 cases L with
 | nil => exact hne rfl
 | cons x L =>
  rw [flatL_cons] at e
  exact flat4_ne (h x (by simp)) (List.append_eq_nil_iff.1 e).1
def T.isC (t : T) : Bool := t.k == 2
def headT (t : T) : List T := if t.k = 2 then [t] else if t.k = 3 then t.subs.takeWhile T.isC else []
def sameSet (a b : T) : Bool := a.s0 == b.s0 && (a.s1 == b.s1 && (a.s2 == b.s2 && a.s3 == b.s3))
def commonN : List T → List T → Nat
 | a :: l, b :: r => if sameSet a b then commonN l r + 1 else 0
 | _, _ => 0
theorem commonN_le : ∀ l r : List T, commonN l r ≤ l.length ∧ commonN l r ≤ r.length
 | [], r => by simp [commonN]
 | a :: l, [] => by simp [commonN]
 | a :: l, b :: r => by
  have := commonN_le l r
  unfold commonN
  split <;> simp <;> omega
structure C4 where
 a : Nat
 f : Nat
 t : Nat
 n : Nat
deriving DecidableEq
def C4.v (c : C4) : Value := .agg #[.int .i64 (c.a : Nat), .int .i64 (c.f : Nat), .int .i64 (c.t : Nat), .int .i64 (c.n : Nat)]
def runE (n f : Nat) : List T → Nat → List T → List C4
 | _, _, [] => []
 | s, t, x :: r => if commonN s (headT x) = 0 then [] else ⟨n, f, t, commonN s (headT x)⟩ :: runE n f (s.take (commonN s (headT x))) (t + 1) r
def cutsF (n : Nat) : Nat → List T → List C4
 | _, [] => []
 | f, x :: r => runE n f (headT x) (f + 2) r ++ cutsF n (f + 1) r
def cutsL : Nat → List T → List C4
 | _, [] => []
 | n, a :: l => cutsF n 0 a.subs ++ cutsL (n + 1) l
def T.cuts (t : T) : List C4 := cutsL 0 t.alts
def leftE (n : Nat) (x : T) : T := if x.k = 2 then T1 else catE (x.subs.drop n)
def restE : Bool → List T → List T
 | _, [] => []
 | e, x :: r => if x.k ≠ 1 ∨ e = false then x :: restE (e || x.k == 1) r else restE (e || x.k == 1) r
def oneE (subs : List T) (c : C4) : T := catE (((headT (subs[c.f]?.getD T0)).take c.n) ++ [altE (restE false (((subs.take c.t).drop c.f).map (leftE c.n)))])
def cutE (subs : List T) (c : C4) : List T := subs.take c.f ++ oneE subs c :: subs.drop c.t
structure Fit (subs : List T) (c : C4) : Prop where
 two : c.f + 2 ≤ c.t
 le : c.t ≤ subs.length
 pos : 1 ≤ c.n
 head : ∀ i x, c.f ≤ i → i < c.t → subs[i]? = some x → c.n ≤ (headT x).length
theorem headT_good {t : T} (h : t.good = true) : ∀ x ∈ headT t, x.good = true ∧ x.k = 2 := by
 intro x hx
 unfold headT at hx
 split at hx
 ·rename_i hk
  simp at hx; subst hx; exact ⟨h, hk⟩
 ·split at hx
  ·have h1 := List.all_eq_true.1 (List.all_takeWhile (l := t.subs) (p := T.isC)) x hx
   have h2 := (List.takeWhile_sublist _).mem hx
   exact ⟨(right_of_good h).2 x h2, by simpa [T.isC] using h1⟩
  ·simp at hx
theorem class_good {x : T} (h : x.good = true) (hk : x.k = 2) : x.subs = [] ∧ x.nodes.length = 1 ∧ x.gr = 0 := by
 have hr := (right_of_good h).1
 have hs : x.subs = [] := by
  unfold T.right at hr
  simp only [hk] at hr
  simp at hr
  simpa using hr.1.2
 refine ⟨hs, ?_, ?_⟩
 ·rw [sz_eq, hs]; rfl
 ·rw [gr_eq, hs, if_neg (by unfold isG; simp; omega)]; rfl
theorem szL_mem {l : List T} {x : T} (h : x ∈ l) : x.nodes.length ≤ szL l := by
 induction l with
 | nil => simp at h
 | cons y l ih =>
  rw [szL_cons]
  rcases List.mem_cons.1 h with rfl | h
  ·omega
  ·have := ih h; omega
theorem szL_take (l : List T) (n : Nat) : szL (l.take n) + szL (l.drop n) = szL l := by rw [← szL_append, List.take_append_drop]
theorem grL_take (l : List T) (n : Nat) : grL (l.take n) + grL (l.drop n) = grL l := by rw [← grL_append, List.take_append_drop]
theorem szL_class {l : List T} (h : ∀ x ∈ l, x.good = true ∧ x.k = 2) : szL l = l.length ∧ grL l = 0 := by
 induction l with
 | nil => exact ⟨rfl, rfl⟩
 | cons x l ih =>
  have h1 := class_good (h x (by simp)).1 (h x (by simp)).2
  have h2 := ih fun y hy => h y (by simp [hy])
  rw [szL_cons, grL_cons, List.length_cons]; omega
theorem head_take {t : T} (hk : t.k = 3) {n : Nat} (hn : n ≤ (headT t).length) : t.subs.take n = (headT t).take n := by
 unfold headT at *
 rw [if_neg (by omega), if_pos hk] at *
 have h := List.takeWhile_prefix (p := T.isC) (l := t.subs)
 obtain ⟨r, hr⟩ := h
 have e : t.subs.take n = (t.subs.takeWhile T.isC ++ r).take n := by rw [hr]
 rw [e, List.take_append_of_le_length hn]
theorem left_made {t : T} (h : t.good = true) {n : Nat} (hn : n ≤ (headT t).length) (h1 : 1 ≤ n) : (leftE n t).good = true ∧ (leftE n t).nodes.length + n ≤ t.nodes.length + 1 ∧ (leftE n t).gr = t.gr ∧ (leftE n t).er = leftE n t := by
 unfold leftE
 split
 ·rename_i hk
  have hc := class_good h hk
  have hl : (headT t).length = 1 := by unfold headT; rw [if_pos hk]; rfl
  refine ⟨by decide, ?_, by rw [hc.2.2]; decide, rfl⟩
  rw [show T1.nodes.length = 1 by decide]; omega
 ·rename_i hk
  have hk3 : t.k = 3 := by
   unfold headT at hn
   rw [if_neg hk] at hn
   split at hn
   ·assumption
   ·simp at hn; omega
  have hd : ∀ x ∈ t.subs.drop n, x.good = true := fun x hx => (right_of_good h).2 x (List.mem_of_mem_drop hx)
  have hm := catE_made hd
  have ht := szL_take t.subs n
  have hg := grL_take t.subs n
  rw [head_take hk3 hn] at ht hg
  have hcl := szL_class (l := (headT t).take n) fun x hx => headT_good h x (List.mem_of_mem_take hx)
  rw [List.length_take, Nat.min_eq_left hn] at hcl
  refine ⟨hm.good, ?_, ?_, hm.er⟩
  ·have := hm.sz
   rw [sz_eq t]; omega
  ·rw [hm.gr, gr_eq t, if_neg (by unfold isG; simp; omega)]; omega
theorem restE_mem : ∀ {e : Bool} {l : List T} {x : T}, x ∈ restE e l → x ∈ l
 | _, [], _, h => by simp [restE] at h
 | e, y :: l, x, h => by
  unfold restE at h
  split at h
  ·rcases List.mem_cons.1 h with rfl | h
   ·simp
   ·simp [restE_mem h]
  ·simp [restE_mem h]
theorem empty_good {x : T} (h : x.good = true) (hk : x.k = 1) : x.gr = 0 ∧ x.nodes.length = 1 := by
 have hr := (right_of_good h).1
 have hs : x.subs = [] := by
  unfold T.right at hr
  simp only [hk] at hr
  simp at hr
  simpa using hr.2.2
 exact ⟨by rw [gr_eq, hs, if_neg (by unfold isG; simp; omega)]; rfl, by rw [sz_eq, hs]; rfl⟩
theorem restE_gr : ∀ {e : Bool} {l : List T}, (∀ x ∈ l, x.good = true) → grL (restE e l) = grL l ∧ szL (restE e l) ≤ szL l
 | _, [], _ => ⟨rfl, Nat.le_refl _⟩
 | e, x :: l, h => by
  have ih := restE_gr (e := e || x.k == 1) (l := l) fun y hy => h y (by simp [hy])
  unfold restE
  split
  ·rw [grL_cons, szL_cons, grL_cons, szL_cons]; omega
  ·rename_i hn
   have hk : x.k = 1 := by
    apply Classical.byContradiction
    intro hk; exact hn (.inl hk)
   have := empty_good (h x (by simp)) hk
   rw [grL_cons, szL_cons]; omega
theorem restE_ne {e : Bool} {x : T} {l : List T} (h : e = false) : restE e (x :: l) ≠ [] := by
 unfold restE
 rw [if_pos (.inr h)]
 simp
theorem alts_sub : ∀ (t x : T), x ∈ t.alts → x ∈ t.nodes ∧ x.k = 4
 | .node k s0 s1 s2 s3 mn mx a c l, x, h => by
  have hal := altsL_sub l
  simp only [T.alts, List.mem_append] at h
  simp only [T.nodes, List.mem_cons]
  rcases h with h | h
  ·split at h
   ·rename_i hk
    simp at h; subst h; exact ⟨.inl rfl, hk⟩
   ·simp at h
  ·exact ⟨.inr (hal x h).1, (hal x h).2⟩
where altsL_sub : ∀ (l : List T) (x : T), x ∈ altsL l → x ∈ nodesL l ∧ x.k = 4
 | [], x, h => by simp [altsL] at h
 | t :: l, x, h => by
  simp only [altsL, List.mem_append] at h
  simp only [nodesL, List.mem_append]
  rcases h with h | h
  ·exact ⟨.inl (alts_sub t x h).1, (alts_sub t x h).2⟩
  ·exact ⟨.inr (altsL_sub l x h).1, (altsL_sub l x h).2⟩
theorem drop_step {α : Type} {xs : List α} {y : Nat} {v : α} {r : List α} (h : xs.drop y = v :: r) : xs[y]? = some v ∧ xs.drop (y + 1) = r := by
 have h1 := congrArg (fun l => l[0]?) h
 have h2 := congrArg (List.drop 1) h
 simp at h1 h2
 exact ⟨h1, by rw [Nat.add_comm] at h2; simpa [Nat.add_comm] using h2⟩
theorem alts_len (t : T) : t.alts.length ≤ t.nodes.length := by
 rw [alts_eq, List.length_append, sz_eq]
 have := altsL_len t.subs
 split <;> simp <;> omega
mutual
theorem caps_in : ∀ (t : T), t.caps → ∀ x ∈ t.nodes, x.caps
 | .node k s0 s1 s2 s3 mn mx a c l, h, x, hx => by
  have hl := capsL_in l (fun y hy => caps_sub h hy)
  simp only [T.nodes, List.mem_cons] at hx
  rcases hx with rfl | hx
  ·exact h
  ·exact hl x hx
theorem capsL_in : ∀ (l : List T), (∀ y ∈ l, y.caps) → ∀ x ∈ nodesL l, x.caps
 | [], _, x, hx => by simp [nodesL] at hx
 | t :: l, h, x, hx => by
  simp only [nodesL, List.mem_append] at hx
  rcases hx with hx | hx
  ·exact caps_in t (h t (by simp)) x hx
  ·exact capsL_in l (fun y hy => h y (by simp [hy])) x hx
end
theorem caps_nodes {t x : T} (h : t.caps) (hx : x ∈ t.nodes) : x.caps := caps_in t h x hx
end Go.Rx
namespace Go.Rx
open Go Go.Eng Go.RowKit
set_option maxRecDepth 100000
theorem seg_mem {subs : List T} {f t : Nat} {x : T} (h : x ∈ (subs.take t).drop f) : ∃ i, f ≤ i ∧ i < t ∧ subs[i]? = some x := by
 obtain ⟨j, hj⟩ := List.getElem?_of_mem h
 rw [List.getElem?_drop] at hj
 have h2 := (List.getElem?_eq_some_iff.1 hj).1
 rw [List.length_take] at h2
 rw [List.getElem?_take_of_lt (by omega)] at hj
 exact ⟨f + j, by omega, by omega, hj⟩
theorem seg_split (subs : List T) {f t : Nat} (h : f ≤ t) : subs.take f ++ ((subs.take t).drop f ++ subs.drop t) = subs := by
 rw [← List.append_assoc]
 have : subs.take f ++ (subs.take t).drop f = subs.take t := by
  have h1 := List.take_append_drop f (subs.take t)
  rw [List.take_take, Nat.min_eq_left h] at h1
  exact h1
 rw [this, List.take_append_drop]
theorem lefts_made {n : Nat} (h1 : 1 ≤ n) : ∀ {l : List T}, (∀ x ∈ l, x.good = true ∧ n ≤ (headT x).length) → (∀ y ∈ l.map (leftE n), y.good = true ∧ y.er = y) ∧ szL (l.map (leftE n)) ≤ szL l ∧ grL (l.map (leftE n)) = grL l
 | [], _ => ⟨by simp, Nat.le_refl _, rfl⟩
 | x :: l, h => by
  have ih := lefts_made h1 (l := l) fun y hy => h y (by simp [hy])
  have hx := left_made (h x (by simp)).1 (h x (by simp)).2 h1
  refine ⟨fun y hy => ?_, ?_, ?_⟩
  ·rcases List.mem_cons.1 hy with rfl | hy
   ·exact ⟨hx.1, hx.2.2.2⟩
   ·exact ih.1 y hy
  ·rw [List.map_cons, szL_cons, szL_cons]; omega
  ·rw [List.map_cons, grL_cons, grL_cons]; omega
theorem flat_class {l : List T} (h : ∀ x ∈ l, x.k = 2) : flatL 3 1 l = l := by
 induction l with
 | nil => rfl
 | cons x l ih =>
  rw [flatL_cons, ih fun y hy => h y (by simp [hy])]
  have : flat1 3 1 x = [x] := by unfold flat1; rw [if_neg (by rw [h x (by simp)]; omega), if_neg (by rw [h x (by simp)]; omega)]
  rw [this]; rfl
theorem flatL_append (k w : Int) (l r : List T) : flatL k w (l ++ r) = flatL k w l ++ flatL k w r := by simp [flatL]
theorem mkJoin_k {k : Int} {a : Option Addr} {c : Nat} : ∀ {l : List T}, 2 ≤ l.length → (mkJoin k a c l).k = k
 | [], h => by simp at h
 | [x], h => by simp at h
 | x :: y :: l, _ => rfl
structure OneOk (seg : List T) (n : Nat) (r : T) : Prop where
 good : r.good = true
 sz : r.nodes.length ≤ 2 + n + szL seg
 gr : r.gr = grL seg
 er : r.er = r
 k : r.k = 2 ∨ r.k = 3
theorem oneE_ok {subs : List T} {c : C4} (hg : ∀ x ∈ subs, x.good = true) (hf : Fit subs c) : OneOk ((subs.take c.t).drop c.f) c.n (oneE subs c) := by
 obtain ⟨x0, hx0⟩ : ∃ x, subs[c.f]? = some x := ⟨_, List.getElem?_eq_getElem (by have := hf.two; have := hf.le; omega)⟩
 have hg0 := hg x0 (List.mem_of_getElem? hx0)
 have hn0 := hf.head c.f x0 (Nat.le_refl _) (by have := hf.two; omega) hx0
 have hseg : ∀ x ∈ (subs.take c.t).drop c.f, x.good = true ∧ c.n ≤ (headT x).length := fun x hx => by
  obtain ⟨i, h1, h2, h3⟩ := seg_mem hx
  exact ⟨hg x (List.mem_of_getElem? h3), hf.head i x h1 h2 h3⟩
 have hl := lefts_made hf.pos hseg
 have hr := restE_gr (e := false) fun x hx => (hl.1 x hx).1
 have hrg : ∀ y ∈ restE false (((subs.take c.t).drop c.f).map (leftE c.n)), y.good = true := fun y hy => (hl.1 y (restE_mem hy)).1
 have ha := altE_made hrg
 have hcl : ∀ x ∈ (headT x0).take c.n, x.good = true ∧ x.k = 2 := fun x hx => headT_good hg0 x (List.mem_of_mem_take hx)
 have hc2 := szL_class hcl
 rw [List.length_take, Nat.min_eq_left hn0] at hc2
 unfold oneE
 rw [hx0]
 simp only [Option.getD_some]
 have hall : ∀ x ∈ (headT x0).take c.n ++ [altE (restE false (((subs.take c.t).drop c.f).map (leftE c.n)))], x.good = true := fun x hx => by
  rcases List.mem_append.1 hx with hx | hx
  ·exact (hcl x hx).1
  ·rw [List.mem_singleton] at hx; subst hx; exact ha.good
 have hm := catE_made hall
 refine ⟨hm.good, ?_, ?_, hm.er, ?_⟩
 ·have h1 := hm.sz
  have h2 := ha.sz
  rw [szL_append, szL_one] at h1
  omega
 ·rw [hm.gr, grL_append, grL_one, ha.gr]; omega
 ·unfold catE
  rw [er_k, flatL_append, flat_class fun x hx => (hcl x hx).2]
  have hlen : ((headT x0).take c.n).length = c.n := by rw [List.length_take, Nat.min_eq_left hn0]
  by_cases h2 : 2 ≤ ((headT x0).take c.n ++ flatL 3 1 [altE (restE false (((subs.take c.t).drop c.f).map (leftE c.n)))]).length
  ·exact .inr (mkJoin_k h2)
  ·have hp := hf.pos
   rw [List.length_append, hlen] at h2
   have h3 : flatL 3 1 [altE (restE false (((subs.take c.t).drop c.f).map (leftE c.n)))] = [] := List.eq_nil_of_length_eq_zero (by omega)
   rw [h3, List.append_nil]
   match hq : (headT x0).take c.n with
   | [] => rw [hq] at hlen; simp at hlen; omega
   | [y] => exact .inl (hcl y (by rw [hq]; simp)).2
   | y :: z :: r => rw [hq] at hlen; simp at hlen; omega
structure CutOk (subs : List T) (L : List T) : Prop where
 good : ∀ x ∈ L, x.good = true
 sz : szL L ≤ 3 + 2 * szL subs
 gr : grL L = grL subs
 ne : L ≠ []
 k : ∀ x ∈ L, x.k ≠ 1 ∨ x ∈ subs
theorem headT_len (t : T) : (headT t).length ≤ t.nodes.length := by
 unfold headT
 split
 ·rw [sz_eq]; simp
 ·split
  ·have := (List.takeWhile_sublist T.isC (l := t.subs)).length_le
   have := len_szL t.subs
   rw [sz_eq]; omega
  ·simp
theorem cutE_ok {subs : List T} {c : C4} (hg : ∀ x ∈ subs, x.good = true) (hf : Fit subs c) : CutOk subs (cutE subs c) := by
 have ho := oneE_ok hg hf
 have hft : c.f ≤ c.t := by have := hf.two; omega
 have hs := seg_split subs hft
 have hsz : szL (subs.take c.f) + (szL ((subs.take c.t).drop c.f) + szL (subs.drop c.t)) = szL subs := by rw [← szL_append, ← szL_append, hs]
 have hgr : grL (subs.take c.f) + (grL ((subs.take c.t).drop c.f) + grL (subs.drop c.t)) = grL subs := by rw [← grL_append, ← grL_append, hs]
 have hn : c.n ≤ szL subs := by
  obtain ⟨x0, hx0⟩ : ∃ x, subs[c.f]? = some x := ⟨_, List.getElem?_eq_getElem (by have := hf.two; have := hf.le; omega)⟩
  have h1 := hf.head c.f x0 (Nat.le_refl _) (by have := hf.two; omega) hx0
  have h2 := szL_mem (List.mem_of_getElem? hx0)
  have := headT_len x0
  omega
 unfold cutE
 refine ⟨fun x hx => ?_, ?_, ?_, by simp, fun x hx => ?_⟩
 ·rcases List.mem_append.1 hx with hx | hx
  ·exact hg x (List.mem_of_mem_take hx)
  ·rcases List.mem_cons.1 hx with rfl | hx
   ·exact ho.good
   ·exact hg x (List.mem_of_mem_drop hx)
 ·have := ho.sz
  rw [szL_append, szL_cons]
  omega
 ·have := ho.gr
  rw [grL_append, grL_cons]; omega
 ·rcases List.mem_append.1 hx with hx | hx
  ·exact .inr (List.mem_of_mem_take hx)
  ·rcases List.mem_cons.1 hx with rfl | hx
   ·left; rcases ho.k with h | h <;> omega
   ·exact .inr (List.mem_of_mem_drop hx)
mutual
def T.cutAt (c : C4) : T → Nat → T × Nat
 | .node k s0 s1 s2 s3 mn mx a cc l, n =>
  if k = 4 ∧ n = c.a then (altE (cutE l c), n + 1 + (altsL (cutE l c)).length)
  else (if k = 3 then catE (cutAtL c l (if k = 4 then n + 1 else n)).1 else if k = 4 then altE (cutAtL c l (if k = 4 then n + 1 else n)).1 else .node k s0 s1 s2 s3 mn mx none 0 (cutAtL c l (if k = 4 then n + 1 else n)).1, (cutAtL c l (if k = 4 then n + 1 else n)).2)
def cutAtL (c : C4) : List T → Nat → List T × Nat
 | [], n => ([], n)
 | t :: l, n => ((t.cutAt c n).1 :: (cutAtL c l (t.cutAt c n).2).1, (cutAtL c l (t.cutAt c n).2).2)
end
def T.built (t : T) (L : List T) : T := if t.k = 3 then catE L else if t.k = 4 then altE L else .node t.k t.s0 t.s1 t.s2 t.s3 t.mn t.mx none 0 L
theorem cutAt_here {c : C4} {t : T} {n : Nat} (hk : t.k = 4) (hn : n = c.a) : t.cutAt c n = (altE (cutE t.subs c), n + 1 + (altsL (cutE t.subs c)).length) := by
 cases t
 simp only [T.k] at hk
 rw [T.cutAt, if_pos ⟨hk, hn⟩]; rfl
theorem cutAt_other {c : C4} {t : T} {n : Nat} (h : ¬ (t.k = 4 ∧ n = c.a)) : t.cutAt c n = (t.built (cutAtL c t.subs (if t.k = 4 then n + 1 else n)).1, (cutAtL c t.subs (if t.k = 4 then n + 1 else n)).2) := by
 cases t
 rw [T.cutAt]; exact if_neg h
theorem map_er {l : List T} (h : ∀ x ∈ l, x.er = x) : l.map T.er = l := by
 induction l with
 | nil => rfl
 | cons x l ih => rw [List.map_cons, h x (by simp), ih fun y hy => h y (by simp [hy])]
theorem flat_self {k w : Int} {l : List T} (h : ∀ x ∈ l, x.k ≠ k ∧ x.k ≠ w) : flatL k w l = l := by
 induction l with
 | nil => rfl
 | cons x l ih =>
  rw [flatL_cons, ih fun y hy => h y (by simp [hy])]
  have : flat1 k w x = [x] := by unfold flat1; rw [if_neg (h x (by simp)).1, if_neg (h x (by simp)).2]
  rw [this]; rfl
theorem built_self {t : T} (h : t.good = true) : t.built (t.subs.map T.er) = t.er := by
 have hr := (right_of_good h).1
 have hs := (right_of_good h).2
 unfold T.built
 have hsub : ∀ x ∈ t.subs.map T.er, ∃ y ∈ t.subs, x.k = y.k := fun x hx => by
  obtain ⟨y, hy, rfl⟩ := List.mem_map.1 hx
  exact ⟨y, hy, er_k y⟩
 split
 ·rename_i hk
  unfold T.right at hr
  rw [Bool.and_eq_true] at hr
  have hz := hr.1
  have hr := hr.2
  simp only [hk] at hr hz
  simp at hr hz
  unfold catE
  rw [flat_self fun x hx => by
   obtain ⟨y, hy, e⟩ := hsub x hx
   rw [e]
   exact ⟨has_false hr.2.2 y hy, has_false hr.2.1 y hy⟩]
  unfold T.setZ at hz
  cases t with
  | node k s0 s1 s2 s3 mn mx a c l =>
   simp only [T.k, T.subs, T.s0, T.s1, T.s2, T.s3, T.mn, T.mx] at *
   simp at hz
   obtain ⟨⟨⟨⟨rfl, rfl⟩, rfl⟩, rfl⟩, rfl, rfl⟩ := hz
   subst hk
   match l, hr with
   | x :: y :: l, _ => simp only [List.map_cons, mkJoin, nodeT, T.er, erL, er_er, erL_map, List.map_map]; congr 3; exact List.map_congr_left fun z _ => er_er z
 ·split
  ·rename_i hk
   unfold T.right at hr
   rw [Bool.and_eq_true] at hr
   have hz := hr.1
   have hr := hr.2
   simp only [hk] at hr hz
   simp at hr hz
   unfold altE
   rw [flat_self fun x hx => by
    obtain ⟨y, hy, e⟩ := hsub x hx
    rw [e]
    exact ⟨has_false hr.2 y hy, good_k (hs y hy)⟩]
   unfold T.setZ at hz
   cases t with
   | node k s0 s1 s2 s3 mn mx a c l =>
    simp only [T.k, T.subs, T.s0, T.s1, T.s2, T.s3, T.mn, T.mx] at *
    simp at hz
    obtain ⟨⟨⟨⟨rfl, rfl⟩, rfl⟩, rfl⟩, rfl, rfl⟩ := hz
    subst hk
    match l, hr with
    | x :: y :: l, _ => simp only [List.map_cons, mkJoin, nodeT, T.er, erL, er_er, erL_map, List.map_map]; congr 3; exact List.map_congr_left fun z _ => er_er z
  ·cases t; simp only [T.er, erL_map, T.k, T.s0, T.s1, T.s2, T.s3, T.mn, T.mx, T.subs]
mutual
theorem cutAt_past {c : C4} : ∀ (t : T) (n : Nat), t.good = true → c.a < n → t.cutAt c n = (t.er, n + t.alts.length)
 | .node k s0 s1 s2 s3 mn mx a cc l, n, hg, hn => by
  have hs := (right_of_good hg).2
  rw [cutAt_other (c := c) (by omega)]
  have h1 := cutAtL_past (c := c) l (if k = 4 then n + 1 else n) hs (by split <;> omega)
  show ((T.node k s0 s1 s2 s3 mn mx a cc l).built (cutAtL c l (if k = 4 then n + 1 else n)).1, (cutAtL c l (if k = 4 then n + 1 else n)).2) = _
  rw [h1]
  have h2 := built_self hg
  have e : (T.node k s0 s1 s2 s3 mn mx a cc l).subs = l := rfl
  rw [e] at h2
  rw [h2, alts_eq, e, List.length_append]
  show (_, (if k = 4 then n + 1 else n) + (altsL l).length) = (_, n + ((if k = 4 then _ else _ : List T).length + _))
  congr 1
  split <;> simp <;> omega
theorem cutAtL_past {c : C4} : ∀ (l : List T) (n : Nat), (∀ x ∈ l, x.good = true) → c.a < n → cutAtL c l n = (l.map T.er, n + (altsL l).length)
 | [], n, _, _ => rfl
 | t :: l, n, hg, hn => by
  rw [cutAtL, cutAt_past t n (hg t (by simp)) hn]
  simp only []
  rw [cutAtL_past l (n + t.alts.length) (fun x hx => hg x (by simp [hx])) (by omega)]
  simp only [List.map_cons, altsL, List.length_append]
  rw [Nat.add_assoc]
end
theorem flat1_er (k w : Int) (x : T) : (flat1 k w x).map T.er = flat1 k w x.er := by
 unfold flat1
 rw [er_k]
 split
 ·rw [er_subs]
 ·split <;> rfl
theorem flatL_er (k w : Int) : ∀ L : List T, (flatL k w L).map T.er = flatL k w (L.map T.er)
 | [] => rfl
 | x :: L => by rw [flatL_cons, List.map_append, flat1_er, flatL_er k w L, List.map_cons, flatL_cons]
theorem mkJoin_er (k : Int) : ∀ l : List T, (mkJoin k none 0 l).er = (mkJoin k none 0 (l.map T.er)).er
 | [] => rfl
 | [x] => by show x.er = x.er.er; rw [er_er]
 | x :: y :: l => by
  show (nodeT k 0 0 none 0 (x :: y :: l)).er = (nodeT k 0 0 none 0 ((x :: y :: l).map T.er)).er
  refine er_node ?_
  rw [List.map_map]
  exact List.map_congr_left fun z _ => (er_er z).symm
theorem catE_er (L : List T) : catE L = catE (L.map T.er) := by unfold catE; rw [mkJoin_er, flatL_er]
theorem altE_er (L : List T) : altE L = altE (L.map T.er) := by unfold altE; rw [mkJoin_er, flatL_er]
theorem catE_congr {L L' : List T} (h : L.map T.er = L'.map T.er) : catE L = catE L' := by rw [catE_er L, h, ← catE_er]
theorem altE_congr {L L' : List T} (h : L.map T.er = L'.map T.er) : altE L = altE L' := by rw [altE_er L, h, ← altE_er]
theorem restE_snoc (x : T) : ∀ (e : Bool) (l : List T), restE e (l ++ [x]) = restE e l ++ (if x.k ≠ 1 ∨ (e || l.any fun y => y.k == 1) = false then [x] else [])
 | e, [] => by
  simp only [List.nil_append, restE, List.any_nil, Bool.or_false]
 | e, y :: l => by
  rw [List.cons_append, restE, restE, restE_snoc x _ l, List.any_cons, ← Bool.or_assoc]
  split <;> simp
theorem good_of_er {x y : T} (h : x.er = y) (hg : y.good = true) : x.good = true := by rw [← good_er, h]; exact hg
theorem sz_of_er {x y : T} (h : x.er = y) : x.nodes.length = y.nodes.length := by rw [← sz_er, h]
theorem szL_of_er : ∀ {l l' : List T}, l.map T.er = l'.map T.er → szL l = szL l'
 | [], [], _ => rfl
 | [], _ :: _, h => by simp at h
 | _ :: _, [], h => by simp at h
 | x :: l, y :: l', h => by
  simp only [List.map_cons, List.cons.injEq] at h
  rw [szL_cons, szL_cons, szL_of_er h.2, ← sz_er x, h.1, sz_er]
mutual
theorem cutAt_cnt {c : C4} : ∀ (t : T) (n : Nat), (t.cutAt c n).2 = n + t.alts.length ∨ c.a < (t.cutAt c n).2
 | .node k s0 s1 s2 s3 mn mx a cc l, n => by
  have hl := cutAtL_cnt (c := c) l (if k = 4 then n + 1 else n)
  by_cases h : (T.node k s0 s1 s2 s3 mn mx a cc l).k = 4 ∧ n = c.a
  ·rw [cutAt_here h.1 h.2]
   right
   show c.a < n + 1 + _
   omega
  ·rw [cutAt_other h]
   show (cutAtL c l (if k = 4 then n + 1 else n)).2 = _ ∨ c.a < (cutAtL c l (if k = 4 then n + 1 else n)).2
   rcases hl with hl | hl
   ·left
    rw [hl, alts_eq, List.length_append]
    show (if k = 4 then n + 1 else n) + (altsL l).length = n + ((if k = 4 then _ else _ : List T).length + (altsL l).length)
    split <;> simp <;> omega
   ·exact .inr hl
theorem cutAtL_cnt {c : C4} : ∀ (l : List T) (n : Nat), (cutAtL c l n).2 = n + (altsL l).length ∨ c.a < (cutAtL c l n).2
 | [], n => .inl rfl
 | t :: l, n => by
  have h1 := cutAt_cnt (c := c) t n
  have h2 := cutAtL_cnt (c := c) l (t.cutAt c n).2
  rw [cutAtL]
  simp only [altsL, List.length_append]
  rcases h2 with h2 | h2
  ·rcases h1 with h1 | h1
   ·left; rw [h2, h1]; omega
   ·right; rw [h2]; omega
  ·exact .inr h2
end
def FitAt (c : C4) (l : List T) (n : Nat) : Prop := ∀ i al, l[i]? = some al → n + i = c.a → Fit al.subs c
theorem fitAt_sub {c : C4} {t : T} {n : Nat} (h : FitAt c t.alts n) : FitAt c (altsL t.subs) (if t.k = 4 then n + 1 else n) := by
 intro i al hi hn
 rw [alts_eq] at h
 split at hn
 ·rename_i hk
  rw [if_pos hk] at h
  exact h (i + 1) al (by simpa using hi) (by omega)
 ·rename_i hk
  rw [if_neg hk] at h
  exact h i al (by simpa using hi) hn
theorem fitAt_head {c : C4} {t : T} {l : List T} {n : Nat} (h : FitAt c (altsL (t :: l)) n) : FitAt c t.alts n := fun i al hi hn => h i al (by
 rw [altsL, List.getElem?_append_left (List.getElem?_eq_some_iff.1 hi).1]; exact hi) hn
theorem fitAt_tail {c : C4} {t : T} {l : List T} {n : Nat} (h : FitAt c (altsL (t :: l)) n) : FitAt c (altsL l) (t.cutAt c n).2 := fun i al hi hn => by
 rcases cutAt_cnt (c := c) t n with h1 | h1
 ·exact h (t.alts.length + i) al (by rw [altsL, List.getElem?_append_right (by omega)]; simpa using hi) (by omega)
 ·omega
theorem fitAt_here {c : C4} {t : T} {n : Nat} (h : FitAt c t.alts n) (hk : t.k = 4) (hn : n = c.a) : Fit t.subs c := h 0 t (by rw [alts_eq, if_pos hk]; rfl) (by omega)
structure AtOk (t r : T) : Prop where
 good : r.good = true
 sz : r.nodes.length ≤ 3 * t.nodes.length
 gr : r.gr = t.gr
 er : r.er = r
 k : t.k ≠ 1 → r.k ≠ 1
theorem flat_len {k w : Int} (hw : ∀ x : T, x.good = true → x.k ≠ w → flat1 k w x ≠ []) : ∀ {L : List T}, (∀ x ∈ L, x.good = true ∧ x.k ≠ w) → L.length ≤ (flatL k w L).length
 | [], _ => Nat.zero_le _
 | x :: L, h => by
  have ih := flat_len hw (L := L) fun y hy => h y (by simp [hy])
  have h1 := hw x (h x (by simp)).1 (h x (by simp)).2
  have h2 : 1 ≤ (flat1 k w x).length := by
   cases hq : flat1 k w x with
   | nil => exact absurd hq h1
   | cons y r => simp
  rw [flatL_cons, List.length_append, List.length_cons]; omega
theorem flat3_ne {x : T} (h : x.good = true) (hk : x.k ≠ 1) : flat1 3 1 x ≠ [] := by
 unfold flat1
 split
 ·rename_i hk3
  have hr := (right_of_good h).1
  unfold T.right at hr
  simp only [hk3] at hr
  simp at hr
  intro e
  rw [e] at hr
  simp at hr
 ·simp [hk]
theorem catE_k {L : List T} (h : ∀ x ∈ L, x.good = true ∧ x.k ≠ 1) (h2 : 2 ≤ L.length) : (catE L).k = 3 := by
 unfold catE
 rw [er_k]
 exact mkJoin_k (Nat.le_trans h2 (flat_len (fun x hx hk => flat3_ne hx hk) h))
theorem altE_k {L : List T} (h : ∀ x ∈ L, x.good = true) (h2 : 2 ≤ L.length) : (altE L).k = 4 := by
 unfold altE
 rw [er_k]
 exact mkJoin_k (Nat.le_trans h2 (flat_len (fun x hx _ => flat4_ne hx) fun x hx => ⟨h x hx, good_k (h x hx)⟩))
theorem cutE_k {subs : List T} {c : C4} (hg : ∀ x ∈ subs, x.good = true) (hf : Fit subs c) : (altE (cutE subs c)).k ≠ 1 := by
 have ho := cutE_ok hg hf
 by_cases h2 : 2 ≤ (cutE subs c).length
 ·rw [altE_k ho.good h2]; omega
 ·have h1 := oneE_ok hg hf
  unfold cutE at h2 ⊢
  rw [List.length_append, List.length_cons] at h2
  have e1 : subs.take c.f = [] := List.eq_nil_of_length_eq_zero (by omega)
  have e2 : subs.drop c.t = [] := List.eq_nil_of_length_eq_zero (by omega)
  rw [e1, e2, List.nil_append]
  unfold altE
  rw [er_k]
  have : flatL 4 0 [oneE subs c] = [oneE subs c] := flat_self fun x hx => by
   rw [List.mem_singleton] at hx; subst hx
   rcases h1.k with h | h <;> omega
  rw [this]
  show (oneE subs c).k ≠ 1
  rcases h1.k with h | h <;> omega
theorem right_subs {t : T} (h : t.good = true) : (t.k = 3 → 2 ≤ t.subs.length ∧ ∀ x ∈ t.subs, x.k ≠ 1) ∧ (t.k = 4 → 2 ≤ t.subs.length) ∧ (t.k = 5 → (∃ x, t.subs = [x] ∧ x.k ≠ 1) ∧ bounds t.mn t.mx = true) ∧ (t.k = 6 → ∃ x, t.subs = [x]) ∧ (t.k = 1 ∨ t.k = 2 → t.subs = []) ∧ (t.k ≠ 2 → t.s0 = 0 ∧ t.s1 = 0 ∧ t.s2 = 0 ∧ t.s3 = 0) ∧ (t.k ≠ 5 → t.mn = 0 ∧ t.mx = 0) := by
 have hr := (right_of_good h).1
 have hk := right_k hr
 unfold T.right at hr
 rw [Bool.and_eq_true] at hr
 obtain ⟨hr1, hr2⟩ := hr
 have one : ∀ {l : List T}, l.length = 1 → ∃ x, l = [x] := fun {l} e => by
  match l, e with
  | [x], _ => exact ⟨x, rfl⟩
 refine ⟨fun e => ?_, fun e => ?_, fun e => ?_, fun e => ?_, fun e => ?_, fun e => ?_, fun e => ?_⟩
 ·simp only [e] at hr2; simp at hr2
  exact ⟨hr2.1, has_false hr2.2.1⟩
 ·simp only [e] at hr2; simp at hr2
  exact hr2.1
 ·simp only [e] at hr2; simp at hr2
  obtain ⟨x, hx⟩ := one hr2.1
  exact ⟨⟨x, hx, has_false hr2.2.2 x (by rw [hx]; simp)⟩, hr2.2.1⟩
 ·simp only [e] at hr2; simp at hr2
  exact one hr2
 ·have : t.k < 3 := by rcases e with e | e <;> omega
  simp [this] at hr1
  cases hq : t.subs with
  | nil => rfl
  | cons x l => rw [hq] at hr1; simp at hr1
 ·unfold T.setZ at hr1
  have e' : (t.k == 2) = false := by simpa using e
  simp [e'] at hr1
  have := hr1.1
  simp [e] at this
  omega
 ·simp at hr1
  rcases hr1.2.1 with h | h
  ·exact absurd h e
  ·exact h
theorem built_ok {t : T} {L : List T} (ht : t.good = true) (hl : L.length = t.subs.length) (hg : ∀ x ∈ L, x.good = true ∧ x.er = x) (hsz : szL L ≤ 3 * szL t.subs) (hgr : grL L = grL t.subs) (hk : (∀ x ∈ t.subs, x.k ≠ 1) → ∀ x ∈ L, x.k ≠ 1) : AtOk t (t.built L) := by
 have hs := right_subs ht
 have hkk := right_k (right_of_good ht).1
 have hzt := sz_eq t
 have hgt := gr_eq t
 unfold T.built
 split
 ·rename_i h3
  have hm := catE_made fun x hx => (hg x hx).1
  have h1 := hs.1 h3
  refine ⟨hm.good, by have := hm.sz; omega, ?_, hm.er, fun _ => ?_⟩
  ·rw [hm.gr, hgr, hgt, if_neg (by unfold isG; simp; omega)]; omega
  ·rw [catE_k (fun x hx => ⟨(hg x hx).1, hk h1.2 x hx⟩) (by omega)]; omega
 ·split
  ·rename_i h4
   have hm := altE_made fun x hx => (hg x hx).1
   have h1 := hs.2.1 h4
   refine ⟨hm.good, by have := hm.sz; omega, ?_, hm.er, fun _ => ?_⟩
   ·rw [hm.gr, hgr, hgt, if_neg (by unfold isG; simp; omega)]; omega
   ·rw [altE_k (fun x hx => (hg x hx).1) (by omega)]; omega
  ·rename_i h3 h4
   have hnode : ∀ r : T, r = .node t.k t.s0 t.s1 t.s2 t.s3 t.mn t.mx none 0 L → r.right = true → AtOk t r := fun r hr hrr => by
    subst hr
    refine ⟨?_, ?_, ?_, ?_, fun h => h⟩
    ·rw [good_eq, hrr]
     show (true && L.all T.good) = true
     rw [Bool.true_and, List.all_eq_true]
     exact fun x hx => (hg x hx).1
    ·rw [sz_eq]
     show 1 + szL L ≤ _
     omega
    ·rw [gr_eq, hgt]
     show (if isG (.node t.k t.s0 t.s1 t.s2 t.s3 t.mn t.mx none 0 L) = true then 1 else 0) + grL L = _
     rw [hgr]; rfl
    ·show T.node t.k t.s0 t.s1 t.s2 t.s3 t.mn t.mx none 0 (erL L) = _
     rw [erL_map, map_er fun x hx => (hg x hx).2]
   refine hnode _ rfl ?_
   have hr := (right_of_good ht).1
   have hhas : ∀ k : Int, (k = 1 → t.has 1 = false → (T.node t.k t.s0 t.s1 t.s2 t.s3 t.mn t.mx none 0 L).has 1 = false) := fun k _ h1 => has_of fun x hx => hk (has_false h1) x hx
   have e5 : t.k = 5 → (T.node t.k t.s0 t.s1 t.s2 t.s3 t.mn t.mx none 0 L).has 1 = false := fun h5 => hhas 1 rfl (by
    obtain ⟨⟨x, hx, hx1⟩, _⟩ := hs.2.2.1 h5
    exact has_of fun y hy => by rw [hx] at hy; simp at hy; subst hy; exact hx1)
   unfold T.right at hr ⊢
   show (!(t.k != 2 && !t.setZ || (t.k != 5 && (t.mn != 0 || t.mx != 0) || (decide (t.k < 3) && decide (0 < L.length)))) && (if t.k = 1 then true else if t.k = 2 then !t.setZ else if t.k = 3 then decide (1 < L.length) && (!(T.node t.k t.s0 t.s1 t.s2 t.s3 t.mn t.mx none 0 L).has 1 && !(T.node t.k t.s0 t.s1 t.s2 t.s3 t.mn t.mx none 0 L).has 3) else if t.k = 4 then decide (1 < L.length) && !(T.node t.k t.s0 t.s1 t.s2 t.s3 t.mn t.mx none 0 L).has 4 else if t.k = 5 then L.length == 1 && (bounds t.mn t.mx && !(T.node t.k t.s0 t.s1 t.s2 t.s3 t.mn t.mx none 0 L).has 1) else t.k == 6 && L.length == 1)) = true
   rw [hl]
   rw [if_neg h3, if_neg h4] at hr ⊢
   by_cases h5 : t.k = 5
   ·rw [e5 h5]
    rw [if_neg (by omega), if_neg (by omega), if_pos h5] at hr ⊢
    simp at hr ⊢
    exact ⟨hr.1, hr.2.1, hr.2.2.1⟩
   ·rw [if_neg h5] at hr ⊢
    exact hr
mutual
theorem cutAt_ok {c : C4} : ∀ (t : T) (n : Nat), t.good = true → FitAt c t.alts n → AtOk t (t.cutAt c n).1
 | .node k s0 s1 s2 s3 mn mx a cc l, n, hg, hf => by
  have hs := (right_of_good hg).2
  have hl := cutAtL_ok (c := c) l (if k = 4 then n + 1 else n) hs (fitAt_sub hf)
  by_cases h : (T.node k s0 s1 s2 s3 mn mx a cc l).k = 4 ∧ n = c.a
  ·have hfit := fitAt_here hf h.1 h.2
   have ho := cutE_ok hs hfit
   have hm := altE_made ho.good
   have h2 := (right_subs hg).2.1 h.1
   rw [cutAt_here h.1 h.2]
   refine ⟨hm.good, ?_, ?_, hm.er, fun _ => cutE_k hs hfit⟩
   ·have h3 := hm.sz
    have h4 := ho.sz
    have h5 := len_szL (T.node k s0 s1 s2 s3 mn mx a cc l).subs
    rw [sz_eq (T.node k s0 s1 s2 s3 mn mx a cc l)]
    show (altE (cutE _ c)).nodes.length ≤ _
    omega
   ·show (altE (cutE _ c)).gr = _
    rw [hm.gr, ho.gr, gr_eq (T.node k s0 s1 s2 s3 mn mx a cc l), if_neg (by
     unfold isG
     have := h.1
     simp; omega)]; omega
  ·rw [cutAt_other h]
   exact built_ok hg hl.1 hl.2.1 hl.2.2.1 hl.2.2.2.1 hl.2.2.2.2
theorem cutAtL_ok {c : C4} : ∀ (l : List T) (n : Nat), (∀ x ∈ l, x.good = true) → FitAt c (altsL l) n → (cutAtL c l n).1.length = l.length ∧ (∀ x ∈ (cutAtL c l n).1, x.good = true ∧ x.er = x) ∧ szL (cutAtL c l n).1 ≤ 3 * szL l ∧ grL (cutAtL c l n).1 = grL l ∧ ((∀ x ∈ l, x.k ≠ 1) → ∀ x ∈ (cutAtL c l n).1, x.k ≠ 1)
 | [], n, _, _ => ⟨rfl, by simp [cutAtL], by simp [cutAtL, szL, nodesL], rfl, by simp [cutAtL]⟩
 | t :: l, n, hg, hf => by
  have h1 := cutAt_ok (c := c) t n (hg t (by simp)) (fitAt_head hf)
  have h2 := cutAtL_ok (c := c) l (t.cutAt c n).2 (fun x hx => hg x (by simp [hx])) (fitAt_tail hf)
  rw [cutAtL]
  refine ⟨?_, fun x hx => ?_, ?_, ?_, fun hk x hx => ?_⟩
  ·simp only [List.length_cons, h2.1]
  ·rcases List.mem_cons.1 hx with rfl | hx
   ·exact ⟨h1.good, h1.er⟩
   ·exact h2.2.1 x hx
  ·have := h1.sz
   have := h2.2.2.1
   simp only [szL_cons]; omega
  ·have := h1.gr
   have := h2.2.2.2.1
   simp only [grL_cons]; omega
  ·rcases List.mem_cons.1 hx with rfl | hx
   ·exact h1.k (hk t (by simp))
   ·exact h2.2.2.2.2 (fun y hy => hk y (by simp [hy])) x hx
end
theorem rep5_good {mn mx : Int} {a : Option Addr} {c : Nat} {o : T} (hb : bounds mn mx = true) (hk : o.k ≠ 1) (hg : o.good = true) : (nodeT 5 mn mx a c [o]).good = true := by
 rw [good_eq]
 show (T.right _ && [o].all T.good) = true
 rw [Bool.and_eq_true]
 refine ⟨?_, by simpa using hg⟩
 have hh : (nodeT 5 mn mx a c [o]).has 1 = false := has_of fun x hx => by
  have : x = o := by simpa [nodeT, T.subs] using hx
  rw [this]; exact hk
 unfold T.right
 simp [nodeT, T.k, T.setZ, T.s0, T.s1, T.s2, T.s3, T.mn, T.mx, T.subs, hb] at hh ⊢
 exact hh
theorem grp_good {a : Option Addr} {c : Nat} {o : T} (hg : o.good = true) : (nodeT 6 0 0 a c [o]).good = true := by
 rw [good_eq]
 show (T.right _ && [o].all T.good) = true
 rw [Bool.and_eq_true]
 exact ⟨rfl, by simpa using hg⟩
theorem cutAtL_get {c : C4} : ∀ {l : List T} {i n : Nat} {x : T}, l[i]? = some x → (cutAtL c l n).1[i]? = some (x.cutAt c (cutAtL c (l.take i) n).2).1 ∧ (cutAtL c (l.take (i + 1)) n).2 = (x.cutAt c (cutAtL c (l.take i) n).2).2
 | [], i, n, x, h => by simp at h
 | t :: l, 0, n, x, h => by
  simp at h; subst h
  simp [cutAtL]
 | t :: l, i + 1, n, x, h => by
  have ih := cutAtL_get (c := c) (l := l) (i := i) (n := (t.cutAt c n).2) (x := x) (by simpa using h)
  simp only [List.take_succ_cons, cutAtL, List.getElem?_cons_succ]
  exact ih
theorem fitAt_get {c : C4} : ∀ {l : List T} {i n : Nat} {x : T}, l[i]? = some x → FitAt c (altsL l) n → FitAt c x.alts (cutAtL c (l.take i) n).2
 | [], i, n, x, h, _ => by simp at h
 | t :: l, 0, n, x, h, hf => by
  simp at h; subst h
  simpa [cutAtL] using fitAt_head hf
 | t :: l, i + 1, n, x, h, hf => by
  have ih := fitAt_get (c := c) (l := l) (i := i) (n := (t.cutAt c n).2) (x := x) (by simpa using h) (fitAt_tail hf)
  simpa only [List.take_succ_cons, cutAtL] using ih
mutual
theorem alts_er : ∀ t : T, t.er.alts.length = t.alts.length
 | .node k s0 s1 s2 s3 mn mx a c l => by
  have := altsL_er l
  simp only [T.er, T.alts, List.length_append, this]
  split <;> rfl
theorem altsL_er : ∀ l : List T, (altsL (erL l)).length = (altsL l).length
 | [] => rfl
 | t :: l => by simp only [erL, altsL, List.length_append, alts_er t, altsL_er l]
end
theorem altsL_of_er {l l' : List T} (h : l.map T.er = l'.map T.er) : (altsL l).length = (altsL l').length := by
 rw [← altsL_er l, erL_map, h, ← erL_map, altsL_er]
mutual
theorem cutAt_le {c : C4} : ∀ (t : T) (n : Nat), t.good = true → FitAt c t.alts n → (t.cutAt c n).2 ≤ n + 3 * t.nodes.length
 | .node k s0 s1 s2 s3 mn mx a cc l, n, hg, hf => by
  have hs := (right_of_good hg).2
  have hl := cutAtL_le (c := c) l (if k = 4 then n + 1 else n) hs (fitAt_sub hf)
  have hz := sz_eq (T.node k s0 s1 s2 s3 mn mx a cc l)
  by_cases h : (T.node k s0 s1 s2 s3 mn mx a cc l).k = 4 ∧ n = c.a
  ·have hfit := fitAt_here hf h.1 h.2
   have ho := cutE_ok hs hfit
   have h1 := altsL_len (cutE (T.node k s0 s1 s2 s3 mn mx a cc l).subs c)
   have h2 := (right_subs hg).2.1 h.1
   have h3 := len_szL (T.node k s0 s1 s2 s3 mn mx a cc l).subs
   have h4 := ho.sz
   rw [cutAt_here h.1 h.2]
   show n + 1 + _ ≤ _
   omega
  ·rw [cutAt_other h]
   show (cutAtL c l (if k = 4 then n + 1 else n)).2 ≤ _
   have e : szL (T.node k s0 s1 s2 s3 mn mx a cc l).subs = szL l := rfl
   rw [hz, e]
   have : (if k = 4 then n + 1 else n) ≤ n + 1 := by split <;> omega
   omega
theorem cutAtL_le {c : C4} : ∀ (l : List T) (n : Nat), (∀ x ∈ l, x.good = true) → FitAt c (altsL l) n → (cutAtL c l n).2 ≤ n + 3 * szL l
 | [], n, _, _ => Nat.le_add_right _ _
 | t :: l, n, hg, hf => by
  have h1 := cutAt_le (c := c) t n (hg t (by simp)) (fitAt_head hf)
  have h2 := cutAtL_le (c := c) l (t.cutAt c n).2 (fun x hx => hg x (by simp [hx])) (fitAt_tail hf)
  rw [cutAtL, szL_cons]
  show (cutAtL c l (t.cutAt c n).2).2 ≤ _
  omega
end
theorem fitAt_take {c : C4} {l : List T} {n : Nat} (i : Nat) (h : FitAt c (altsL l) n) : FitAt c (altsL (l.take i)) n := fun j al hj hn => h j al (by
 have e : altsL l = altsL (l.take i) ++ altsL (l.drop i) := by rw [← altsL_append, List.take_append_drop]
 rw [e, List.getElem?_append_left (List.getElem?_eq_some_iff.1 hj).1]; exact hj) hn
theorem range_map {α : Type} {l : List α} {f : Nat → α} (h : ∀ i x, l[i]? = some x → f i = x) : (List.range l.length).map f = l := by
 refine List.ext_getElem? fun i => ?_
 rw [List.getElem?_map]
 by_cases hi : i < l.length
 ·rw [List.getElem?_range hi, List.getElem?_eq_getElem hi]
  simp only [Option.map_some]
  rw [h i _ (List.getElem?_eq_getElem hi)]
 ·rw [List.getElem?_eq_none_iff.2 (by simp; omega), List.getElem?_eq_none_iff.2 (by omega)]; rfl
end Go.Rx
namespace Go.Rx
open Go Go.Eng Go.RowKit
set_option maxRecDepth 100000
theorem runE_mem {n f : Nat} : ∀ {l : List T} {s : List T} {to : Nat} {c : C4}, c ∈ runE n f s to l → c.a = n ∧ c.f = f ∧ to ≤ c.t ∧ c.t < to + l.length ∧ 1 ≤ c.n ∧ c.n ≤ s.length ∧ ∀ i x, to + i ≤ c.t → l[i]? = some x → c.n ≤ (headT x).length
 | [], s, to, c, h => by simp [runE] at h
 | x :: l, s, to, c, h => by
  rw [runE] at h
  have hc := commonN_le s (headT x)
  split at h
  ·simp at h
  ·rename_i hk
   rcases List.mem_cons.1 h with rfl | h
   ·refine ⟨rfl, rfl, Nat.le_refl _, by simp, by show 1 ≤ commonN _ _; omega, hc.1, fun i y hi hy => ?_⟩
    have hi : to + i ≤ to := hi
    obtain rfl : i = 0 := by omega
    simp at hy; subst hy
    exact hc.2
   ·obtain ⟨h1, h2, h3, h4, h5, h6, h7⟩ := runE_mem h
    rw [List.length_take] at h6
    refine ⟨h1, h2, by omega, by simp; omega, h5, by omega, fun i y hi hy => ?_⟩
    cases i with
    | zero => simp at hy; subst hy; omega
    | succ i => exact h7 i y (by omega) (by simpa using hy)
theorem cutsF_mem {n : Nat} : ∀ {l : List T} {f : Nat} {c : C4}, c ∈ cutsF n f l → c.a = n ∧ f ≤ c.f ∧ c.f + 2 ≤ c.t ∧ c.t ≤ f + l.length ∧ 1 ≤ c.n ∧ ∀ i x, c.f ≤ f + i → f + i < c.t → l[i]? = some x → c.n ≤ (headT x).length
 | [], f, c, h => by simp [cutsF] at h
 | x :: l, f, c, h => by
  rw [cutsF, List.mem_append] at h
  rcases h with h | h
  ·obtain ⟨h1, h2, h3, h4, h5, h6, h7⟩ := runE_mem h
   refine ⟨h1, by omega, by omega, by simp; omega, h5, fun i y hi1 hi2 hy => ?_⟩
   cases i with
   | zero => simp at hy; subst hy; exact h6
   | succ i => exact h7 i y (by omega) (by simpa using hy)
  ·obtain ⟨h1, h2, h3, h4, h5, h6⟩ := cutsF_mem h
   refine ⟨h1, by omega, h3, by simp; omega, h5, fun i y hi1 hi2 hy => ?_⟩
   cases i with
   | zero => omega
   | succ i => exact h6 i y (by omega) (by omega) (by simpa using hy)
theorem cutsL_mem : ∀ {l : List T} {n : Nat} {c : C4}, c ∈ cutsL n l → n ≤ c.a ∧ ∃ al, l[c.a - n]? = some al ∧ Fit al.subs c
 | [], n, c, h => by simp [cutsL] at h
 | a :: l, n, c, h => by
  rw [cutsL, List.mem_append] at h
  rcases h with h | h
  ·obtain ⟨h1, h2, h3, h4, h5, h6⟩ := cutsF_mem h
   refine ⟨by omega, a, by rw [h1, Nat.sub_self]; rfl, ⟨h3, by omega, h5, fun i x hi1 hi2 hx => h6 i x (by omega) (by omega) hx⟩⟩
  ·obtain ⟨h1, al, h2, h3⟩ := cutsL_mem h
   refine ⟨by omega, al, ?_, h3⟩
   rw [show c.a - n = (c.a - (n + 1)) + 1 by omega]
   exact h2
theorem cuts_fit {t : T} {c : C4} (h : c ∈ t.cuts) : FitAt c t.alts 0 := by
 obtain ⟨_, al, h1, h2⟩ := cutsL_mem h
 intro i al' hi hn
 rw [show c.a - 0 = i by omega, hi] at h1
 cases h1
 exact h2
theorem headT_er (t : T) : headT t.er = (headT t).map T.er := by
 unfold headT
 rw [er_k, er_subs]
 split
 ·rfl
 ·split
  ·rw [List.takeWhile_map]
   have : (T.isC ∘ T.er) = T.isC := by funext x; simp [T.isC]
   rw [this]
  ·rfl
theorem commonN_er : ∀ l r : List T, commonN (l.map T.er) (r.map T.er) = commonN l r
 | [], _ => by simp [commonN]
 | _ :: _, [] => by simp [commonN]
 | a :: l, b :: r => by
  have : sameSet a.er b.er = sameSet a b := by unfold sameSet; simp
  simp only [List.map_cons, commonN, this, commonN_er l r]
theorem runE_er (n f : Nat) : ∀ (l s : List T) (to : Nat), runE n f (s.map T.er) to (l.map T.er) = runE n f s to l
 | [], s, to => rfl
 | x :: l, s, to => by
  rw [List.map_cons, runE, runE, headT_er, commonN_er, ← List.map_take, runE_er n f l]
theorem cutsF_er (n : Nat) : ∀ (l : List T) (f : Nat), cutsF n f (l.map T.er) = cutsF n f l
 | [], f => rfl
 | x :: l, f => by rw [List.map_cons, cutsF, cutsF, headT_er, runE_er, cutsF_er n l]
theorem cutsL_er : ∀ (l : List T) (n : Nat), cutsL n (l.map T.er) = cutsL n l
 | [], n => rfl
 | a :: l, n => by rw [List.map_cons, cutsL, cutsL, er_subs, cutsF_er, cutsL_er l]
mutual
theorem altsM_er : ∀ t : T, t.er.alts = t.alts.map T.er
 | .node k s0 s1 s2 s3 mn mx a c l => by
  have := altsML_er l
  simp only [T.er, T.alts, List.map_append, this]
  split <;> rfl
theorem altsML_er : ∀ l : List T, altsL (erL l) = (altsL l).map T.er
 | [] => rfl
 | t :: l => by simp only [erL, altsL, List.map_append, altsM_er t, altsML_er l]
end
theorem cuts_er (t : T) : t.er.cuts = t.cuts := by unfold T.cuts; rw [altsM_er, cutsL_er]
theorem leftE_er (n : Nat) (x : T) : leftE n x.er = leftE n x := by
 unfold leftE
 rw [er_k, er_subs, ← List.map_drop, ← catE_er]
theorem oneE_er (l : List T) (c : C4) (hf : c.f < l.length) : oneE (l.map T.er) c = oneE l c := by
 unfold oneE
 rw [List.getElem?_map, List.getElem?_eq_getElem hf]
 simp only [Option.map_some, Option.getD_some, headT_er]
 have e : (leftE c.n ∘ T.er) = leftE c.n := by funext x; exact leftE_er c.n x
 rw [← List.map_take, ← List.map_take, ← List.map_drop, List.map_map, e]
 refine catE_congr ?_
 rw [List.map_append, List.map_append, List.map_map]
 congr 1
 exact List.map_congr_left fun z _ => er_er z
theorem cutE_er (l : List T) (c : C4) (hf : c.f < l.length) : (cutE (l.map T.er) c).map T.er = (cutE l c).map T.er := by
 unfold cutE
 rw [oneE_er l c hf, List.map_append, List.map_append, List.map_cons, List.map_cons, ← List.map_take, ← List.map_drop, List.map_map, List.map_map]
 congr 1
 ·exact List.map_congr_left fun z _ => er_er z
 ·congr 1
  exact List.map_congr_left fun z _ => er_er z
mutual
theorem cutAt_er {c : C4} : ∀ (t : T) (n : Nat), FitAt c t.alts n → t.er.cutAt c n = t.cutAt c n
 | .node k s0 s1 s2 s3 mn mx a cc l, n, hf => by
  have hl := cutAtL_er (c := c) l (if k = 4 then n + 1 else n) (fitAt_sub hf)
  by_cases h : (T.node k s0 s1 s2 s3 mn mx a cc l).k = 4 ∧ n = c.a
  ·have hfit := fitAt_here hf h.1 h.2
   rw [cutAt_here h.1 h.2, cutAt_here (by rw [er_k]; exact h.1) h.2, er_subs]
   have h1 := cutE_er (T.node k s0 s1 s2 s3 mn mx a cc l).subs c (by have := hfit.two; have := hfit.le; omega)
   rw [altE_congr h1, altsL_of_er h1]
  ·rw [cutAt_other h, cutAt_other (by rw [er_k]; exact h), er_k, er_subs, ← erL_map]
   show (T.built _ (cutAtL c (erL l) (if k = 4 then n + 1 else n)).1, (cutAtL c (erL l) (if k = 4 then n + 1 else n)).2) = _
   rw [hl]
   congr 1
theorem cutAtL_er {c : C4} : ∀ (l : List T) (n : Nat), FitAt c (altsL l) n → cutAtL c (erL l) n = cutAtL c l n
 | [], n, _ => rfl
 | t :: l, n, hf => by
  have h1 := cutAt_er (c := c) t n (fitAt_head hf)
  rw [erL, cutAtL, cutAtL, h1]
  rw [cutAtL_er l _ (fitAt_tail hf)]
end
structure Top where
 c : C4
 g : Int
 t : T
def C4.zero : C4 := ⟨0, 0, 0, 0⟩
def betterB (top c : C4) (most gain : Int) : Bool := decide (gain > most) || ((gain == most) && (decide (gain > 0) && ((c.a == top.a) && ((c.f == top.f) && decide (c.t > top.t)))))
def gainE (t : T) (c : C4) : Int := (t.nodes.length : Int) - ((t.cutAt c 0).1.nodes.length : Int)
def topStep (t : T) (b : Top) (c : C4) : Top := if betterB b.c c b.g (gainE t c) then ⟨c, gainE t c, (t.cutAt c 0).1⟩ else b
def bestE (t : T) : Top := t.cuts.foldl (topStep t) ⟨C4.zero, 0, t.er⟩
theorem topStep_er {t : T} {c : C4} (h : c ∈ t.cuts) (b : Top) : topStep t.er b c = topStep t b c := by
 unfold topStep gainE
 rw [cutAt_er t 0 (cuts_fit h), sz_er]
theorem foldl_congr {α β : Type} {f g : α → β → α} : ∀ {l : List β} {b : α}, (∀ x ∈ l, ∀ b, f b x = g b x) → l.foldl f b = l.foldl g b
 | [], b, _ => rfl
 | x :: l, b, h => by
  rw [List.foldl_cons, List.foldl_cons, h x (by simp)]
  exact foldl_congr fun y hy => h y (by simp [hy])
theorem bestE_er (t : T) : bestE t.er = bestE t := by
 unfold bestE
 rw [cuts_er, er_er]
 exact foldl_congr fun c hc b => topStep_er hc b
structure TopOk (t : T) (b : Top) : Prop where
 or : (b.g = 0 ∧ b.c = C4.zero ∧ b.t = t.er) ∨ (0 < b.g ∧ b.c ∈ t.cuts ∧ b.g = gainE t b.c ∧ b.t = (t.cutAt b.c 0).1)
theorem topStep_ok {t : T} {b : Top} (h : TopOk t b) {c : C4} (hc : c ∈ t.cuts) : TopOk t (topStep t b c) := by
 unfold topStep
 split
 ·rename_i hb
  refine ⟨.inr ⟨?_, hc, rfl, rfl⟩⟩
  have h0 : 0 ≤ b.g := by rcases h.or with h | h <;> omega
  show 0 < gainE t c
  unfold betterB at hb
  simp only [Bool.or_eq_true, Bool.and_eq_true, decide_eq_true_eq] at hb
  rcases hb with hb | ⟨_, hb, _⟩ <;> omega
 ·exact h
theorem foldl_ok {t : T} : ∀ {l : List C4} {b : Top}, (∀ c ∈ l, c ∈ t.cuts) → TopOk t b → TopOk t (l.foldl (topStep t) b)
 | [], b, _, h => h
 | c :: l, b, hl, h => by
  rw [List.foldl_cons]
  exact foldl_ok (fun x hx => hl x (by simp [hx])) (topStep_ok h (hl c (by simp)))
theorem bestE_ok (t : T) : TopOk t (bestE t) := foldl_ok (fun _ h => h) ⟨.inl ⟨rfl, rfl, rfl⟩⟩
theorem bestE_next {t : T} (hg : t.good = true) (h : 0 < (bestE t).g) : (bestE t).t.good = true ∧ ((bestE t).t.nodes.length : Int) = t.nodes.length - (bestE t).g ∧ (bestE t).t.er = (bestE t).t ∧ (bestE t).t.gr = t.gr := by
 rcases (bestE_ok t).or with h1 | ⟨_, h2, h3, h4⟩
 ·omega
 ·have ho := cutAt_ok (c := (bestE t).c) t 0 hg (cuts_fit h2)
  rw [h4]
  refine ⟨ho.good, ?_, ho.er, ho.gr⟩
  rw [h3]; unfold gainE; omega
def factorN : Nat → T → T × List C4
 | 0, t => (t.er, [])
 | k + 1, t => if (bestE t).g ≤ 0 then (t.er, []) else ((factorN k (bestE t).t).1, (bestE t).c :: (factorN k (bestE t).t).2)
theorem factorN_er (k : Nat) (t : T) : factorN k t.er = factorN k t := by
 cases k with
 | zero => unfold factorN; rw [er_er]
 | succ k => unfold factorN; rw [bestE_er, er_er]
theorem factorN_fuel : ∀ (n : Nat) (t : T), t.nodes.length ≤ n → t.good = true → ∀ k, t.nodes.length ≤ k → factorN k t = factorN t.nodes.length t
 | 0, t, hn, _, k, hk => by
  have := sz_eq t
  omega
 | n + 1, t, hn, hg, k, hk => by
  have hz := sz_eq t
  obtain ⟨k, rfl⟩ : ∃ j, k = j + 1 := ⟨k - 1, by omega⟩
  obtain ⟨j, hj⟩ : ∃ j, t.nodes.length = j + 1 := ⟨t.nodes.length - 1, by omega⟩
  rw [hj, factorN, factorN]
  split
  ·rfl
  ·rename_i hp
   have hb := bestE_next hg (by omega)
   have h1 : (bestE t).t.nodes.length ≤ n := by omega
   rw [factorN_fuel n _ h1 hb.1 k (by omega), factorN_fuel n _ h1 hb.1 j (by omega)]
def factorE (t : T) : T × List C4 := factorN t.nodes.length t
theorem factorE_stop {t : T} (h : (bestE t).g ≤ 0) : factorE t = (t.er, []) := by
 unfold factorE
 obtain ⟨j, hj⟩ : ∃ j, t.nodes.length = j + 1 := ⟨t.nodes.length - 1, by have := sz_eq t; omega⟩
 rw [hj, factorN, if_pos h]
theorem factorE_go {t : T} (hg : t.good = true) (h : ¬ (bestE t).g ≤ 0) : factorE t = ((factorE (bestE t).t).1, (bestE t).c :: (factorE (bestE t).t).2) := by
 have hb := bestE_next hg (by omega)
 unfold factorE
 obtain ⟨j, hj⟩ : ∃ j, t.nodes.length = j + 1 := ⟨t.nodes.length - 1, by have := sz_eq t; omega⟩
 rw [hj, factorN, if_neg h, factorN_fuel _ (bestE t).t (Nat.le_refl _) hb.1 j (by omega)]
theorem factorE_er {t u : T} (h : t.er = u.er) : factorE t = factorE u := by
 unfold factorE
 rw [← factorN_er, h, factorN_er, ← sz_er t, h, sz_er]
end Go.Rx
namespace Go.Rx
open Go Go.Eng Go.RowKit
set_option maxRecDepth 100000
def LtC (a b : C4) : Prop := a.a < b.a ∨ (a.a = b.a ∧ (a.f < b.f ∨ (a.f = b.f ∧ a.t < b.t)))
theorem runE_sorted (n f : Nat) : ∀ (l s : List T) (to : Nat), List.Pairwise LtC (runE n f s to l)
 | [], s, to => List.Pairwise.nil
 | x :: l, s, to => by
  rw [runE]
  split
  ·exact List.Pairwise.nil
  ·refine List.Pairwise.cons (fun c hc => ?_) (runE_sorted n f l _ _)
   obtain ⟨h1, h2, h3, _⟩ := runE_mem hc
   exact .inr ⟨h1.symm, .inr ⟨h2.symm, h3⟩⟩
theorem cutsF_sorted (n : Nat) : ∀ (l : List T) (f : Nat), List.Pairwise LtC (cutsF n f l)
 | [], f => List.Pairwise.nil
 | x :: l, f => by
  rw [cutsF, List.pairwise_append]
  refine ⟨runE_sorted n f l _ _, cutsF_sorted n l (f + 1), fun a ha b hb => ?_⟩
  obtain ⟨h1, h2, _⟩ := runE_mem ha
  obtain ⟨h3, h4, _⟩ := cutsF_mem hb
  exact .inr ⟨by omega, .inl (by omega)⟩
theorem cutsL_sorted : ∀ (l : List T) (n : Nat), List.Pairwise LtC (cutsL n l)
 | [], n => List.Pairwise.nil
 | x :: l, n => by
  rw [cutsL, List.pairwise_append]
  refine ⟨cutsF_sorted n _ _, cutsL_sorted l (n + 1), fun a ha b hb => ?_⟩
  obtain ⟨h1, _⟩ := cutsF_mem ha
  obtain ⟨h3, _⟩ := cutsL_mem hb
  exact .inl (by omega)
theorem cuts_sorted (t : T) : List.Pairwise LtC t.cuts := cutsL_sorted _ _
def LeB (b c : C4) : Prop := b.a < c.a ∨ (b.a = c.a ∧ (b.f < c.f ∨ (b.f = c.f ∧ c.t ≤ b.t)))
structure TopAll (t : T) (b : Top) (P : List C4) : Prop where
 all : ∀ c ∈ P, gainE t c ≤ b.g ∧ (0 < b.g → gainE t c = b.g → LeB b.c c)
 is : b.g = 0 ∨ (0 < b.g ∧ b.c ∈ P)
theorem topStep_all {t : T} {b : Top} {P : List C4} {c : C4} (h : TopAll t b P) (hp : ∀ p ∈ P, LtC p c) : TopAll t (topStep t b c) (P ++ [c]) := by
 have hb0 : 0 ≤ b.g := by rcases h.is with h | h <;> omega
 unfold topStep
 split
 ·rename_i hb
  unfold betterB at hb
  simp only [Bool.or_eq_true, Bool.and_eq_true, decide_eq_true_eq, beq_iff_eq] at hb
  refine ⟨fun p hp' => ?_, .inr ⟨?_, by simp⟩⟩
  ·show gainE t p ≤ gainE t c ∧ (0 < gainE t c → gainE t p = gainE t c → LeB c p)
   rcases List.mem_append.1 hp' with hp' | hp'
   ·have ha := h.all p hp'
    rcases hb with hb | ⟨hb1, hb2, hb3, hb4, hb5⟩
    ·exact ⟨by omega, fun _ _ => by omega⟩
    ·refine ⟨by omega, fun _ he => ?_⟩
     have := ha.2 (by omega) (by omega)
     unfold LeB at this ⊢
     omega
   ·rw [List.mem_singleton] at hp'; subst hp'
    exact ⟨Int.le_refl _, fun _ _ => by unfold LeB; omega⟩
  ·show 0 < gainE t c
   rcases hb with hb | hb <;> omega
 ·rename_i hb
  unfold betterB at hb
  simp only [Bool.or_eq_true, Bool.and_eq_true, decide_eq_true_eq, beq_iff_eq, not_or, not_and] at hb
  refine ⟨fun p hp' => ?_, ?_⟩
  ·rcases List.mem_append.1 hp' with hp' | hp'
   ·exact h.all p hp'
   ·rw [List.mem_singleton] at hp'; subst hp'
    refine ⟨by omega, fun h0 he => ?_⟩
    have hm : b.c ∈ P := by rcases h.is with h | h; omega; exact h.2
    have hl := hp _ hm
    have h5 := hb.2 he (by omega)
    unfold LtC at hl
    unfold LeB
    rcases hl with hl | ⟨hl1, hl | ⟨hl2, hl3⟩⟩
    ·exact .inl hl
    ·exact .inr ⟨hl1, .inl hl⟩
    ·exact absurd hl3 (h5 hl1.symm hl2.symm)
  ·rcases h.is with h | h
   ·exact .inl h
   ·exact .inr ⟨h.1, by simp [h.2]⟩
theorem foldl_all {t : T} : ∀ {l P : List C4} {b : Top}, TopAll t b P → (∀ p ∈ P, ∀ c ∈ l, LtC p c) → List.Pairwise LtC l → TopAll t (l.foldl (topStep t) b) (P ++ l)
 | [], P, b, h, _, _ => by rw [List.append_nil]; exact h
 | c :: l, P, b, h, hp, hs => by
  rw [List.pairwise_cons] at hs
  rw [List.foldl_cons]
  have := foldl_all (l := l) (topStep_all h fun p hq => hp p hq c (by simp)) (fun p hq d hd => by
   rcases List.mem_append.1 hq with hq | hq
   ·exact hp p hq d (by simp [hd])
   ·rw [List.mem_singleton] at hq; subst hq; exact hs.1 d hd) hs.2
  simpa using this
theorem bestE_all (t : T) : TopAll t (bestE t) t.cuts := by
 have := foldl_all (t := t) (l := t.cuts) (P := []) (b := ⟨C4.zero, 0, t.er⟩) ⟨fun c hc => by simp at hc, .inl rfl⟩ (fun p hp => by simp at hp) (cuts_sorted t)
 exact this
end Go.Rx
namespace Go.Rx
open Go Go.Eng Go.RowKit
set_option maxRecDepth 100000
def cat3 (l : List T) : T := .node 3 0 0 0 0 0 0 none 0 l
def alt4 (l : List T) : T := .node 4 0 0 0 0 0 0 none 0 l
def lets (W : List Nat) : List T := W.map letterT
def frontT (W : List Nat) (p : Nat × Nat) : T := cat3 (lets W ++ [letterT p.1, letterT p.2])
def backT (p : Nat × Nat) : T := cat3 [letterT p.1, letterT p.2]
def frontsT (W : List Nat) (P : List (Nat × Nat)) : T := alt4 (P.map (frontT W))
def factT (W : List Nat) (P : List (Nat × Nat)) : T := cat3 (lets W ++ [alt4 (P.map backT)])
theorem sameSet_letters : ∀ a b : Fin 14, sameSet (letterT (97 + a.val)) (letterT (97 + b.val)) = (a == b) := by decide +kernel
theorem sameSet_self (x : T) : sameSet x x = true := by simp [sameSet]
theorem sameSet_ne {a b : Nat} (ha : 97 ≤ a ∧ a < 111) (hb : 97 ≤ b ∧ b < 111) (h : a ≠ b) : sameSet (letterT a) (letterT b) = false := by
 have := sameSet_letters ⟨a - 97, by omega⟩ ⟨b - 97, by omega⟩
 simp only [show 97 + (a - 97) = a by omega, show 97 + (b - 97) = b by omega] at this
 rw [this]
 simp; omega
theorem common_pre (l r s : List T) : commonN (l ++ r) (l ++ s) = l.length + commonN r s := by
 induction l with
 | nil => simp
 | cons x l ih => rw [List.cons_append, List.cons_append, commonN, if_pos (sameSet_self x), ih, List.length_cons]; omega
theorem lets_len (W : List Nat) : (lets W).length = W.length := by simp [lets]
theorem lets_k {W : List Nat} : ∀ x ∈ lets W, x.k = 2 := fun x hx => by
 obtain ⟨c, _, rfl⟩ := List.mem_map.1 hx; rfl
theorem takeWhile_isC {l r : List T} (h : ∀ x ∈ l, x.k = 2) (hr : r.takeWhile T.isC = []) : (l ++ r).takeWhile T.isC = l := by
 induction l with
 | nil => exact hr
 | cons x l ih =>
  rw [List.cons_append, List.takeWhile_cons_of_pos (by simp [T.isC, h x (by simp)]), ih fun y hy => h y (by simp [hy])]
theorem head_front (W : List Nat) (p : Nat × Nat) : headT (frontT W p) = lets W ++ [letterT p.1, letterT p.2] := by
 have := takeWhile_isC (l := lets W ++ [letterT p.1, letterT p.2]) (r := []) (fun x hx => by
  rcases List.mem_append.1 hx with hx | hx
  ·exact lets_k x hx
  ·simp at hx; rcases hx with rfl | rfl <;> rfl) rfl
 rw [List.append_nil] at this
 exact this
theorem head_back (p : Nat × Nat) : headT (backT p) = [letterT p.1, letterT p.2] := rfl
theorem head_fact (W : List Nat) (P : List (Nat × Nat)) : headT (factT W P) = lets W := takeWhile_isC (fun x hx => lets_k x hx) rfl
def InR (p : Nat × Nat) : Prop := (97 ≤ p.1 ∧ p.1 < 111) ∧ (97 ≤ p.2 ∧ p.2 < 111)
theorem common_fronts {W : List Nat} {p q : Nat × Nat} (hp : InR p) (hq : InR q) (h : p.1 ≠ q.1) : commonN (headT (frontT W p)) (headT (frontT W q)) = W.length := by
 rw [head_front, head_front, common_pre, commonN, if_neg (by rw [sameSet_ne hp.1 hq.1 h]; simp), lets_len]; rfl
theorem common_lets (W : List Nat) (p : Nat × Nat) : commonN (lets W) (headT (frontT W p)) = W.length := by
 rw [head_front]
 have := common_pre (lets W) [] [letterT p.1, letterT p.2]
 rw [List.append_nil] at this
 rw [this, lets_len]
 simp [commonN]
theorem common_backs {p q : Nat × Nat} (hp : InR p) (hq : InR q) (h : p.1 ≠ q.1) : commonN (headT (backT p)) (headT (backT q)) = 0 := by
 rw [head_back, head_back, commonN, if_neg (by rw [sameSet_ne hp.1 hq.1 h]; simp)]
theorem runE_fronts {W : List Nat} (h0 : W ≠ []) {n f : Nat} : ∀ {r : List (Nat × Nat)} {s : List T} {to : Nat}, (∀ q ∈ r, commonN s (headT (frontT W q)) = W.length) → s.take W.length = lets W →
  runE n f s to (r.map (frontT W)) = (List.range r.length).map fun i => ⟨n, f, to + i, W.length⟩
 | [], s, to, _, _ => rfl
 | q :: r, s, to, h, hs => by
  have hw : W.length ≠ 0 := fun e => h0 (List.eq_nil_of_length_eq_zero e)
  rw [List.map_cons, runE, h q (by simp), if_neg hw, hs, runE_fronts h0 (fun q _ => common_lets W q) (by rw [← lets_len, List.take_length]), List.length_cons, List.range_succ_eq_map, List.map_cons, List.map_map]
  congr 1
  refine List.map_congr_left fun i _ => ?_
  show (⟨n, f, to + 1 + i, W.length⟩ : C4) = ⟨n, f, to + (i + 1), W.length⟩
  congr 1; omega
theorem cutsF_fronts {W : List Nat} (h0 : W ≠ []) {n : Nat} : ∀ {P : List (Nat × Nat)} {f : Nat}, (∀ p ∈ P, InR p) → (P.map (·.1)).Nodup →
  ∀ c ∈ cutsF n f (P.map (frontT W)), c.a = n ∧ f ≤ c.f ∧ c.f + 2 ≤ c.t ∧ c.t ≤ f + P.length ∧ c.n = W.length
 | [], f, _, _, c, hc => by simp [cutsF] at hc
 | p :: P, f, hP, hnd, c, hc => by
  rw [List.map_cons, List.nodup_cons] at hnd
  rw [List.map_cons, cutsF] at hc
  rcases List.mem_append.1 hc with hc | hc
  ·rw [runE_fronts h0 (fun q hq => common_fronts (hP p (by simp)) (hP q (by simp [hq])) (fun e => hnd.1 (e ▸ List.mem_map.2 ⟨q, hq, rfl⟩))) (by rw [head_front, ← lets_len, List.take_left])] at hc
   obtain ⟨i, hi, rfl⟩ := List.mem_map.1 hc
   have := List.mem_range.1 hi
   simp only [List.length_cons]
   refine ⟨by trivial, Nat.le_refl _, by omega, by omega, by trivial⟩
  ·obtain ⟨h1, h2, h3, h4, h5⟩ := cutsF_fronts h0 (fun q hq => hP q (by simp [hq])) hnd.2 c hc
   exact ⟨h1, by omega, h3, by rw [List.length_cons]; omega, h5⟩
theorem cutsF_first {W : List Nat} (h0 : W ≠ []) {n : Nat} {P : List (Nat × Nat)} (hP : ∀ p ∈ P, InR p) (hnd : (P.map (·.1)).Nodup) (h2 : 2 ≤ P.length) : (⟨n, 0, P.length, W.length⟩ : C4) ∈ cutsF n 0 (P.map (frontT W)) := by
 match P, h2 with
 | p :: P, h2 =>
  rw [List.map_cons, List.nodup_cons] at hnd
  rw [List.map_cons, cutsF]
  refine List.mem_append_left _ ?_
  rw [runE_fronts h0 (fun q hq => common_fronts (hP p (by simp)) (hP q (by simp [hq])) (fun e => hnd.1 (e ▸ List.mem_map.2 ⟨q, hq, rfl⟩))) (by rw [head_front, ← lets_len, List.take_left])]
  simp only [List.length_cons] at h2 ⊢
  exact List.mem_map.2 ⟨P.length - 1, List.mem_range.2 (by omega), by congr 1; omega⟩
theorem cutsF_backs {n : Nat} : ∀ {P : List (Nat × Nat)} {f : Nat}, (∀ p ∈ P, InR p) → (P.map (·.1)).Nodup → cutsF n f (P.map backT) = []
 | [], f, _, _ => rfl
 | [p], f, _, _ => rfl
 | p :: q :: P, f, hP, hnd => by
  rw [List.map_cons, List.nodup_cons] at hnd
  have hne : p.1 ≠ q.1 := fun e => hnd.1 (by rw [e]; simp)
  rw [List.map_cons, cutsF, cutsF_backs (fun x hx => hP x (by simp [hx])) hnd.2, List.map_cons, runE, if_pos (common_backs (hP p (by simp)) (hP q (by simp)) hne)]
  rfl
theorem altsL_none : ∀ {l : List T}, (∀ x ∈ l, x.alts = []) → altsL l = []
 | [], _ => rfl
 | x :: l, h => by rw [altsL, h x (by simp), altsL_none fun y hy => h y (by simp [hy])]; rfl
theorem alts_cat {l : List T} (h : ∀ x ∈ l, x.k = 2 ∧ x.alts = []) : (cat3 l).alts = [] := by
 rw [alts_eq, show (cat3 l).k = 3 from rfl, if_neg (by omega)]
 exact altsL_none fun x hx => (h x hx).2
theorem lets_alts {W : List Nat} : ∀ x ∈ lets W, x.k = 2 ∧ x.alts = [] := fun x hx => by
 obtain ⟨c, _, rfl⟩ := List.mem_map.1 hx; exact ⟨rfl, rfl⟩
theorem front_alts (W : List Nat) (p : Nat × Nat) : (frontT W p).alts = [] := alts_cat fun x hx => by
 rcases List.mem_append.1 hx with hx | hx
 ·exact lets_alts x hx
 ·simp at hx; rcases hx with rfl | rfl <;> exact ⟨rfl, rfl⟩
theorem back_alts (p : Nat × Nat) : (backT p).alts = [] := rfl
theorem fronts_cuts (W : List Nat) (P : List (Nat × Nat)) : (frontsT W P).cuts = cutsF 0 0 (P.map (frontT W)) := by
 have : (frontsT W P).alts = [frontsT W P] := by
  rw [alts_eq, show (frontsT W P).k = 4 from rfl, if_pos rfl]
  show _ ++ altsL (P.map (frontT W)) = _
  rw [altsL_none fun x hx => by obtain ⟨p, _, rfl⟩ := List.mem_map.1 hx; exact front_alts W p]; rfl
 unfold T.cuts
 rw [this, cutsL, cutsL, List.append_nil]; rfl
theorem fact_cuts {W : List Nat} {P : List (Nat × Nat)} (hP : ∀ p ∈ P, InR p) (hnd : (P.map (·.1)).Nodup) : (factT W P).cuts = [] := by
 have h1 : (alt4 (P.map backT)).alts = [alt4 (P.map backT)] := by
  rw [alts_eq, show (alt4 (P.map backT)).k = 4 from rfl, if_pos rfl]
  show _ ++ altsL (P.map backT) = _
  rw [altsL_none fun x hx => by obtain ⟨p, _, rfl⟩ := List.mem_map.1 hx; exact back_alts p]; rfl
 have : (factT W P).alts = [alt4 (P.map backT)] := by
  rw [alts_eq, show (factT W P).k = 3 from rfl, if_neg (by omega)]
  show [] ++ altsL (lets W ++ [alt4 (P.map backT)]) = _
  rw [altsL_append, altsL_none fun x hx => (lets_alts x hx).2, altsL, altsL, h1]; rfl
 unfold T.cuts
 rw [this, cutsL, cutsL, List.append_nil]
 exact cutsF_backs hP hnd
theorem er_lets (W : List Nat) : (lets W).map T.er = lets W := map_er fun x hx => by
 obtain ⟨c, _, rfl⟩ := List.mem_map.1 hx; rfl
theorem catE_two {x y : T} {l : List T} (h : ∀ z ∈ x :: y :: l, z.k ≠ 3 ∧ z.k ≠ 1) (he : ∀ z ∈ x :: y :: l, z.er = z) : catE (x :: y :: l) = cat3 (x :: y :: l) := by
 unfold catE
 rw [flat_self h, mkJoin, nodeT, T.er, erL_map, map_er he]; rfl
theorem catE_cat {l : List T} (h2 : 2 ≤ l.length) (h : ∀ z ∈ l, z.k ≠ 3 ∧ z.k ≠ 1) (he : ∀ z ∈ l, z.er = z) : catE l = cat3 l := by
 match l, h2 with
 | x :: y :: l, _ => exact catE_two h he
theorem altE_alt {l : List T} (h2 : 2 ≤ l.length) (h : ∀ z ∈ l, z.k ≠ 4 ∧ z.k ≠ 0) (he : ∀ z ∈ l, z.er = z) : altE l = alt4 l := by
 match l, h2 with
 | x :: y :: l, _ =>
  unfold altE
  rw [flat_self h, mkJoin, nodeT, T.er, erL_map, map_er he]; rfl
theorem er_front (W : List Nat) (p : Nat × Nat) : (frontT W p).er = frontT W p := by
 unfold frontT cat3
 rw [T.er, erL_map, List.map_append, er_lets]; rfl
theorem er_alt {l : List T} (h : ∀ z ∈ l, z.er = z) : (alt4 l).er = alt4 l := by
 unfold alt4
 rw [T.er, erL_map, map_er h]
theorem er_cat {l : List T} (h : ∀ z ∈ l, z.er = z) : (cat3 l).er = cat3 l := by
 unfold cat3
 rw [T.er, erL_map, map_er h]
theorem er_backs (P : List (Nat × Nat)) : ∀ z ∈ P.map backT, z.er = z := fun z hz => by
 obtain ⟨p, _, rfl⟩ := List.mem_map.1 hz; rfl
theorem er_fact (W : List Nat) (P : List (Nat × Nat)) : (factT W P).er = factT W P := er_cat fun z hz => by
 rcases List.mem_append.1 hz with hz | hz
 ·obtain ⟨c, _, rfl⟩ := List.mem_map.1 hz; rfl
 ·rw [List.mem_singleton] at hz; subst hz; exact er_alt (er_backs P)
theorem er_fronts (W : List Nat) (P : List (Nat × Nat)) : (frontsT W P).er = frontsT W P := er_alt fun z hz => by
 obtain ⟨p, _, rfl⟩ := List.mem_map.1 hz; exact er_front W p
theorem restE_all {l : List T} (h : ∀ x ∈ l, x.k ≠ 1) : restE false l = l := by
 induction l with
 | nil => rfl
 | cons x l ih =>
  have hx := h x (by simp)
  rw [restE, if_pos (.inl hx), show (false || x.k == 1) = false by simp [hx], ih fun y hy => h y (by simp [hy])]
theorem left_front (W : List Nat) (p : Nat × Nat) : leftE W.length (frontT W p) = backT p := by
 unfold leftE
 rw [show (frontT W p).k = 3 from rfl, if_neg (by omega), show (frontT W p).subs = lets W ++ [letterT p.1, letterT p.2] from rfl, ← lets_len, List.drop_left]
 rfl
theorem one_front {W : List Nat} (h0 : W ≠ []) {P : List (Nat × Nat)} {f t : Nat} (h1 : f + 2 ≤ t) (h2 : t ≤ P.length) : oneE (P.map (frontT W)) ⟨0, f, t, W.length⟩ = cat3 (lets W ++ [alt4 (((P.take t).drop f).map backT)]) := by
 unfold oneE
 obtain ⟨p, hp⟩ : ∃ p, P[f]? = some p := ⟨_, List.getElem?_eq_getElem (by omega)⟩
 have hW : 1 ≤ W.length := by cases W with
  | nil => exact absurd rfl h0
  | cons _ _ => simp
 simp only [List.getElem?_map, hp, Option.map_some, Option.getD_some]
 rw [head_front, ← lets_len, List.take_left, ← List.map_take, ← List.map_drop, List.map_map]
 have e : ((P.take t).drop f).map (leftE (lets W).length ∘ frontT W) = ((P.take t).drop f).map backT := by
  refine List.map_congr_left fun q _ => ?_
  rw [lets_len]; exact left_front W q
 rw [e, restE_all fun x hx => by obtain ⟨q, _, rfl⟩ := List.mem_map.1 hx; show (3 : Int) ≠ 1; omega]
 rw [altE_alt (by simp; omega) (fun z hz => by obtain ⟨q, _, rfl⟩ := List.mem_map.1 hz; exact ⟨show (3 : Int) ≠ 4 by omega, show (3 : Int) ≠ 0 by omega⟩) (er_backs _)]
 refine catE_cat (by simp [lets]; omega) (fun z hz => ?_) (fun z hz => ?_)
 ·rcases List.mem_append.1 hz with hz | hz
  ·rw [lets_k z hz]; omega
  ·rw [List.mem_singleton] at hz; subst hz; exact ⟨show (4 : Int) ≠ 3 by omega, show (4 : Int) ≠ 1 by omega⟩
 ·rcases List.mem_append.1 hz with hz | hz
  ·obtain ⟨c, _, rfl⟩ := List.mem_map.1 hz; rfl
  ·rw [List.mem_singleton] at hz; subst hz; exact er_alt (er_backs _)
theorem szL_lets (W : List Nat) : szL (lets W) = W.length := by
 induction W with
 | nil => rfl
 | cons c l ih =>
  rw [show lets (c :: l) = letterT c :: lets l from rfl, szL_cons, ih, List.length_cons, show (letterT c).nodes.length = 1 from rfl]; omega
theorem sz_back (p : Nat × Nat) : (backT p).nodes.length = 3 := rfl
theorem szL_backs : ∀ P : List (Nat × Nat), szL (P.map backT) = 3 * P.length
 | [] => rfl
 | p :: P => by rw [List.map_cons, szL_cons, szL_backs P, sz_back, List.length_cons]; omega
theorem sz_front (W : List Nat) (p : Nat × Nat) : (frontT W p).nodes.length = W.length + 3 := by
 rw [sz_eq, show (frontT W p).subs = lets W ++ [letterT p.1, letterT p.2] from rfl, szL_append, szL_lets, show szL [letterT p.1, letterT p.2] = 2 from rfl]; omega
theorem szL_fronts (W : List Nat) : ∀ P : List (Nat × Nat), szL (P.map (frontT W)) = P.length * (W.length + 3)
 | [] => by rw [List.length_nil, Nat.zero_mul]; rfl
 | p :: P => by rw [List.map_cons, szL_cons, szL_fronts W P, sz_front, List.length_cons, Nat.succ_mul]; omega
theorem sz_fact (W : List Nat) (P : List (Nat × Nat)) : (factT W P).nodes.length = W.length + 2 + 3 * P.length := by
 rw [sz_eq, show (factT W P).subs = lets W ++ [alt4 (P.map backT)] from rfl, szL_append, szL_lets, szL_cons, sz_eq, show (alt4 (P.map backT)).subs = P.map backT from rfl, szL_backs, show szL [] = 0 from rfl]; omega
theorem sz_fronts (W : List Nat) (P : List (Nat × Nat)) : (frontsT W P).nodes.length = 1 + P.length * (W.length + 3) := by
 rw [sz_eq, show (frontsT W P).subs = P.map (frontT W) from rfl, szL_fronts]
theorem cut_all {W : List Nat} (h0 : W ≠ []) {P : List (Nat × Nat)} (h2 : 2 ≤ P.length) : ((frontsT W P).cutAt ⟨0, 0, P.length, W.length⟩ 0).1 = factT W P := by
 rw [cutAt_here rfl rfl]
 show altE (cutE (P.map (frontT W)) ⟨0, 0, P.length, W.length⟩) = _
 unfold cutE
 rw [one_front h0 (by omega) (Nat.le_refl _)]
 simp only [List.take_zero, List.nil_append, List.take_length, List.drop_zero]
 rw [List.drop_eq_nil_of_le (by simp)]
 unfold altE
 rw [flat_self (by intro x hx; rw [List.mem_singleton] at hx; subst hx; exact ⟨show (3 : Int) ≠ 4 by omega, show (3 : Int) ≠ 0 by omega⟩), mkJoin]
 exact er_fact W P
theorem cut_some {W : List Nat} (h0 : W ≠ []) {P : List (Nat × Nat)} {f t : Nat} (h1 : f + 2 ≤ t) (h2 : t ≤ P.length) (h3 : t - f < P.length) :
  ((frontsT W P).cutAt ⟨0, f, t, W.length⟩ 0).1.nodes.length = 1 + (P.length - (t - f)) * (W.length + 3) + (W.length + 2 + 3 * (t - f)) := by
 rw [cutAt_here rfl rfl]
 show (altE (cutE (P.map (frontT W)) ⟨0, f, t, W.length⟩)).nodes.length = _
 unfold cutE
 rw [one_front h0 h1 h2]
 simp only
 have he : ∀ z ∈ ((P.map (frontT W)).take f ++ cat3 (lets W ++ [alt4 (((P.take t).drop f).map backT)]) :: (P.map (frontT W)).drop t), z.k = 3 ∧ z.er = z := fun z hz => by
  rcases List.mem_append.1 hz with hz | hz
  ·obtain ⟨p, _, rfl⟩ := List.mem_map.1 (List.mem_of_mem_take hz); exact ⟨rfl, er_front W p⟩
  ·rcases List.mem_cons.1 hz with rfl | hz
   ·exact ⟨rfl, er_fact W ((P.take t).drop f)⟩
   ·obtain ⟨p, _, rfl⟩ := List.mem_map.1 (List.mem_of_mem_drop hz); exact ⟨rfl, er_front W p⟩
 rw [altE_alt (by simp; omega) (fun z hz => by rw [(he z hz).1]; omega) (fun z hz => (he z hz).2), sz_eq]
 rw [show ∀ l : List T, (alt4 l).subs = l from fun _ => rfl, szL_append, szL_cons, ← List.map_take, ← List.map_drop, szL_fronts, szL_fronts]
 have := sz_fact W ((P.take t).drop f)
 unfold factT at this
 rw [this]
 simp only [List.length_take, List.length_drop]
 have e : (P.length - (t - f)) * (W.length + 3) = min f P.length * (W.length + 3) + (P.length - t) * (W.length + 3) := by
  rw [← Nat.add_mul]; congr 1; omega
 have e2 : min t P.length - f = t - f := by omega
 rw [e, e2]; omega
theorem factor_fronts {W : List Nat} (hW : 2 ≤ W.length) {P : List (Nat × Nat)} (hP : ∀ p ∈ P, InR p) (hnd : (P.map (·.1)).Nodup) (h2 : 2 ≤ P.length) (hg : (frontsT W P).good = true) : (factorE (frontsT W P)).1 = factT W P := by
 have h0 : W ≠ [] := by intro e; subst e; simp at hW
 have hall := bestE_all (frontsT W P)
 have hc := fronts_cuts W P
 have hfirst : (⟨0, 0, P.length, W.length⟩ : C4) ∈ (frontsT W P).cuts := by rw [hc]; exact cutsF_first h0 hP hnd h2
 have hg1 := (hall.all _ hfirst).1
 have hge : gainE (frontsT W P) ⟨0, 0, P.length, W.length⟩ = (P.length : Int) * W.length - W.length - 1 := by
  unfold gainE
  rw [cut_all h0 h2, sz_fronts, sz_fact]
  have : P.length * (W.length + 3) = P.length * W.length + P.length * 3 := Nat.mul_add _ _ _
  have e : ((P.length * W.length : Nat) : Int) = (P.length : Int) * W.length := by simp
  omega
 have hm1 : (2 : Int) * W.length ≤ (P.length : Int) * W.length := Int.mul_le_mul_of_nonneg_right (by omega) (by omega)
 have hpos : 0 < (bestE (frontsT W P)).g := by omega
 have hmem : (bestE (frontsT W P)).c ∈ (frontsT W P).cuts := by rcases hall.is with h | h; omega; exact h.2
 have hbest : (bestE (frontsT W P)).g = gainE (frontsT W P) (bestE (frontsT W P)).c ∧ (bestE (frontsT W P)).t = ((frontsT W P).cutAt (bestE (frontsT W P)).c 0).1 := by
  rcases (bestE_ok (frontsT W P)).or with ⟨h, _⟩ | ⟨_, _, h⟩
  ·omega
  ·exact h
 have hcc : (bestE (frontsT W P)).c = ⟨0, 0, P.length, W.length⟩ := by
  generalize hb : (bestE (frontsT W P)).c = c at *
  have hbd := cutsF_fronts h0 hP hnd c (by rw [← hc]; exact hmem)
  obtain ⟨ca, cf, ct, cn⟩ := c
  simp only at hbd
  obtain ⟨rfl, _, h3, h4, rfl⟩ := hbd
  rcases Nat.lt_or_ge (ct - cf) P.length with h5 | h5
  ·exfalso
   have hgc := hbest.1
   unfold gainE at hgc
   rw [cut_some h0 h3 (by omega) h5, sz_fronts] at hgc
   obtain ⟨j, hj⟩ : ∃ j, ct - cf = j := ⟨_, rfl⟩
   rw [hj] at hgc h5
   obtain ⟨d, hd⟩ : ∃ d, P.length = j + 1 + d := ⟨P.length - j - 1, by omega⟩
   rw [hd] at hgc hge hg1
   rw [show j + 1 + d - j = d + 1 by omega] at hgc
   have e1 : (j + 1 + d) * (W.length + 3) = j * W.length + j * 3 + (W.length + 3) + d * (W.length + 3) := by
    rw [Nat.add_mul, Nat.add_mul, Nat.mul_add, Nat.one_mul]
   have e2 : (d + 1) * (W.length + 3) = d * (W.length + 3) + (W.length + 3) := by rw [Nat.add_mul, Nat.one_mul]
   have e3 : (((j + 1 + d : Nat) : Int)) * W.length = (j * W.length : Nat) + W.length + (d * W.length : Nat) := by
    push_cast
    rw [Int.add_mul, Int.add_mul, Int.one_mul]
   rw [e3] at hge
   rw [e1, e2] at hgc
   generalize j * W.length = A at *
   generalize d * W.length = B at *
   generalize d * (W.length + 3) = D at *
   omega
  ·have : cf = 0 ∧ ct = P.length := by omega
   rw [this.1, this.2]
 have hnext : (bestE (frontsT W P)).t = factT W P := by rw [hbest.2, hcc, cut_all h0 h2]
 rw [factorE_go hg (by omega), hnext]
 have hstop : (bestE (factT W P)).g ≤ 0 := by
  unfold bestE
  rw [fact_cuts hP hnd]
  exact Int.le_refl _
 rw [factorE_stop hstop]
 exact er_fact W P
end Go.Rx

