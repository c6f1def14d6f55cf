/- Part of the proof: conditions and contracts of functions of this program. No condition of its own. -/
import Derived.Test.YtmggihkjgbnhbaaPVFC
import Derived.Test.YtmggihkjgbnhbaaPC13P
import Derived.Shelf.Spec.SlicesGrow
set_option linter.unusedVariables false
set_option linter.unusedSimpArgs false
namespace Go.Proofs.Ytmggihkjgbnhbaa
open Go Go.Eng Go.Rx Go.Proofs Go.RowKit Go.Shelf
set_option maxRecDepth 100000
def growRen (g s e : Nat) : Ren := ⟨fun | 4 => g | n => n, fun | 0 => 0 | 3 => 3 | 4 => 4 | 9 => 9 | 20 => 20 | 22 => s | 25 => e | n => n, fun n => n⟩
theorem lay_nd : Lays8.n4 Try.prog (growRen 83 25 30) :=
 {mixed := mix, f4 := ⟨Try.f83.name, by kernel_rfl, by kernel_rfl⟩
  t0 := by kernel_rfl, a0 := Try.isAgg0, z0 := Try.sizeOf0, v0 := Try.zeroValue0
  t3 := Try.underlying3, a3 := Try.isAgg3, z3 := Try.sizeOf3, v3 := Try.zeroValue3
  t4 := Try.underlying4, a4 := Try.isAgg4, z4 := Try.sizeOf4, v4 := Try.zeroValue4
  t9 := Try.underlying9, a9 := Try.isAgg9, z9 := Try.sizeOf9, v9 := Try.zeroValue9
  t20 := Try.underlying20, a20 := Try.isAgg20, z20 := Try.sizeOf20, v20 := Try.zeroValue20
  t22 := Try.underlying25, a22 := Try.isAgg25, z22 := Try.sizeOf25, v22 := Try.zeroValue25 }
theorem cxt_grow_any {P : Program} {g s e esz by' : Nat} {fn : Func} (L : Lays8.n4 P (growRen g s e)) (hent : Enters P g) (hi : (P.info? e).map (fun i => (i.size, i.bytes)) = some (esz, by')) (hz : ((P.info? e).bind (·.zero)).map (·.cells.size) = some esz) (hpos : 0 < esz) (n : Nat) (m : Mem) (hn : n * by' ≤ 140737488355328) (hn2 : n ≤ 4611686018427387904) :
  CXT P g #[.slice none 0 0, .int .i64 n] m esz (fun v _ _ => ∃ a c, v = .slice a 0 c) := by
 refine ⟨hent, fun w hs => ?_⟩
 obtain ⟨i0, h0, hi0⟩ := Option.map_eq_some_iff.1 hi
 obtain ⟨z, hz1, hz2⟩ := Option.map_eq_some_iff.1 hz
 rw [h0] at hz1
 simp only [Option.bind_some] at hz1
 have e1 : i0.size = esz := congrArg Prod.fst hi0
 have e2 : i0.bytes = by' := congrArg Prod.snd hi0
 by_cases hn0 : n = 0
 ·subst hn0
  refine (Any8.slices_Grow_room L none 0 0 0 w (by omega) (by omega) (by omega) (by omega)).mono ?_
  rintro e w' ⟨rfl, rfl⟩
  exact ⟨_, m, rfl, Mem.le_refl _, hs, fun b o v h => .inl h, Keep.refl _ _ _, .inl rfl, fun b hb => by simp [Tok.blk] at hb, none, 0, rfl⟩
 ·refine (Any8.slices_Grow_grow L i0 z h0 hz1 (by omega) none 0 0 n [] w (by omega) (by omega) (by rw [e2, Nat.zero_add]; exact hn) (by omega) (by simp) (fun _ => rfl) (fun a h => by cases h)).mono ?_
  rintro e w' ⟨rfl, hw'⟩
  have hheap : w'.heap = w.heap.push (.cells (#[] ++ Builtin.zeroCells z.cells (0 + n - 0) ++ Builtin.zeroCells z.cells (grownCap w (0 + n) 0 ((growRen g s e).t 25) - (0 + n))) ((growRen g s e).t 25) (0, 0)) := by rw [hw']; rfl
  have hb : w'.heap[w.heap.size]? = some (.cells (#[] ++ Builtin.zeroCells z.cells (0 + n - 0) ++ Builtin.zeroCells z.cells (grownCap w (0 + n) 0 ((growRen g s e).t 25) - (0 + n))) ((growRen g s e).t 25) (0, 0)) := by
   rw [hheap, Array.getElem?_push_size]
  have hk : Keep w.heap.size [] w w' := by
   rw [hw']
   exact (Keep.drew w).trans (Keep.alloc (B := w.heap.size) (w := w.drew) (show w.heap.size ≤ w.drew.heap.size from Nat.le_refl _) (wrObj0 _ _))
  have hge := grownCap_ge w (0 + n) 0 ((growRen g s e).t 25)
  refine ⟨_, m, rfl, Mem.le_refl _, fun b o v hv => ?_, fun b o v h => .inl h, hk, .inr ⟨w.heap.size, 0, _, _, _, _, rfl, by omega, hb, ?_, ?_, ?_⟩, ?_, _, _, rfl⟩
  ·have hlt := hs.lt hv
   rw [cell?_eq (hk.block b hlt (by simp))]; exact hs b o v hv
  ·generalize grownCap w (0 + n) 0 ((growRen g s e).t 25) = G at *
   simp only [Array.size_append, size_zeroCells, hz2]
   have : G * esz = (0 + n - 0) * esz + (G - (0 + n)) * esz := by rw [← Nat.add_mul]; congr 1; omega
   simp only [List.size_toArray, List.length_nil]
   omega
  ·intro o _
   simp
  ·intro o _
   cases hm : m w.heap.size o with
   | none => rfl
   | some v => have := hs.lt hm; omega
  ·intro b hb'
   simp [Tok.blk] at hb'
   omega
theorem cxt_grow_nd (n : Nat) (m : Mem) (hn : n ≤ 1000000) : CXT Try.prog 83 #[.slice none 0 0, .int .i64 n] m 8 (fun v _ _ => ∃ a c, v = .slice a 0 c) :=
 cxt_grow_any (by' := 80) (fn := Try.f83) lay_nd (Go.Eng.enters_of Try.func83 (by kernel_rfl) (by kernel_rfl)) (by kernel_rfl) (by kernel_rfl) (by decide) n m (by omega) (by omega)
structure Part where
 a : Option Addr
 n : Nat
 c : Nat
 xs : List Value
def sumN (L : List Part) : Nat := (L.map Part.n).sum
def allX (L : List Part) : List Value := (L.map Part.xs).flatten
theorem sumN_snoc (L : List Part) (q : Part) : sumN (L ++ [q]) = sumN L + q.n := by simp [sumN]
theorem allX_snoc (L : List Part) (q : Part) : allX (L ++ [q]) = allX L ++ q.xs := by simp [allX]
theorem sumN_take (L : List Part) (k : Nat) : sumN (L.take k) ≤ sumN L := by
 have e : L = L.take k ++ L.drop k := (List.take_append_drop k L).symm
 have : sumN L = sumN (L.take k) + sumN (L.drop k) := by
  have e2 := congrArg sumN e
  simp only [sumN, List.map_append, List.sum_append] at e2 ⊢
  exact e2
 omega
structure Lies (m : Mem) (pa : Option Addr) (esz : Nat) (L : List Part) : Prop where
 at' : ∀ i q, L[i]? = some q → ∃ b o, pa = some ⟨b, o, none⟩ ∧ m b (o + i) = some (.slice q.a q.n q.c)
 row : ∀ q ∈ L, rowRd m q.a q.xs ∧ q.xs.length = q.n * esz ∧ ∀ u ∈ q.xs, u.oneCell' = true
theorem Lies.len {m : Mem} {pa : Option Addr} {esz : Nat} : ∀ {L : List Part}, (∀ q ∈ L, q.xs.length = q.n * esz) → (allX L).length = sumN L * esz
 | [], _ => by simp [allX, sumN]
 | q :: L, h => by
  have := Lies.len (m := m) (pa := pa) (L := L) fun x hx => h x (by simp [hx])
  simp only [allX, sumN, List.map_cons, List.flatten_cons, List.length_append, List.sum_cons, h q (by simp), Nat.add_mul] at *
  omega
theorem cx_concat_nd (L : List Part) (pa : Option Addr) (pc : Nat) (m : Mem) (h : Lies m pa 8 L) (hsum : sumN L ≤ 100000) (hL : L.length ≤ 1000) : CX Try.prog 82 #[.slice pa L.length pc] m [] (fun v m' _ => ∃ a c, v = .slice a (sumN L) c ∧ rowRd m' a (allX L)) := by
 apply cx_slices_Concat_rx_Node_rx_Node
 unfold VC_slices_Concat_rx_Node_rx_Node
 refine ⟨fun xs css tvs m' q => ∃ k : Nat, k ≤ L.length ∧ xs = [.int .i64 (sumN (L.take k) : Nat), .int .i64 k] ∧ q = L.length - k, ⟨L.length, 0, by omega, rfl, rfl⟩, ?_⟩
 rintro z1 z2 m1 q hm1 ⟨k, hk, hxs, hq⟩
 obtain ⟨rfl, rfl⟩ : z1 = (sumN (L.take k) : Nat) ∧ z2 = k := by simpa using hxs
 have htk := sumN_take L k
 refine br_intro (fun hlt => ?_) (fun hge => ?_)
 ·have hlt' : k < L.length := by have := of_decide_eq_true hlt; omega
  obtain ⟨p, hp⟩ := at_some hlt'
  obtain ⟨b, o, ha, hv⟩ := h.at' k p hp
  have htk1 := sumN_take L (k + 1)
  rw [take_at hp, sumN_snoc] at htk1
  have hw : IntKind.i64.wrap ((k : Int) + 1) = ((k + 1 : Nat) : Int) := by rw [wrap64 (by omega) (by omega)]; rfl
  have hw2 : IntKind.i64.wrap (((sumN (L.take k) : Nat) : Int) + ((slN (.slice p.a p.n p.c) : Nat) : Int)) = ((sumN (L.take (k + 1)) : Nat) : Int) := by
   rw [take_at hp, sumN_snoc]
   simp only [slN]
   rw [wrap64 (by omega) (by omega)]; push_cast; rfl
  simp only [Int.toNat_natCast, Nat.mul_one]
  refine ⟨b, o, ha, ⟨by omega, by omega⟩, .slice p.a p.n p.c, hm1 _ _ _ hv, chk_intro rfl ?_⟩
  simp only [hw2, hw]
  exact br_intro (fun hneg => absurd (of_decide_eq_true hneg) (by omega)) (fun _ => ⟨L.length - (k + 1), by omega, k + 1, by omega, rfl, rfl⟩)
 ·have hkL : k = L.length := by have := of_decide_eq_false hge; omega
  subst hkL
  rw [List.take_length]
  refine ⟨_, cxt_grow_nd (sumN L) m1 (by omega), (fun v _ _ ⟨a, c, e⟩ => by rw [e]; rfl), ?_⟩
  rintro a n c m2 hm2 ⟨a0, c0, hv0⟩
  simp only [Value.slice.injEq] at hv0
  obtain ⟨rfl, rfl, rfl⟩ := hv0
  refine ⟨fun xs css tvs m' q => ∃ (k : Nat) (a : Option Addr) (c : Nat), k ≤ L.length ∧ xs = [.slice a (sumN (L.take k)) c, .int .i64 k] ∧ tvs = [.slice a (sumN (L.take k)) c] ∧ rowRd m' a (allX (L.take k)) ∧ q = L.length - k, ⟨L.length, 0, _, _, by omega, rfl, rfl, .inl rfl, rfl⟩, ?_⟩
  rintro a4 n4 c4 z5 a5 n5 c5 m3 q3 hm3 ⟨j, a', c', hj, hxs3, htv3, hrow3, hq3⟩
  simp only [List.cons.injEq, Value.slice.injEq, Value.int.injEq, true_and, and_true] at hxs3 htv3
  obtain ⟨⟨rfl, rfl, rfl⟩, rfl⟩ := hxs3
  obtain ⟨rfl, rfl, rfl⟩ := htv3
  have hM3 := Mem.le_trans hm1 (Mem.le_trans hm2 hm3)
  refine br_intro (fun hlt => ?_) (fun hge => ?_)
  ·have hlt' : j < L.length := by have := of_decide_eq_true hlt; omega
   obtain ⟨p, hp⟩ := at_some hlt'
   obtain ⟨b, o, ha, hv⟩ := h.at' j p hp
   obtain ⟨hpr, hpl, hpo⟩ := h.row p (List.mem_of_getElem? hp)
   have htk1 := sumN_take L (j + 1)
   rw [take_at hp, sumN_snoc] at htk1
   have hw : IntKind.i64.wrap ((j : Int) + 1) = ((j + 1 : Nat) : Int) := by rw [wrap64 (by omega) (by omega)]; rfl
   simp only [Int.toNat_natCast, Nat.mul_one, hw]
   refine ⟨b, o, ha, ⟨by omega, by omega⟩, .slice p.a p.n p.c, hM3 _ _ _ hv, chk_intro rfl ⟨by first | exact .inl trivial | exact .inl rfl, allX (L.take j), p.xs, ?_, by simpa [slN] using hpl, hrow3, hpr.mono hM3, hpo, ?_, ?_, fun a6 c6 m6 hm6 hrow6 => ⟨by trivial, L.length - (j + 1), by omega, j + 1, a6, c6, by omega, ?_, ?_, ?_, rfl⟩⟩⟩
   ·simpa using Lies.len (m := m) (pa := pa) (L := L.take j) fun x hx => (h.row x (List.mem_of_mem_take hx)).2.1
   ·simp only [slN]; omega
   ·simp only [slN]; omega
   ·rw [take_at hp, sumN_snoc]; rfl
   ·rw [take_at hp, sumN_snoc]; rfl
   ·rw [take_at hp, allX_snoc]; exact hrow6
  ·have hjL : j = L.length := by have := of_decide_eq_false hge; omega
   subst hjL
   rw [List.take_length] at hrow3 ⊢
   exact ⟨m3, hM3, Mem.le_refl _, _, _, rfl, hrow3⟩
end Go.Proofs.Ytmggihkjgbnhbaa

