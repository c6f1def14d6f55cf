/- Part of the proof: conditions and contracts of functions of this program. No condition of its own. -/
import Derived.Test.YtmggihkjgbnhbaaPC15U
import Derived.Test.YtmggihkjgbnhbaaPVLQ
import Derived.Test.YtmggihkjgbnhbaaMr
set_option linter.unusedVariables false
set_option linter.unusedSimpArgs false
set_option linter.unusedSectionVars false
namespace Go.Proofs.Ytmggihkjgbnhbaa
open Go Go.Eng Go.Rx Go.Proofs Go.RowKit
set_option maxRecDepth 100000
def gB (x : Nat) : Nat := 97 + x % 4
theorem gB_in (x : Nat) : 97 ≤ gB x ∧ gB x < 111 := by unfold gB; omega
theorem wrap_gB : ∀ x : Fin 256, IntKind.u8.wrap (97 + Int.tmod (x.val : Int) 4) = ((gB x.val : Nat) : Int) := by decide +kernel
theorem wrap_e : ∀ i : Fin 10, IntKind.u8.wrap (101 + IntKind.u8.wrap (i.val : Int)) = ((101 + i.val : Nat) : Int) := by decide +kernel
def mkB (l : List Nat) : ByteArray := ⟨(l.map UInt8.ofNat).toArray⟩
theorem bytesN_mkB {l : List Nat} (h : ∀ c ∈ l, c < 256) : bytesN (mkB l) = l := by
 unfold bytesN mkB
 simp only [List.map_map]
 have : l.map ((fun b : UInt8 => b.toNat) ∘ UInt8.ofNat) = l.map id := by
  refine List.map_congr_left fun c hc => ?_
  have := h c hc
  simp [UInt8.toNat_ofNat', Nat.mod_eq_of_lt this]
 rw [this, List.map_id]
def Byts (L : List Nat) : Value → Mem → List (List Value) → Prop := fun v m' _ => ∃ a c, v = .slice a L.length c ∧ Byt m' a L
theorem byts_fits {L : List Nat} : ∀ (v : Value) (m' : Mem) (css : List (List Value)), Byts L v m' css → Shape.fits .slice v = true := fun v _ _ ⟨a, c, e, _⟩ => by rw [e]; rfl
theorem byt_row {m : Mem} {a : Option Addr} {L : List Nat} (h : Byt m a L) : rowRd m a (L.map fun c : Nat => Value.int .u8 c) := by
 rcases h.1 with h | h
 ·exact .inl (by rw [h]; rfl)
 ·exact .inr h
theorem row_byt {m : Mem} {a : Option Addr} {L : List Nat} (h : rowRd m a (L.map fun c : Nat => Value.int .u8 c)) (hl : ∀ c ∈ L, c < 256) : Byt m a L := by
 refine ⟨?_, hl⟩
 rcases h with h | h
 ·exact .inl (by simpa using h)
 ·exact .inr h
theorem byt_get {m : Mem} {a : Option Addr} {L : List Nat} (h : Byt m a L) {i c : Nat} (hi : L[i]? = some c) : ∃ b o, a = some ⟨b, o, none⟩ ∧ m b (o + i) = some (.int .u8 (c : Nat)) := by
 rcases h.1 with h | ⟨b, o, ha, h⟩
 ·rw [h] at hi; simp at hi
 ·exact ⟨b, o, ha, h i _ (by rw [List.getElem?_map, hi]; rfl)⟩
theorem byt_take {m : Mem} {a : Option Addr} {L : List Nat} (h : Byt m a L) (k : Nat) : Byt m a (L.take k) := by
 refine ⟨?_, fun c hc => h.2 c (List.mem_of_mem_take hc)⟩
 rcases h.1 with h | ⟨b, o, ha, h⟩
 ·left; rw [h]; simp
 ·refine .inr ⟨b, o, ha, fun j v hj => h j v ?_⟩
  rw [List.map_take] at hj
  rw [List.getElem?_take] at hj
  split at hj
  ·exact hj
  ·cases hj
theorem min_nat (k n : Nat) : (if (k : Int) < (n : Nat) then (k : Int) else (n : Nat)) = ((min k n : Nat) : Int) := by split <;> omega
theorem cx_word (l : List Nat) (a : Option Addr) (c : Nat) (m : Mem) (hl : Byt m a l) (hc : l.length ≤ c) : CX Try.prog 9 #[.slice a l.length c] m [] (Byts ((l.take 8).map gB)) := by
 apply cx_law15_word
 unfold VC_law15_word
 have hm8 := min_nat 8 l.length
 simp only [show ((8 : Nat) : Int) = 8 from rfl] at hm8
 simp only [hm8, Int.toNat_natCast, Nat.sub_zero]
 have hk8 : min 8 l.length ≤ 8 ∧ min 8 l.length ≤ l.length := ⟨Nat.min_le_left _ _, Nat.min_le_right _ _⟩
 generalize hK : min 8 l.length = K at *
 refine ⟨⟨by omega, by omega⟩, fun xs css tvs m' q => ∃ (i : Nat) (a' : Option Addr) (c' : Nat), i ≤ K ∧ xs = [.slice a' i c', .int .i64 i] ∧ tvs = [.slice a' i c'] ∧ Byt m' a' ((l.take i).map gB) ∧ q = K - i, ⟨_, 0, _, _, by omega, rfl, rfl, ⟨.inl rfl, by simp⟩, rfl⟩, ?_⟩
 rintro a1 n1 c1 z a2 n2 c2 m1 q hm1 ⟨i, a', c', hi, hxs, htv, hb, hq⟩
 simp only [List.cons.injEq, Value.slice.injEq, Value.int.injEq, true_and, and_true] at hxs htv
 obtain ⟨⟨rfl, rfl, rfl⟩, rfl⟩ := hxs
 obtain ⟨rfl, rfl, rfl⟩ := htv
 have hgl : ∀ j, j ≤ K → ((l.take j).map gB).length = j := fun j hj => by rw [List.length_map, List.length_take]; omega
 refine br_intro (fun hlt => ?_) (fun hge => ?_)
 ·have hlt : n2 < K := by have := of_decide_eq_true hlt; omega
  obtain ⟨x, hx⟩ := at_some (l := l) (k := n2) (by omega)
  obtain ⟨b0, o0, ha0, hrd⟩ := byt_get (hl.mono hm1) hx
  have hx256 := hl.2 x (List.mem_of_getElem? hx)
  have hw : IntKind.i64.wrap ((n2 : Int) + 1) = ((n2 + 1 : Nat) : Int) := by rw [wrap64 (by omega) (by omega)]; rfl
  have hg := wrap_gB ⟨x, hx256⟩
  simp only at hg
  simp only [hw, Int.toNat_natCast, Nat.mul_one]
  refine ⟨b0, o0, ha0, ⟨by omega, by omega⟩, _, hrd, chk_intro rfl ⟨by decide, fun b3 hf3 => ⟨.inl (by trivial), ((l.take n2).map gB).map (fun c : Nat => Value.int .u8 c), [.int .u8 (gB x : Nat)], by rw [List.length_map, hgl _ (by omega)], rfl, (byt_row hb).mono (Mem.le_add hf3 _), .inr ⟨b3, 0, rfl, fun j v hj => ?_⟩, fun u hu => by simp at hu; subst hu; rfl, by omega, by omega, fun a4 c4 m4 hm4 hrow => ⟨K - (n2 + 1), by omega, n2 + 1, a4, c4, by omega, rfl, rfl, ?_, rfl⟩⟩⟩⟩
  ·rw [Nat.zero_add, Mem.add_same, show intOf (.int .u8 (x : Nat)) = (x : Int) from rfl, hg]; exact hj
  ·refine row_byt ?_ (fun c hc => by obtain ⟨y, _, rfl⟩ := List.mem_map.1 hc; have := gB_in y; omega)
   rw [take_at hx, List.map_append, List.map_append]; exact hrow
 ·have : n2 = K := by have := of_decide_eq_false hge; omega
  subst this
  refine ret_all (Mem.le_trans hm1 (Mem.le_refl _)) ⟨a2, c2, ?_, ?_⟩
  ·rw [List.length_map, List.length_take, hK]
  ·rw [← hK] at hb
   have : l.take (min 8 l.length) = l.take 8 := by rw [List.take_eq_take_iff]; omega
   rwa [this] at hb
theorem textE_two {W : List Nat} (h : 2 ≤ W.length) : textE W = cat3 (lets W) := by
 match W, h with
 | x :: y :: l, _ =>
  unfold textE
  show (nodeT 3 0 0 none 0 _).er = _
  unfold nodeT
  rw [T.er, erL_map]
  have := er_lets (x :: y :: l)
  exact congrArg (fun l => T.node 3 0 0 0 0 0 0 none 0 l) this
theorem cat_front {W : List Nat} {r : List T} (h2 : 2 ≤ (lets W ++ r).length) (hr : ∀ x ∈ r, (x.k ≠ 3 ∧ x.k ≠ 1) ∧ x.er = x) {x : T} (hx : flat1 3 1 x = r) : catE [cat3 (lets W), x] = cat3 (lets W ++ r) := by
 have hall : ∀ z ∈ lets W ++ r, (z.k ≠ 3 ∧ z.k ≠ 1) ∧ z.er = z := fun z hz => by
  rcases List.mem_append.1 hz with hz | hz
  ·refine ⟨by rw [lets_k z hz]; omega, ?_⟩
   obtain ⟨c, _, rfl⟩ := List.mem_map.1 hz; rfl
  ·exact hr z hz
 rw [← catE_cat h2 (fun z hz => (hall z hz).1) (fun z hz => (hall z hz).2)]
 unfold catE
 rw [flat_self fun z hz => (hall z hz).1]
 have : flatL 3 1 [cat3 (lets W), x] = lets W ++ r := by
  unfold flatL
  rw [List.map_cons, List.map_cons, List.map_nil, hx]
  simp only [List.flatten_cons, List.flatten_nil, List.append_nil]; rfl
 rw [this]
theorem cat_of_front (W : List Nat) (p : Nat × Nat) : catE [cat3 (lets W), backT p] = frontT W p :=
 cat_front (by simp) (fun x hx => by simp at hx; rcases hx with rfl | rfl <;> exact ⟨⟨show (2 : Int) ≠ 3 by omega, show (2 : Int) ≠ 1 by omega⟩, rfl⟩) rfl
theorem cat_of_fact {W : List Nat} (hW : 2 ≤ W.length) (P : List (Nat × Nat)) : catE [cat3 (lets W), alt4 (P.map backT)] = factT W P :=
 cat_front (by simp [lets]; omega) (fun x hx => by rw [List.mem_singleton] at hx; subst hx; exact ⟨⟨show (4 : Int) ≠ 3 by omega, show (4 : Int) ≠ 1 by omega⟩, er_alt (er_backs P)⟩) rfl
theorem front_good {W : List Nat} (hW : ∀ c ∈ W, c < 256) {p : Nat × Nat} (hp : InR p) : (frontT W p).good = true ∧ (backT p).good = true ∧ (cat3 (lets W)).good = true ∨ W.length < 2 := by
 by_cases h2 : W.length < 2
 ·exact .inr h2
 left
 have g1 : (backT p).good = true := by
  have := (textE_good (l := [p.1, p.2]) (fun c hc => by unfold InR at hp; simp at hc; omega)).1
  exact this
 have g2 : (cat3 (lets W)).good = true := by rw [← textE_two (by omega)]; exact (textE_good hW).1
 refine ⟨?_, g1, g2⟩
 rw [← cat_of_front]
 exact (catE_made (fun x hx => by simp at hx; rcases hx with rfl | rfl; exact g2; exact g1)).good
def prs (B : List Nat) : List (Nat × Nat) := (List.range B.length).map fun i => (101 + i, gB (B.getD i 0))
theorem prs_len (B : List Nat) : (prs B).length = B.length := by simp [prs]
theorem prs_at {B : List Nat} {i b : Nat} (h : B[i]? = some b) : (prs B)[i]? = some (101 + i, gB b) := by
 have hlt := (List.getElem?_eq_some_iff.1 h).1
 unfold prs
 rw [List.getElem?_map, List.getElem?_range hlt]
 simp [List.getD_eq_getElem?_getD, h]
theorem prs_in {B : List Nat} (h : B.length ≤ 6) : ∀ p ∈ prs B, InR p := fun p hp => by
 obtain ⟨i, hi, rfl⟩ := List.mem_map.1 hp
 have := List.mem_range.1 hi
 exact ⟨by simp only; omega, gB_in _⟩
theorem prs_nodup (B : List Nat) : ((prs B).map (·.1)).Nodup := by
 unfold prs
 rw [List.map_map]
 refine List.Pairwise.map _ (fun a b h => ?_) List.nodup_range
 simp only [Function.comp]; omega
end Go.Proofs.Ytmggihkjgbnhbaa

