/- Part of the proof: conditions and contracts of functions of this program. No condition of its own. -/
import Derived.Test.YtmggihkjgbnhbaaPC15I
import Derived.Test.YtmggihkjgbnhbaaPVLC
set_option linter.unusedVariables false
set_option linter.unusedSimpArgs false
set_option linter.unusedSectionVars false
namespace Go.Proofs.Ytmggihkjgbnhbaa
open Go Go.Eng Go.Rx Go.Proofs Go.RowKit
set_option maxRecDepth 100000
def bytesN (s : ByteArray) : List Nat := s.data.toList.map fun b => b.toNat
theorem strBytes_eq (s : ByteArray) : strBytes s = (bytesN s).map fun c : Nat => Value.int .u8 c := by
 unfold strBytes bytesN
 rw [List.map_map]; rfl
theorem bytesN_len (s : ByteArray) : (bytesN s).length = s.size := by unfold bytesN; rw [List.length_map, Array.length_toList]; rfl
theorem bytesN_lt (s : ByteArray) : ∀ c ∈ bytesN s, c < 256 := by
 intro c hc
 unfold bytesN at hc
 obtain ⟨b, _, rfl⟩ := List.mem_map.1 hc
 exact b.toBitVec.isLt
theorem strAt_eq {s : ByteArray} {k c : Nat} (h : (bytesN s)[k]? = some c) : strAt s k = (c : Int) := by
 unfold bytesN at h
 rw [List.getElem?_map] at h
 obtain ⟨b, hb, rfl⟩ := Option.map_eq_some_iff.1 h
 unfold strAt
 rw [List.getD_eq_getElem?_getD, hb]; rfl
theorem letters_good : ∀ c : Fin 256, (letterT c.val).good = true := by decide +kernel
theorem letter_good {c : Nat} (h : c < 256) : (letterT c).good = true := letters_good ⟨c, h⟩
def textE (l : List Nat) : T := (mkJoin 3 none 0 (l.map letterT)).er
theorem szL_letters : ∀ l : List Nat, szL (l.map letterT) = l.length
 | [] => rfl
 | c :: l => by
  rw [List.map_cons, szL_cons, szL_letters l, List.length_cons]
  have : (letterT c).nodes.length = 1 := rfl
  omega
theorem letters_okk {l : List Nat} (h : ∀ c ∈ l, c < 256) : ∀ x ∈ l.map letterT, Okk 3 x := by
 intro x hx
 obtain ⟨c, hc, rfl⟩ := List.mem_map.1 hx
 exact ⟨letter_good (h c hc), by show (2 : Int) ≠ 3; omega, fun _ => by show (2 : Int) ≠ 1; omega⟩
theorem cx_Text (s : ByteArray) (hs : (bytesN s).length ≤ 9000) (m : Mem) : CX Try.prog 10 #[.string s] m [] (TreeR (fun t => t.er = textE (bytesN s) ∧ t.caps)) := by
 apply cx_rx_Text
 unfold VC_rx_Text
 intro b
 have hlen := bytesN_len s
 have hsz : (if (10000 : Int) < (s.size : Int) then (10000 : Int) else (s.size : Int)) = (s.size : Nat) := by rw [if_neg (by omega)]
 simp only [hsz]
 refine ⟨fun xs css tvs m' q => ∃ (k : Nat) (a : Option Addr) (c : Nat), k ≤ s.size ∧ xs = [.slice a k c, .int .i64 k] ∧ tvs = [.slice a k c] ∧ RepL m' a (((bytesN s).take k).map letterT) ∧ q = s.size - k, ⟨_, 0, none, 0, by omega, rfl, rfl, ⟨by simp, .inl rfl⟩, rfl⟩, ?_⟩
 rintro a0 n0 c0 i0 a n c m1 q hm1 ⟨k, a', c', hk, hxs, htv, hL, hq⟩
 simp only [List.cons.injEq, Value.slice.injEq, Value.int.injEq, true_and, and_true] at hxs htv
 obtain ⟨⟨rfl, rfl, rfl⟩, rfl⟩ := hxs
 obtain ⟨rfl, rfl, rfl⟩ := htv
 refine br_intro (fun hlt => ?_) (fun hge => ?_)
 ·have hlt' : n < s.size := by have := of_decide_eq_true hlt; omega
  obtain ⟨ch, hch⟩ := at_some (l := bytesN s) (k := n) (by omega)
  have hc256 := bytesN_lt s ch (List.mem_of_getElem? hch)
  have hat : strAt s ((n : Int).toNat) = (ch : Int) := strAt_eq hch
  refine ⟨⟨by omega, by omega⟩, ?_⟩
  rw [hat]
  refine call_any (cx_Byte ch hc256 m1) tree_fits (tree_k fun t m2 hm2 hr ht => ?_)
  subst ht
  intro b3 hf3
  have hln : (((bytesN s).take n).map letterT).length = n := by rw [List.length_map, List.length_take]; omega
  have hw : IntKind.i64.wrap ((n : Int) + 1) = ((n + 1 : Nat) : Int) := by rw [wrap64 (by omega) (by omega)]; rfl
  rw [hw]
  have hle := Mem.le_add hf3 (letterT ch).cs
  refine ⟨.inl rfl, Rx.cellsL (((bytesN s).take n).map letterT), (letterT ch).cs, by rw [cellsL_len, hln], rfl, (row_of_repL hL).mono (Mem.le_trans hm2 hle), .inr ⟨b3, 0, rfl, fun j v hj => by rw [Nat.zero_add, Mem.add_same]; exact hj⟩, cs_one _, by omega, by omega, fun a2 c2 m3 hm3 hrow3 => ⟨by trivial, s.size - (n + 1), by omega, n + 1, a2, c2, by omega, rfl, rfl, ?_, rfl⟩⟩
  have hall : ((bytesN s).take (n + 1)).map letterT = ((bytesN s).take n).map letterT ++ [letterT ch] := by rw [take_at hch, List.map_append]; rfl
  rw [hall]
  refine repL_of ?_ ?_ (by rw [List.length_append, hln]; simp; omega)
  ·rw [cellsL_append, cells_one]; exact hrow3
  ·intro x hx
   rcases List.mem_append.1 hx with hx | hx
   ·exact (repL_reps hL x hx).mono (Mem.le_trans hm2 (Mem.le_trans hle hm3))
   ·rw [List.mem_singleton] at hx; subst hx; exact rep_letter _ _
 ·have hn : n = s.size := by have := of_decide_eq_false hge; omega
  subst hn
  rw [← hlen, List.take_length] at hL
  have hjn := cx_joined 3 (.inl rfl) a c ((bytesN s).map letterT) T1 m1 hL (rep_T1 _) (by rw [List.length_map]; omega)
  rw [List.length_map, hlen] at hjn
  refine call_any hjn tree_fits (tree_k fun t m2 hm2 hr ht => ?_)
  exact ⟨m2, Mem.le_trans hm1 hm2, Mem.le_refl _, t, rfl, hr, join_mk (.inl rfl) (letters_okk (bytesN_lt s)) (by rw [szL_letters]; omega) (fun _ => rfl) ht, join_caps caps_T1 ht⟩
theorem textE_good {l : List Nat} (h : ∀ c ∈ l, c < 256) : (textE l).good = true ∧ (textE l).nodes.length ≤ 1 + l.length := by
 have hm := mkJoin_ok (.inl rfl) none 0 (letters_okk h)
 unfold textE
 rw [good_er, sz_er]
 refine ⟨hm.1, ?_⟩
 have := hm.2.1
 rw [szL_letters] at this
 omega
theorem cx_ltext (ws : List ByteArray) (a : Option Addr) (c : Nat) (m : Mem) (hw : rowRd m a (ws.map Value.string)) (hn : ws.length ≤ 20) (hs : ∀ s ∈ ws, (bytesN s).length ≤ 100) (hne : ws ≠ []) : CX Try.prog 32 #[.slice a ws.length c] m [] (TreeR (fun t => t.er = altE (ws.map fun s => textE (bytesN s)) ∧ t.caps)) := by
 apply cx_law15_text
 unfold VC_law15_text
 intro b
 refine ⟨fun xs css tvs m' q => ∃ (L : List T) (a : Option Addr) (c : Nat), L.length ≤ ws.length ∧ xs = [.slice a L.length c, .int .i64 (L.length : Nat)] ∧ tvs = [.slice a L.length c] ∧ RepL m' a L ∧ L.map T.er = (ws.take L.length).map (fun s => textE (bytesN s)) ∧ q = ws.length - L.length, ⟨_, [], none, 0, by simp, rfl, rfl, ⟨by simp, .inl rfl⟩, rfl, rfl⟩, ?_⟩
 rintro a0 n0 c0 i0 aa n cc m1 q hm1 ⟨L, a', c', hk, hxs, htv, hL, hLe, hq⟩
 simp only [List.cons.injEq, Value.slice.injEq, Value.int.injEq, true_and, and_true] at hxs htv
 obtain ⟨⟨rfl, rfl, rfl⟩, rfl⟩ := hxs
 obtain ⟨rfl, rfl, rfl⟩ := htv
 have hbt : ∀ s : ByteArray, ∀ c ∈ bytesN s, c < 256 := fun s => bytesN_lt s
 refine br_intro (fun hlt => ?_) (fun hge => ?_)
 ·have hlt' : L.length < ws.length := by have := of_decide_eq_true hlt; omega
  obtain ⟨s, hsx⟩ := at_some hlt'
  have hsm := List.mem_of_getElem? hsx
  rcases hw.mono hm1 with hw0 | ⟨bw, ow, haw, hrw⟩
  ·have := congrArg List.length hw0
   rw [List.length_map] at this
   simp only [List.length_nil] at this
   omega
  have hv : m1 bw (ow + L.length) = some (.string s) := hrw _ _ (by rw [List.getElem?_map, hsx]; rfl)
  refine ⟨bw, ow, haw, ⟨by omega, by omega⟩, .string s, by rw [Int.toNat_natCast, Nat.mul_one]; exact hv, ?_⟩
  refine call_any (cx_Text s (by have := hs s hsm; omega) m1) tree_fits (tree_k fun t m2 hm2 hr ⟨ht, htc⟩ => ?_)
  intro b3 hf3
  have hw1 : IntKind.i64.wrap ((L.length : Int) + 1) = ((L.length + 1 : Nat) : Int) := by rw [wrap64 (by omega) (by omega)]; rfl
  rw [hw1]
  have hle := Mem.le_add hf3 t.cs
  refine ⟨.inl rfl, Rx.cellsL L, t.cs, cellsL_len L, rfl, (row_of_repL hL).mono (Mem.le_trans hm2 hle), .inr ⟨b3, 0, rfl, fun j v hj => by rw [Nat.zero_add, Mem.add_same]; exact hj⟩, cs_one _, by omega, by omega, fun a2 c2 m3 hm3 hrow3 => ⟨by trivial, ws.length - (L.length + 1), by omega, L ++ [t], a2, c2, by simp; omega, by simp, by simp, ?_, ?_, by simp⟩⟩
  ·refine repL_of ?_ ?_ (by simp; omega)
   ·rw [cellsL_append, cells_one]; exact hrow3
   ·intro x hx
    rcases List.mem_append.1 hx with hx | hx
    ·exact (repL_reps hL x hx).mono (Mem.le_trans hm2 (Mem.le_trans hle hm3))
    ·rw [List.mem_singleton] at hx; subst hx; exact hr.mono (Mem.le_trans hle hm3)
  ·rw [show (L ++ [t]).length = L.length + 1 by simp, take_at hsx, List.map_append, List.map_append, hLe, List.map_cons, List.map_nil, ht]; rfl
 ·have hn' : L.length = ws.length := by have := of_decide_eq_false hge; omega
  rw [hn', List.take_length] at hLe
  have hgood : ∀ x ∈ L, x.good = true ∧ x.nodes.length ≤ 101 := by
   intro x hx
   have : x.er ∈ L.map T.er := List.mem_map_of_mem hx
   rw [hLe] at this
   obtain ⟨s, hs1, hs2⟩ := List.mem_map.1 this
   have hg := textE_good (hbt s)
   rw [hs2, good_er, sz_er] at hg
   have := hs s hs1
   exact ⟨hg.1, by omega⟩
  have hszL : szL L ≤ 101 * L.length := by
   clear hL hLe hn' hge hq hk
   induction L with
   | nil => simp [szL, nodesL]
   | cons x L ih =>
    have h1 := (hgood x (by simp)).2
    have h2 := ih fun y hy => hgood y (by simp [hy])
    rw [szL_cons, List.length_cons]; omega
  refine call_any (cx_Or L aa cc m1 hL (by omega) (fun x hx => good_clean (hgood x hx).1 (by have := (hgood x hx).2; omega))) tree_fits (tree_k fun t m2 hm2 hr ⟨ja, jc, hj⟩ => ?_)
  have hL0 : L ≠ [] := fun e => by
   subst e
   simp at hn'
   exact hne (List.length_eq_zero_iff.1 hn'.symm)
  refine ⟨m2, Mem.le_trans hm1 hm2, Mem.le_refl _, t, rfl, hr, ?_, join_caps caps_T0 hj⟩
  rw [or_spec (fun x hx => (hgood x hx).1) hL0 (by omega) hj, altE_er, hLe]
end Go.Proofs.Ytmggihkjgbnhbaa

