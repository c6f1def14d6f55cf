/- Part of the proof: conditions and contracts of functions of this program. No condition of its own. -/
import Derived.Test.YtmggihkjgbnhbaaPVM
import Derived.Test.YtmggihkjgbnhbaaPC13P
import Derived.Test.YtmggihkjgbnhbaaMr
set_option linter.unusedVariables false
set_option linter.unusedSimpArgs false
set_option linter.unusedSectionVars false
namespace Go.Proofs.Ytmggihkjgbnhbaa
open Go Go.Eng Go.Rx Go.Proofs Go.RowKit
set_option maxRecDepth 100000
theorem oneT (l : List T) : ∀ u ∈ Rx.cellsL l, u.oneCell' = true := by
 intro u hu
 simp only [Rx.cellsL, List.mem_flatten, List.mem_map] at hu
 obtain ⟨_, ⟨t, _, rfl⟩, h⟩ := hu
 simp only [T.cs, T.sl, List.mem_cons, List.not_mem_nil, or_false] at h
 rcases h with rfl | rfl | rfl | rfl | rfl | rfl | rfl | rfl <;> rfl
theorem cxt_clone_nd (a : Option Addr) (c : Nat) (l : List T) (m : Mem) (h : rowRd m a (Rx.cellsL l)) (hl : l.length ≤ 1000000000000) : CXT Try.prog 75 #[.slice a l.length c] m 8 (fun v m' _ => ∃ a' c', v = .slice a' l.length c' ∧ rowRd m' a' (Rx.cellsL l) ∧ l.length ≤ c' ∧ (l.length = 0 ∨ ∃ b, a' = some ⟨b, 0, none⟩ ∧ m.free b)) := by
 apply cxt_slices_Clone_rx_Node_rx_Node
 unfold VC_slices_Clone_rx_Node_rx_Node
 have hlen := cellsL_len l
 refine br_intro (fun ha => ?_) (fun ha => ⟨⟨rfl, Int.le_refl _, by decide, by decide⟩, fun b hf => ⟨.inl rfl, [], Rx.cellsL l, rfl, hlen, .inl rfl, h, oneT l, by omega, by omega, fun a' c' m' hm hrow htf => ⟨rfl, ?_⟩⟩⟩)
 ·obtain rfl : a = none := by simpa using ha
  have h0 : l = [] := by
   rcases h with h | ⟨_, _, h, _⟩
   ·rw [h] at hlen; exact List.eq_nil_of_length_eq_zero (by simp at hlen; omega)
   ·cases h
  subst h0
  exact ⟨rfl, none, 0, rfl, .inl rfl, Nat.le_refl _, .inl rfl⟩
 ·simp only [Nat.zero_add] at htf ⊢
  refine ⟨a', c', rfl, hrow, htf.1, ?_⟩
  rcases htf.2 with h1 | ⟨b', h1, h2 | h2⟩
  ·subst h1
   left
   rcases hrow with h3 | ⟨_, _, h3, _⟩
   ·have h4 : (Rx.cellsL l).length = 0 := congrArg List.length h3
    omega
   ·cases h3
  ·right; rw [← h2]; exact ⟨b, rfl, hf⟩
  ·exact .inr ⟨b', h1, h2⟩
theorem row_upd' {m : Mem} {b : Nat} {ts r : List T} {x t : T} (h : rowRd m (some ⟨b, 0, none⟩) (Rx.cellsL (ts ++ x :: r))) : rowRd (m.upd b (0 + ts.length * 8) t.cs) (some ⟨b, 0, none⟩) (Rx.cellsL (ts ++ t :: r)) := by
 rcases h with h | ⟨b', o', ha, h⟩
 ·have hl : (Rx.cellsL (ts ++ x :: r)).length = 0 := by rw [h]; rfl
  rw [cellsL_len, List.length_append, List.length_cons] at hl
  omega
 cases ha
 have e : ∀ y : T, Rx.cellsL (ts ++ y :: r) = Rx.cellsL ts ++ (y.cs ++ Rx.cellsL r) := fun y => by simp [Rx.cellsL]
 have h8 : ∀ y : T, y.cs.length = 8 := fun _ => rfl
 refine .inr ⟨b, 0, rfl, fun j v hj => ?_⟩
 rw [e] at hj
 unfold Mem.upd
 rw [Nat.zero_add, Nat.zero_add, h8]
 rcases Nat.lt_or_ge j (ts.length * 8) with hlt | hge
 ·rw [if_neg (by omega)]
  rw [List.getElem?_append_left (by rw [cellsL_len]; exact hlt)] at hj
  have := h j v (by rw [e, List.getElem?_append_left (by rw [cellsL_len]; exact hlt)]; exact hj)
  rwa [Nat.zero_add] at this
 ·rw [List.getElem?_append_right (by rw [cellsL_len]; exact hge), cellsL_len] at hj
  rcases Nat.lt_or_ge j (ts.length * 8 + 8) with hlt | hge2
  ·rw [if_pos ⟨rfl, hge, hlt⟩]
   rw [List.getElem?_append_left (by rw [h8]; omega)] at hj
   exact hj
  ·rw [if_neg (by omega)]
   rw [List.getElem?_append_right (by rw [h8]; omega), h8] at hj
   have := h j v (by
    rw [e, List.getElem?_append_right (by rw [cellsL_len]; exact hge), cellsL_len, List.getElem?_append_right (by rw [h8]; omega), h8]; exact hj)
   rwa [Nat.zero_add] at this
set_option maxHeartbeats 800000 in
theorem cx_copied (t : T) (m : Mem) (hr : Rep m t) (hz : t.nodes.length ≤ 10000) : CX Try.prog 58 #[t.v] m [] (TreeR fun t' => t'.er = t.er ∧ t'.caps) := by
 have hsz : szL t.subs ≤ 10000 := by rw [sz_eq] at hz; omega
 have hsl : t.subs.length ≤ 10000 := Nat.le_trans (len_szL _) hsz
 apply cx_rx_copied
 unfold VC_rx_copied
 intro b b1
 refine ⟨_, cxt_clone_nd t.a t.c t.subs m (row_of_repL hr.subs) (by omega), (fun v _ _ ⟨a, c, e, _⟩ => by rw [e]; rfl), ?_⟩
 rintro a n c m1 hm1 ⟨a', c', hv, hrow, hnc, hfree⟩
 simp only [Value.slice.injEq] at hv
 obtain ⟨rfl, rfl, rfl⟩ := hv
 have hreps : ∀ x ∈ t.subs, Rep m x := repL_reps hr.subs
 refine ⟨fun xs css tvs m' q => ∃ (k : Nat) (L : List T) (mb : Mem), k ≤ t.subs.length ∧ xs = [.int .i64 k] ∧ q = t.subs.length - k ∧ L.length = k ∧ L.map T.er = (t.subs.take k).map T.er ∧ m.le mb ∧ mb.le m' ∧ (t.subs.length = 0 ∨ ∃ b, a = some ⟨b, 0, none⟩ ∧ mb.free b) ∧ (∀ x ∈ L, Rep mb x ∧ x.caps) ∧ rowRd m' a (Rx.cellsL (L ++ t.subs.drop k)), ⟨_, 0, [], m, by omega, rfl, rfl, rfl, rfl, Mem.le_refl _, hm1, hfree, by simp, hrow⟩, ?_⟩
 rintro z m2 q _ ⟨k, L, mb, hk, hxs, hq, hLk, hLe, hmb, hmb2, hfr, hLr, hrow2⟩
 obtain rfl : z = k := by simpa using hxs
 refine br_intro (fun hlt => ?_) (fun hge => ?_)
 ·have hlt' : k < t.subs.length := by have := of_decide_eq_true hlt; omega
  obtain ⟨x, hx⟩ := at_some hlt'
  have hxr := hreps x (List.mem_of_getElem? hx)
  have hxz : x.nodes.length ≤ 10000 := by
   obtain ⟨h1, h2⟩ := List.getElem?_eq_some_iff.1 hx
   have := congrArg List.length (nodesL_split hx)
   unfold szL at hsz
   simp only [List.length_append] at this
   omega
  have hdrop : t.subs.drop k = x :: t.subs.drop (k + 1) := by
   rw [List.drop_eq_getElem_cons hlt', (List.getElem?_eq_some_iff.1 hx).2]
  rcases hfr with hfr | ⟨bk, rfl, hbk⟩
  ·omega
  obtain ⟨b0, o0, ha0, hrd⟩ := row_get hrow2 (i := k) (t := x) (by rw [List.getElem?_append_right (by omega), hLk, Nat.sub_self, hdrop]; rfl)
  cases ha0
  have hw : IntKind.i64.wrap ((k : Int) + 1) = ((k + 1 : Nat) : Int) := by rw [wrap64 (by omega) (by omega)]; rfl
  simp only [hw, Int.toNat_natCast]
  have hcx : CX Try.prog 58 #[x.v] m2 [] (TreeF mb m2 fun t' => t'.er = x.er ∧ t'.caps) := (cx_copied x mb (Rep.mono hmb x hxr) hxz).frame2 hmb2
  refine ⟨bk, 0, rfl, ⟨by omega, by omega⟩, _, _, _, _, _, _, _, _, hrd, fun b3 => chk_intro rfl ⟨fun _ _ _ => TreeF mb m2 fun t' => t'.er = x.er ∧ t'.caps, TreeF mb m2 fun t' => t'.er = x.er ∧ t'.caps, rfl, hcx, treeF_fits, treeF_k fun t' m0 m3 hm3 h0 h03 hsame hr' ht' => ⟨bk, 0, rfl, ⟨by omega, by omega⟩, fun M hM2 hM3 => ⟨rfl, by omega, by trivial, by trivial, t.subs.length - (k + 1), by omega, k + 1, L ++ [t'], m0, by omega, rfl, rfl, by simp [hLk], ?_, Mem.le_trans hmb h0, ?_, .inr ⟨bk, rfl, ?_⟩, ?_, ?_⟩⟩⟩⟩
  ·rw [List.map_append, hLe, take_at hx, List.map_append]
   simp [ht'.1]
  ·refine Mem.le_upd (Mem.le_trans h03 hM3) ?_ _ _
   intro o'
   have hc : m2 bk (0 + k * 8 + 0) = some (.int .u8 x.k) := hrd 0 _ rfl
   rw [hsame _ _ _ hc o']; exact hbk o'
  ·intro o'
   have hc : m2 bk (0 + k * 8 + 0) = some (.int .u8 x.k) := hrd 0 _ rfl
   rw [hsame _ _ _ hc o']; exact hbk o'
  ·intro y hy
   rcases List.mem_append.1 hy with hy | hy
   ·exact ⟨Rep.mono h0 y (hLr y hy).1, (hLr y hy).2⟩
   ·simp at hy; subst hy; exact ⟨hr', ht'.2⟩
  ·rw [hdrop] at hrow2
   have h5 := row_upd' (t := t') (hrow2.mono hM2)
   rw [hLk] at h5
   rw [List.append_assoc]
   exact h5
 ·have hkk : k = t.subs.length := by have := of_decide_eq_false hge; omega
  subst hkk
  rw [List.drop_length, List.append_nil] at hrow2
  rw [List.take_length] at hLe
  have hok := Rep_ok hr
  refine ⟨m2, Mem.le_trans hmb hmb2, Mem.le_refl _, .node t.k t.s0 t.s1 t.s2 t.s3 t.mn t.mx a c L, ?_, ?_, ?_⟩
  ·simp only [T.v, T.k, T.s0, T.s1, T.s2, T.s3, T.mn, T.mx, T.a, T.c, T.subs, hLk]
  ·have := repL_of hrow2 (fun x hx => Rep.mono hmb2 x (hLr x hx).1) (by omega)
   exact Rep_mk this.1 this.2 hok
  ·have := er_node (k := t.k) (s0 := t.s0) (s1 := t.s1) (s2 := t.s2) (s3 := t.s3) (mn := t.mn) (mx := t.mx) (a := a) (a' := t.a) (c := c) (c' := t.c) hLe
   refine ⟨this.trans ?_, caps_node (by omega) fun x hx => (hLr x hx).2⟩
   cases t; rfl
termination_by SizeOf.sizeOf t
decreasing_by exact sub_lt (List.mem_of_getElem? hx)
end Go.Proofs.Ytmggihkjgbnhbaa

