/- Part of the proof: conditions and contracts of functions of this program. No condition of its own. -/
import Derived.Test.YtplacemlpkhmfaaPVA
import Derived.Test.YtplacemlpkhmfaaMr
set_option linter.unusedVariables false
set_option linter.unusedSimpArgs false
namespace Go.Proofs.Ytplacemlpkhmfaa
open Go Go.Eng Go.Rx Go.Proofs Go.RowKit
set_option maxRecDepth 100000
theorem cx_nodes (t : T) (m : Mem) : CX Try.prog 107 #[t.v] m [] (fun v m' _ => ∃ b, v = .func (.func 133) #[] #[.pointer (some ⟨b, 0, none⟩)] ∧ m'.reads b 0 t.cs) := by
 apply cx_rx_nodes
 unfold VC_rx_nodes
 intro b m' hm hb
 exact ⟨m', hm, Mem.le_refl _, b, rfl, hb⟩
theorem ix_nodes1 (t : T) (m : Mem) (c0b : Nat) (hrd : m.reads c0b 0 t.cs) (hrep : Rep m t) : IX Try.prog 133 [] [.pointer (some ⟨c0b, 0, none⟩)] m (t.nodes.map fun x => [x.v]) := by
 apply ix_rx_nodes_1 0 [] [] c0b 0
 unfold VC_rx_nodes_1
 intro l b m' hm hb
 have hrd' := hrd.mono hm
 refine ⟨_, _, _, _, _, _, _, _, hrd', ⟨rfl, by omega, ?_⟩, ?_, .inr rfl⟩
 ·rw [nodes_eq]; rfl
 refine ⟨t.sl, hrd' 7 _ rfl, chk_intro rfl ?_⟩
 refine ⟨fun xs _ _ m'' q => ∃ i : Nat, i ≤ t.subs.length ∧ xs = [.int .i64 ((1 + (nodesL (t.subs.take i)).length : Nat) : Int), .int .i64 i] ∧ m'.le m'' ∧ q = t.subs.length - i, ⟨t.subs.length, 0, by omega, ?_, Mem.le_refl _, by omega⟩, ?_⟩
 ·simp [nodesL]
 rintro y n m2 q hm2 ⟨i, hi, hxs, hmle, hq⟩
 simp only [List.cons.injEq, Value.int.injEq, true_and, and_true] at hxs
 obtain ⟨rfl, rfl⟩ := hxs
 have hlen : slN t.sl = t.subs.length := rfl
 rw [hlen]
 refine br_intro (fun hlt => ?_) (fun hge => ?_)
 ·have hlt' : i < t.subs.length := by simpa using hlt
  obtain ⟨x, hx⟩ : ∃ x, t.subs[i]? = some x := ⟨_, List.getElem?_eq_getElem hlt'⟩
  have hmem : x ∈ t.subs := List.mem_of_getElem? hx
  have hsz := sub_lt hmem
  obtain ⟨hmax, h0 | ⟨b1, o1, ha, hat⟩⟩ := Rep_iff hrep
  ·rw [h0] at hlt'; simp at hlt'
  obtain ⟨hxr, hxrep⟩ := (hat.mono ((Mem.le_trans hm hmle))).get hx
  refine chk_intro rfl ⟨b1, o1, ha, ⟨by omega, by omega⟩, _, _, _, _, _, _, _, _, hxr, fun b2 => chk_intro rfl ?_⟩
  refine ⟨_, trivial, cx_nodes x m2, fun v m' css h => ?_, ?_⟩
  ·obtain ⟨b3, rfl, _⟩ := h; rfl
  rintro g fi ca m3 hm3 ⟨b3, hv, hb3⟩
  obtain ⟨rfl, rfl, rfl⟩ := func_inj hv
  refine ⟨_, ix_nodes1 x m3 b3 hb3 (hxrep.mono hm3), fun y hy => ?_, ?_⟩
  ·obtain ⟨z, _, rfl⟩ := List.mem_map.1 hy; exact fits_v z
  refine ⟨fun xs _ _ m'' q => q ≤ x.nodes.length ∧ xs = [.int .i64 ((1 + (nodesL (t.subs.take i)).length + q : Nat) : Int)] ∧ m3.le m'', ⟨Nat.zero_le _, rfl, Mem.le_refl _⟩, ?_, ?_⟩
  ·rintro y n0 n1 n2 n3 n4 n5 n6 a n7 c m4 q hm4 hq ⟨hq1, hy, _⟩ b4
   simp only [List.cons.injEq, Value.int.injEq, true_and, and_true] at hy
   subst hy
   have hq' : (List.map (fun z : T => [z.v]) x.nodes)[(q : Nat)]? = some [Value.agg #[.int .u8 n0, .int .u64 n1, .int .u64 n2, .int .u64 n3, .int .u64 n4, .int .i64 n5, .int .i64 n6, .slice a n7 c]] := hq
   rw [List.getElem?_map] at hq'
   obtain ⟨z, hz, hzv⟩ := Option.map_eq_some_iff.1 hq'
   have hql : q < x.nodes.length := (List.getElem?_eq_some_iff.1 hz).1
   refine ⟨⟨rfl, by omega, ?_⟩, ⟨rfl, by omega, ?_, hm4⟩, rfl, .inr rfl⟩
   ·rw [Int.toNat_natCast]
    show (t.nodes.map fun x => [x.v])[1 + (nodesL (t.subs.take i)).length + q]? = _
    rw [List.getElem?_map, nodes_at hx hz, ← hzv]; rfl
   ·congr 2
  ·rintro y m4 hm4 ⟨hq1, hy, _⟩
   simp only [List.cons.injEq, Value.int.injEq, true_and, and_true] at hy
   subst hy
   refine ⟨rfl, t.subs.length - (i + 1), by omega, i + 1, by omega, ?_, Mem.le_trans hmle (Mem.le_trans hm3 hm4), rfl⟩
   rw [wrap64 (by omega) (by omega), nodesL_take hx, List.length_append]
   simp [T.v, Nat.add_assoc]
 ·have hi' : i = t.subs.length := by
   have : ¬ ((i : Int) < (t.subs.length : Int)) := by simpa using hge
   omega
  subst hi'
  left
  rw [List.take_length, nodes_eq]
  simp
  omega
termination_by SizeOf.sizeOf t
decreasing_by exact hsz
theorem cx_bounds (least most : Int) (m : Mem) : CX Try.prog 84 #[.int .i64 least, .int .i64 most] m [] (Ret (.bool (bounds least most))) := by
 apply cx_rx_bounds
 unfold VC_rx_bounds
 refine ⟨decide (least < 0) || decide (least > 16) || (least == 1 && most == 1), ?_, br_intro (fun h => ret_pure (Mem.le_refl _) ?_) (fun h => ⟨most == -1 || (decide (most ≥ 1) && decide (most ≤ 16) && decide (most ≥ least)), ?_, ret_pure (Mem.le_refl _) ?_⟩)⟩
 ·simp only [br_ite]; (repeat' split) <;> simp_all <;> omega
 ·simp [Ret, bounds, h]
 ·simp only [br_ite]; (repeat' split) <;> simp_all <;> omega
 ·simp [Ret, bounds, h]
theorem cx_IndexFunc (l : List T) (a : Option Addr) (c : Nat) (g : Nat) (ca : List Value) (p : T → Bool) (m : Mem) (hl : l.length ≤ 1000000000000000) (hr : l = [] ∨ ∃ b o, a = some ⟨b, o, none⟩ ∧ RepAt m b o l)
  (hp : ∀ x ∈ l, ∀ m', m.le m' → Rep m' x → CX Try.prog g (x.v :: ca).toArray m' [] (Ret (.bool (p x)))) :
  CX Try.prog 166 #[.slice a l.length c, .func (.func g) #[] ca.toArray] m [] (Ret (.int .i64 (if l.any p then (l.findIdx p : Nat) else (-1 : Int)))) := by
 apply cx_slices_IndexFunc_rx_Node_rx_Node a l.length c g [] ca
 unfold VC_slices_IndexFunc_rx_Node_rx_Node
 refine ⟨fun xs _ _ m'' q => ∃ i : Nat, i ≤ l.length ∧ xs = [.int .i64 i] ∧ (∀ x ∈ l.take i, p x = false) ∧ m.le m'' ∧ q = l.length - i, ⟨l.length, 0, by omega, rfl, by simp, Mem.le_refl _, by omega⟩, ?_⟩
 rintro n m' q hm ⟨i, hi, hn, hno, hle, hq⟩
 obtain rfl : n = i := by simpa using hn
 refine br_intro (fun hlt => ?_) (fun hge => ?_)
 ·have hlt' : i < l.length := by simpa using hlt
  obtain ⟨x, hx⟩ : ∃ x, l[i]? = some x := ⟨_, List.getElem?_eq_getElem hlt'⟩
  have hmem : x ∈ l := List.mem_of_getElem? hx
  rcases hr with h0 | ⟨b1, o1, ha, hat⟩
  ·rw [h0] at hlt'; simp at hlt'
  obtain ⟨hxr, hxrep⟩ := (hat.mono hm).get hx
  refine ⟨b1, o1, ha, ⟨by omega, by omega⟩, _, _, _, _, _, _, _, _, hxr, call_bool (hp x hmem m' hm hxrep) fun m1 hm1 => br_intro (fun hpx => ?_) (fun hpx => ?_)⟩
  ·refine ret_pure (Mem.le_trans hm hm1) ?_
   have hany : l.any p = true := List.any_eq_true.2 ⟨x, hmem, hpx⟩
   have hfind : l.findIdx p = i := by
    rw [List.findIdx_eq hlt']
    refine ⟨by rw [(List.getElem?_eq_some_iff.1 hx).2]; exact hpx, fun j hj => ?_⟩
    exact hno _ (List.mem_of_getElem? (i := j) (by rw [List.getElem?_take_of_lt hj]; exact List.getElem?_eq_getElem (by omega)))
   simp [Ret, hany, hfind]
  ·refine ⟨l.length - (i + 1), by omega, i + 1, by omega, by rw [wrap64 (by omega) (by omega)]; rfl, ?_, Mem.le_trans hm hm1, rfl⟩
   intro y hy
   rw [List.take_add_one, hx] at hy
   rcases List.mem_append.1 hy with hy | hy
   ·exact hno y hy
   ·simp at hy; rw [hy]; exact hpx
 ·have hi' : i = l.length := by
   have : ¬ ((i : Int) < (l.length : Int)) := by simpa using hge
   omega
  subst hi'
  refine ret_pure hm ?_
  have hany : l.any p = false := by
   rw [List.any_eq_false]
   rw [List.take_length] at hno
   exact fun x hx => by simp [hno x hx]
  simp [Ret, hany]
theorem cx_ContainsFunc (l : List T) (a : Option Addr) (c : Nat) (g : Nat) (ca : List Value) (p : T → Bool) (m : Mem) (hl : l.length ≤ 1000000000000000) (hr : l = [] ∨ ∃ b o, a = some ⟨b, o, none⟩ ∧ RepAt m b o l)
  (hp : ∀ x ∈ l, ∀ m', m.le m' → Rep m' x → CX Try.prog g (x.v :: ca).toArray m' [] (Ret (.bool (p x)))) :
  CX Try.prog 162 #[.slice a l.length c, .func (.func g) #[] ca.toArray] m [] (Ret (.bool (l.any p))) := by
 apply cx_slices_ContainsFunc_rx_Node_rx_Node a l.length c g [] ca
 unfold VC_slices_ContainsFunc_rx_Node_rx_Node
 refine call_int (cx_IndexFunc l a c g ca p m hl hr hp) fun m' hm => ret_pure hm ?_
 cases h : l.any p <;> simp [Ret]
theorem cx_has1 (t : T) (k : Int) (b : Nat) (m : Mem) (hb : m.reads b 0 [.int .u8 k]) : CX Try.prog 163 #[t.v, .pointer (some ⟨b, 0, none⟩)] m [] (Ret (.bool (t.k == k))) := by
 apply cx_rx_has_1 (c0b := b) (c0o := 0)
 unfold VC_rx_has_1
 intro b' m' hm _
 exact ⟨_, hm _ _ _ (hb 0 _ rfl), chk_intro rfl (ret_pure hm rfl)⟩
theorem cx_has (t : T) (k : Int) (m : Mem) (hr : Rep m t) : CX Try.prog 134 #[t.v, .int .u8 k] m [] (Ret (.bool (t.has k))) := by
 apply cx_rx_has
 unfold VC_rx_has
 intro b m1 hm1 _ b2 m2 hm2 hb2
 have hr' := Rep_iff (hr.mono (Mem.le_trans hm1 hm2))
 exact call_bool (cx_ContainsFunc t.subs t.a t.c _ [.pointer (some ⟨b2, 0, none⟩)] (fun x => x.k == k) m2 hr'.1 hr'.2 fun x _ m' hm' _ => cx_has1 x k b2 m' (hb2.mono hm')) fun m3 hm3 => ret_pure (Mem.le_trans hm1 (Mem.le_trans hm2 hm3)) rfl
theorem cx_Light (t : T) (m : Mem) (hr : Rep m t) : CX Try.prog 92 #[t.v] m [] (Ret (.bool t.light)) := by
 apply cx_rx_Light
 unfold VC_rx_Light
 intro b m1 hm1 _ b2
 refine call_any (cx_nodes t m1) (fun v m' css h => by obtain ⟨_, rfl, _⟩ := h; rfl) ?_
 rintro g fi ca m2 hm2 ⟨b3, hv, hb3⟩
 obtain ⟨rfl, rfl, rfl⟩ := func_inj hv
 have hle := Mem.le_trans hm1 hm2
 refine ⟨_, ix_nodes1 t m2 b3 hb3 (hr.mono hle), fun y hy => ?_, fun _ css _ m' q => css = [[.int .i64 q]] ∧ q ≤ 10000 ∧ q ≤ t.nodes.length, ⟨rfl, by omega, by omega⟩, ?_, ?_⟩
 ·obtain ⟨z, _, rfl⟩ := List.mem_map.1 hy; exact fits_v z
 ·rintro n0 n1 n2 n3 n4 n5 n6 a n7 c cs m3 q hm3 hq ⟨hcs, hq1, _⟩
  obtain rfl : cs = [.int .i64 q] := by simpa using hcs
  have hlt : q < t.nodes.length := by
   have := (List.getElem?_eq_some_iff.1 (show (List.map (fun z : T => [z.v]) t.nodes)[(q : Nat)]? = some _ from hq)).1
   simpa using this
  refine look_intro rfl (chk_intro rfl ?_)
  have hw : IntKind.i64.wrap (intOf (Value.int .i64 (q : Int)) + 1) = (q : Int) + 1 := wrap64 (n := (q : Int) + 1) (by omega) (by omega)
  simp only [hw]
  refine br_intro (fun h => ⟨by trivial, ret_pure (Mem.le_trans hle hm3) ?_⟩) (fun h => ⟨by trivial, ?_, ?_, by omega⟩)
  ·have : ((q : Int) + 1 > 10000) := by simpa using h
   simp [Ret, T.light]; omega
  ·simp
  ·have : ¬ ((q : Int) + 1 > 10000) := by simpa using h
   omega
 ·rintro cs m3 hm3 ⟨hcs, hq1, _⟩
  obtain rfl : cs = [.int .i64 t.nodes.length] := by simpa using hcs
  refine look_intro rfl (chk_intro rfl (ret_pure (Mem.le_trans hle hm3) ?_))
  show Value.bool (decide ((t.nodes.length : Int) ≤ 10000)) = Value.bool t.light
  congr 1
  rw [T.light, decide_eq_decide]; omega
end Go.Proofs.Ytplacemlpkhmfaa

