/- Part of the proof: conditions and contracts of functions of this program. No condition of its own. -/
import Derived.Test.YtplacemlpkhmfaaPC13A
import Derived.Test.YtplacemlpkhmfaaPC13Q
set_option linter.unusedVariables false
set_option linter.unusedSimpArgs false
namespace Go.Proofs.Ytplacemlpkhmfaa
open Go Go.Eng Go.Rx Go.Proofs Go.RowKit
set_option maxRecDepth 100000
theorem cx_right (t : T) (m : Mem) (hr : Rep m t) : CX Try.prog 108 #[t.v] m [] (Ret (.bool t.right)) := by
 apply cx_rx_right
 unfold VC_rx_right
 intro b m1 hm1 _
 have hr1 := hr.mono hm1
 refine ⟨t.k != 2 && !t.setZ || (t.k != 5 && (t.mn != 0 || t.mx != 0) || (decide (t.k < 3) && decide (0 < t.subs.length))), ?_, br_intro (fun h => ret_pure hm1 ?_) (fun h => ?_)⟩
 ·refine br_intro (fun h1 => ?_) (fun h1 => ?_)
  ·refine ⟨t.setZ, eq_set _ _ _ _ _ _ _ _, ?_⟩
   simp only [br_ite]
   (repeat' split) <;> simp_all <;> omega
  ·simp only [br_ite]
   (repeat' split) <;> simp_all <;> omega
 ·simp [Ret, T.right, h]
 ·refine br_intro (fun h1 => ret_pure hm1 ?_) (fun h1 => br_intro (fun h2 => ⟨t.setZ, eq_set _ _ _ _ _ _ _ _, ret_pure hm1 ?_⟩) (fun h2 => br_intro (fun h3 => ?_) (fun h3 => br_intro (fun h4 => ?_) (fun h4 => br_intro (fun h5 => ?_) (fun h5 => ?_)))))
  ·have : t.k = 1 := by simpa using h1
   show Value.bool _ = Value.bool t.right; rw [T.right, h]; simp [this]
  ·have : t.k = 2 := by simpa using h2
   show Value.bool _ = Value.bool t.right; rw [T.right, h]; simp [this]
  ·have : t.k = 3 := by simpa using h3
   refine ⟨decide (1 < t.subs.length) && (!t.has 1 && !t.has 3), br_intro (fun h4 => ?_) (fun h4 => ?_), ret_pure hm1 ?_⟩
   ·refine call_bool (cx_has t 1 m1 hr1) fun m2 hm2 => br_intro (fun h5 => ?_) (fun h5 => ?_)
    ·refine call_bool (cx_has t 3 m2 (hr1.mono hm2)) fun m3 hm3 => ⟨rfl, one_bool ?_⟩
     simp_all <;> (intros; omega)
    ·refine ⟨rfl, one_bool ?_⟩
     simp_all <;> (intros; omega)
   ·refine ⟨rfl, one_bool ?_⟩
    simp_all <;> (intros; omega)
   ·show Value.bool _ = Value.bool t.right; rw [T.right, h]; simp [this]
  ·have : t.k = 4 := by simpa using h4
   refine ⟨decide (1 < t.subs.length) && !t.has 4, br_intro (fun h4 => ?_) (fun h4 => ?_), ret_pure hm1 ?_⟩
   ·refine call_bool (cx_has t 4 m1 hr1) fun m2 hm2 => ⟨rfl, one_bool ?_⟩
    simp_all <;> (intros; omega)
   ·refine ⟨rfl, one_bool ?_⟩
    simp_all <;> (intros; omega)
   ·show Value.bool _ = Value.bool t.right; rw [T.right, h]; simp [this]
  ·have : t.k = 5 := by simpa using h5
   refine ⟨t.subs.length == 1 && (bounds t.mn t.mx && !t.has 1), br_intro (fun h4 => ?_) (fun h4 => ?_), ret_pure hm1 ?_⟩
   ·refine call_bool (cx_bounds t.mn t.mx m1) fun m2 hm2 => br_intro (fun h5 => ?_) (fun h5 => ?_)
    ·refine call_bool (cx_has t 1 m2 (hr1.mono hm2)) fun m3 hm3 => ⟨rfl, one_bool ?_⟩
     have h4' : ((t.subs.length : Int) == 1) = true := h4
     have : t.subs.length = 1 := by have := of_decide_eq_true h4'; omega
     simp_all <;> (intros; omega)
    ·refine ⟨rfl, one_bool ?_⟩
     simp_all <;> (intros; omega)
   ·refine ⟨rfl, one_bool ?_⟩
    have h4' : ((t.subs.length : Int) == 1) = false := h4
    have : ¬ t.subs.length = 1 := by have := of_decide_eq_false h4'; omega
    simp_all <;> (intros; omega)
   ·show Value.bool _ = Value.bool t.right; rw [T.right, h]; simp [this]
  ·refine ⟨t.k == 6 && t.subs.length == 1, br_intro (fun h4 => ⟨rfl, one_bool ?_⟩) (fun h4 => ⟨rfl, one_bool ?_⟩), ret_pure hm1 ?_⟩
   ·have : (t.k == 6) = true := h4
    rw [this, Bool.true_and]
    show (decide ((t.subs.length : Int) = 1)) = decide (t.subs.length = 1)
    rw [decide_eq_decide]; omega
   ·have : (t.k == 6) = false := h4
    simp [this]
   ·show Value.bool _ = Value.bool t.right; rw [T.right, h]
    have e1 : ¬ t.k = 1 := by simpa using h1
    have e2 : ¬ t.k = 2 := by simpa using h2
    have e3 : ¬ t.k = 3 := by simpa using h3
    have e4 : ¬ t.k = 4 := by simpa using h4
    have e5 : ¬ t.k = 5 := by simpa using h5
    simp [e1, e2, e3, e4, e5]
theorem cx_Clean (t : T) (m : Mem) (hr : Rep m t) : CX Try.prog 59 #[t.v] m [] (Ret (.bool t.clean)) := by
 apply cx_rx_Clean
 unfold VC_rx_Clean
 intro b m1 hm1 _ b2
 refine call_bool (cx_Light t m1 (hr.mono hm1)) fun m2 hm2 => br_intro (fun h => ret_pure (Mem.le_trans hm1 hm2) ?_) (fun h => ?_)
 ·have : t.light = false := by simpa using h
  simp [Ret, T.clean, this]
 have hl : t.light = true := by simpa using h
 refine call_any (cx_nodes t m2) (fun v m' css h => by obtain ⟨_, rfl, _⟩ := h; rfl) ?_
 rintro g fi ca m3 hm3 ⟨b3, hv, hb3⟩
 obtain ⟨rfl, rfl, rfl⟩ := func_inj hv
 have hle := Mem.le_trans hm1 (Mem.le_trans hm2 hm3)
 refine ⟨_, ix_nodes1 t m3 b3 hb3 (hr.mono hle), fun y hy => ?_, fun _ css _ m' q => m3.le m' ∧ ∀ x ∈ t.nodes.take q, x.right = true, ⟨Mem.le_refl _, by simp⟩, ?_, ?_⟩
 ·obtain ⟨z, _, rfl⟩ := List.mem_map.1 hy; exact fits_v z
 ·rintro n0 n1 n2 n3 n4 n5 n6 a n7 c cs m4 q hm4 hq ⟨_, hq1⟩ b4
  have hq' : (List.map (fun z : T => [z.v]) t.nodes)[(q : Nat)]? = some [Value.agg #[.int .u8 n0, .int .u64 n1, .int .u64 n2, .int .u64 n3, .int .u64 n4, .int .i64 n5, .int .i64 n6, .slice a n7 c]] := hq
  rw [List.getElem?_map] at hq'
  obtain ⟨z, hz, hzv⟩ := Option.map_eq_some_iff.1 hq'
  have hzv' : z.v = Value.agg #[.int .u8 n0, .int .u64 n1, .int .u64 n2, .int .u64 n3, .int .u64 n4, .int .i64 n5, .int .i64 n6, .slice a n7 c] := by simpa using hzv
  have hzr : Rep m4 z := (rep_nodes (hr.mono hle) (List.mem_of_getElem? hz)).mono hm4
  have hcx := cx_right z m4 hzr
  rw [hzv'] at hcx
  refine call_bool hcx fun m5 hm5 => br_intro (fun h => ⟨rfl, ret_pure (Mem.le_trans hle (Mem.le_trans hm4 hm5)) ?_⟩) (fun h => ⟨rfl, Mem.le_trans hm4 hm5, fun x hx => ?_⟩)
  ·have hz0 : z.right = false := by simpa using h
   have : t.nodes.all T.right = false := by
    rw [List.all_eq_false]; exact ⟨z, List.mem_of_getElem? hz, by simp [hz0]⟩
   simp [Ret, T.clean, this]
  ·rw [List.take_add_one, hz] at hx
   rcases List.mem_append.1 hx with hx | hx
   ·exact hq1 x hx
   ·simp at hx; rw [hx]; simpa using h
 ·rintro cs m4 hm4 ⟨_, hq1⟩
  refine ret_pure (Mem.le_trans hle hm4) ?_
  rw [List.length_map, List.take_length] at hq1
  have : t.nodes.all T.right = true := List.all_eq_true.2 hq1
  simp [Ret, T.clean, this, hl]
theorem cx_Size (t : T) (m : Mem) (hr : Rep m t) : CX Try.prog 60 #[t.v] m [] (Ret (.int .i64 t.size)) := by
 apply cx_rx_Size
 unfold VC_rx_Size
 intro b m1 hm1 _
 refine call_bool (cx_Light t m1 (hr.mono hm1)) fun m2 hm2 => br_intro (fun h => ret_pure (Mem.le_trans hm1 hm2) ?_) (fun h => ?_)
 ·have : t.light = false := by simpa using h
  simp [Ret, T.size, this]
 have hl : t.light = true := by simpa using h
 have hln : t.nodes.length ≤ 10000 := of_decide_eq_true hl
 intro b2
 refine call_any (cx_nodes t m2) (fun v m' css h => by obtain ⟨_, rfl, _⟩ := h; rfl) ?_
 rintro g fi ca m3 hm3 ⟨b3, hv, hb3⟩
 obtain ⟨rfl, rfl, rfl⟩ := func_inj hv
 have hle := Mem.le_trans hm1 (Mem.le_trans hm2 hm3)
 refine ⟨_, ix_nodes1 t m3 b3 hb3 (hr.mono hle), fun y hy => ?_, fun _ css _ m' q => css = [[.int .i64 q]] ∧ q ≤ t.nodes.length, ⟨rfl, by omega⟩, ?_, ?_⟩
 ·obtain ⟨z, _, rfl⟩ := List.mem_map.1 hy; exact fits_v z
 ·rintro n0 n1 n2 n3 n4 n5 n6 a n7 c cs m4 q hm4 hq ⟨hcs, _⟩
  obtain rfl : cs = [.int .i64 q] := by simpa using hcs
  have hlt : q < t.nodes.length := by
   have := (List.getElem?_eq_some_iff.1 (show (List.map (fun z : T => [z.v]) t.nodes)[(q : Nat)]? = some _ from hq)).1
   simpa using this
  have hw : IntKind.i64.wrap (intOf (Value.int .i64 (q : Int)) + 1) = (q : Int) + 1 := wrap64 (n := (q : Int) + 1) (by omega) (by omega)
  refine look_intro rfl (chk_intro rfl ?_)
  simp only [hw]
  exact ⟨by trivial, by simp, by omega⟩
 ·rintro cs m4 hm4 ⟨hcs, hq1⟩
  obtain rfl : cs = [.int .i64 t.nodes.length] := by simpa using hcs
  refine look_intro rfl (ret_pure (Mem.le_trans hle hm4) ?_)
  simp [Ret, T.size, hl]
theorem cx_positions (t : T) (m : Mem) (hr : Rep m t) (hl : t.nodes.length ≤ 10000) : CX Try.prog 93 #[t.v] m [] (Ret (.int .i64 t.pos)) := by
 apply cx_rx_positions
 unfold VC_rx_positions
 intro b m1 hm1 _
 have hsl := subs_le t
 have hpos := pos_eq t
 refine br_intro (fun hk => ?_) (fun hk => ?_)
 all_goals
  have hk' : (if t.k = 2 then (1 : Int) else 0) = 1 ∧ t.k = 2 ∨ (if t.k = 2 then (1 : Int) else 0) = 0 ∧ t.k ≠ 2 := by split <;> simp_all
  refine ⟨fun xs _ _ m'' q => ∃ i : Nat, i ≤ t.subs.length ∧ xs = [.int .i64 ((if t.k = 2 then 1 else 0) + posL (t.subs.take i)), .int .i64 i] ∧ m1.le m'' ∧ q = t.subs.length - i, ⟨t.subs.length, 0, by omega, by simp_all [posL], Mem.le_refl _, by omega⟩, ?_⟩
  rintro n n1 m2 q hm2 ⟨i, hi, hxs, _, hq⟩
  have hb1 := posL_nn (t.subs.take i)
  have hb2 := posL_le (t.subs.take i)
  have hb3 : (t.subs.take i).length ≤ i := List.length_take_le _ _
  clear hk'
  generalize hc : (if t.k = 2 then (1 : Int) else 0) = c at *
  have hc1 : 0 ≤ c ∧ c ≤ 1 := by rw [← hc]; split <;> omega
  simp only [List.cons.injEq, Value.int.injEq, true_and, and_true] at hxs
  obtain ⟨rfl, rfl⟩ := hxs
  refine br_intro (fun hlt => ?_) (fun hge => ?_)
  ·have hlt' : i < t.subs.length := by simpa using hlt
   obtain ⟨x, hx⟩ : ∃ x, t.subs[i]? = some x := ⟨_, List.getElem?_eq_getElem hlt'⟩
   have hmem : x ∈ t.subs := List.mem_of_getElem? hx
   have hsz := sub_lt hmem
   have hxn := sub_nodes hmem
   obtain ⟨_, h0 | ⟨b1, o1, ha, hat⟩⟩ := Rep_iff hr
   ·rw [h0] at hlt'; simp at hlt'
   obtain ⟨hxr, hxrep⟩ := (hat.mono ((Mem.le_trans hm1 hm2))).get hx
   have hxb := pos_bd x
   refine ⟨b1, o1, ha, ⟨by omega, by omega⟩, _, _, _, _, _, _, _, _, hxr, fun b2 => chk_intro rfl ?_⟩
   refine call_int (cx_positions x m2 hxrep (by omega)) fun m3 hm3 => ⟨rfl, t.subs.length - (i + 1), by omega, i + 1, by omega, ?_, Mem.le_trans hm2 hm3, rfl⟩
   rw [wrap64 (by omega) (by omega), wrap64 (by omega) (by omega), posL_take hx, Int.add_assoc]
   rfl
  ·have hi' : i = t.subs.length := by
    have : ¬ ((i : Int) < (t.subs.length : Int)) := by simpa using hge
    omega
   subst hi'
   rw [List.take_length] at hb1 hb2 ⊢
   have hF := posF_bd t.mn t.mx
   have hmul : 0 ≤ (c + posL t.subs) * posF t.mn t.mx ∧ (c + posL t.subs) * posF t.mn t.mx ≤ 100020001 * 10001 := by
    constructor
    ·exact Int.mul_nonneg (by omega) hF.1
    ·exact Int.mul_le_mul (by omega) hF.2 hF.1 (by omega)
   refine br_intro (fun h5 => br_intro (fun hx => ret_pure (Mem.le_trans hm1 hm2) ?_) (fun hx => ret_pure (Mem.le_trans hm1 hm2) ?_)) (fun h5 => ret_pure (Mem.le_trans hm1 hm2) ?_)
   ·have e1 : t.k = 5 := by simpa using h5
    have e2 : t.mx = -1 := by simpa using hx
    have hF' : posF t.mn t.mx = imin (imax (imax t.mn 0) 1) 10001 := by simp [posF, e2]
    show Value.int .i64 (imin (IntKind.i64.wrap ((c + posL t.subs) * imin (imax (imax t.mn 0) 1) 10001)) 10001) = Value.int .i64 t.pos
    rw [← hF', wrap64 (by omega) (by omega), hpos, posR, if_pos e1]; rfl
   ·have e1 : t.k = 5 := by simpa using h5
    have e2 : ¬ t.mx = -1 := by simpa using hx
    have hF' : posF t.mn t.mx = imin (imax (imax t.mn 0) t.mx) 10001 := by simp [posF, e2]
    show Value.int .i64 (imin (IntKind.i64.wrap ((c + posL t.subs) * imin (imax (imax t.mn 0) t.mx) 10001)) 10001) = Value.int .i64 t.pos
    rw [← hF', wrap64 (by omega) (by omega), hpos, posR, if_pos e1]; rfl
   ·have e1 : ¬ t.k = 5 := by simpa using h5
    show Value.int .i64 (imin (c + posL t.subs) 10001) = Value.int .i64 t.pos
    rw [hpos, posR, if_neg e1]
termination_by SizeOf.sizeOf t
decreasing_by all_goals exact hsz
theorem cx_Positions (t : T) (m : Mem) (hr : Rep m t) : CX Try.prog 37 #[t.v] m [] (Ret (.int .i64 t.positions)) := by
 apply cx_rx_Positions
 unfold VC_rx_Positions
 intro b m1 hm1 _
 refine call_bool (cx_Light t m1 (hr.mono hm1)) fun m2 hm2 => br_intro (fun h => ret_pure (Mem.le_trans hm1 hm2) ?_) (fun h => ?_)
 ·have : t.light = false := by simpa using h
  simp [Ret, T.positions, this]
 have hl : t.light = true := by simpa using h
 refine call_int (cx_positions t m2 (hr.mono (Mem.le_trans hm1 hm2)) (of_decide_eq_true hl)) fun m3 hm3 => ret_pure (Mem.le_trans hm1 (Mem.le_trans hm2 hm3)) ?_
 simp [Ret, T.positions, hl]
theorem cx_EqualFunc (l l' : List T) (a a' : Option Addr) (c c' : Nat) (m : Mem) (hl : l.length ≤ 1000000000000000) (hr : l = [] ∨ ∃ b o, a = some ⟨b, o, none⟩ ∧ RepAt m b o l) (hr' : l' = [] ∨ ∃ b o, a' = some ⟨b, o, none⟩ ∧ RepAt m b o l')
  (hp : ∀ x ∈ l, ∀ y ∈ l', ∀ m', m.le m' → Rep m' x → Rep m' y → CX Try.prog 106 #[x.v, y.v] m' [] (Ret (.bool (x.same y)))) :
  CX Try.prog 132 #[.slice a l.length c, .slice a' l'.length c', .func (.func 106) #[] #[]] m [] (Ret (.bool (sameL l l'))) := by
 apply cx_slices_EqualFunc_rx_Node_rx_Node_rx_Node_rx_Node a l.length c a' l'.length c' _ [] []
 unfold VC_slices_EqualFunc_rx_Node_rx_Node_rx_Node_rx_Node
 refine br_intro (fun h => ret_pure (Mem.le_refl _) ?_) (fun h => ?_)
 ·have : ¬ l.length = l'.length := by
   intro e; rw [e] at h; simp at h
  show Value.bool false = _
  rw [sameL_len this]
 have hll : l.length = l'.length := by
  have h2 : ((l.length : Int) == (l'.length : Int)) = true := by simpa using h
  have := of_decide_eq_true h2; omega
 refine ⟨fun xs _ _ m'' q => ∃ i : Nat, i ≤ l.length ∧ xs = [.int .i64 i] ∧ sameL (l.take i) (l'.take i) = true ∧ m.le m'' ∧ q = l.length - i, ⟨l.length, 0, by omega, rfl, by simp [sameL], Mem.le_refl _, by omega⟩, ?_⟩
 rintro n m' q hm ⟨i, hi, hn, hsame, hle, hq⟩
 obtain rfl : n = i := by simpa using hn
 refine br_intro (fun hlt => ?_) (fun hge => ?_)
 ·have hlt' : i < l.length := by simpa using hlt
  obtain ⟨x, hx⟩ : ∃ x, l[i]? = some x := ⟨_, List.getElem?_eq_getElem hlt'⟩
  obtain ⟨y, hy⟩ : ∃ y, l'[i]? = some y := ⟨_, List.getElem?_eq_getElem (by omega)⟩
  have hmx : x ∈ l := List.mem_of_getElem? hx
  have hmy : y ∈ l' := List.mem_of_getElem? hy
  rcases hr with h0 | ⟨b1, o1, ha, hat⟩
  ·rw [h0] at hlt'; simp at hlt'
  rcases hr' with h0 | ⟨b2, o2, ha', hat'⟩
  ·rw [h0] at hll; simp at hll; rw [hll] at hlt'; simp at hlt'
  obtain ⟨hxr, hxrep⟩ := (hat.mono hm).get hx
  obtain ⟨hyr, hyrep⟩ := (hat'.mono hm).get hy
  refine ⟨b1, o1, ha, ⟨by omega, by omega⟩, _, _, _, _, _, _, _, _, hxr, fun b3 => chk_intro rfl ⟨b2, o2, ha', ⟨by omega, by omega⟩, _, _, _, _, _, _, _, _, hyr, fun b4 => chk_intro rfl ?_⟩⟩
  refine call_bool (hp x hmx y hmy m' hm hxrep hyrep) fun m1 hm1 => br_intro (fun hpx => ?_) (fun hpx => ?_)
  ·have hf : x.same y = false := by simpa using hpx
   refine ret_pure (Mem.le_trans hm hm1) ?_
   show Value.bool false = _
   rw [sameL_at hx hy hf]
  ·have hf : x.same y = true := by simpa using hpx
   refine ⟨l.length - (i + 1), by omega, i + 1, by omega, by rw [wrap64 (by omega) (by omega)]; rfl, sameL_take hx hy hsame hf trivial, Mem.le_trans hm hm1, rfl⟩
 ·have hi' : i = l.length := by
   have : ¬ ((i : Int) < (l.length : Int)) := by simpa using hge
   omega
  subst hi'
  refine ret_pure hm ?_
  rw [List.take_length, hll, List.take_length] at hsame
  show Value.bool true = _
  rw [hsame]
theorem cx_same (t u : T) (m : Mem) (hr : Rep m t) (hu : Rep m u) : CX Try.prog 106 #[t.v, u.v] m [] (Ret (.bool (t.same u))) := by
 apply cx_rx_same
 unfold VC_rx_same
 intro b m1 hm1 _ b' m2 hm2 _
 have hm := Mem.le_trans hm1 hm2
 refine ⟨t.same u, ?_, ret_pure hm rfl⟩
 rw [same_eq]
 refine br_intro (fun h1 => ⟨_, eq_set _ _ _ _ _ _ _ _, br_intro (fun h2 => br_intro (fun h3 => br_intro (fun h4 => ?_) (fun h4 => ⟨rfl, one_bool ?_⟩)) (fun h3 => ⟨rfl, one_bool ?_⟩)) (fun h2 => ⟨rfl, one_bool ?_⟩)⟩) (fun h1 => ⟨rfl, one_bool ?_⟩)
 ·have hr' := Rep_iff (hr.mono hm)
  have hu' := Rep_iff (hu.mono hm)
  refine call_bool (cx_EqualFunc t.subs u.subs t.a u.a t.c u.c m2 hr'.1 hr'.2 hu'.2 fun x hx y hy m' _ hxr hyr => ?_) fun m3 hm3 => ⟨rfl, one_bool ?_⟩
  ·have hsz := sub_lt hx
   exact cx_same x y m' hxr hyr
  ·rw [h1, h2, h3, h4]; rfl
 ·rw [h1, h2, h3, h4]; rfl
 ·rw [h1, h2, h3]; rfl
 ·rw [h1, h2]; rfl
 ·rw [h1]; rfl
termination_by SizeOf.sizeOf t
decreasing_by exact hsz
theorem cx_Same (t u : T) (m : Mem) (hr : Rep m t) (hu : Rep m u) : CX Try.prog 58 #[t.v, u.v] m [] (Ret (.bool (t.light && (u.light && t.same u)))) := by
 apply cx_rx_Same
 unfold VC_rx_Same
 intro b m1 hm1 _ b' m2 hm2 _
 have hm := Mem.le_trans hm1 hm2
 refine ⟨t.light && (u.light && t.same u), ?_, ret_pure hm rfl⟩
 refine call_bool (cx_Light t m2 (hr.mono hm)) fun m3 hm3 => br_intro (fun h1 => ?_) (fun h1 => ⟨rfl, one_bool ?_⟩)
 ·refine call_bool (cx_Light u m3 (hu.mono (Mem.le_trans hm hm3))) fun m4 hm4 => br_intro (fun h2 => ?_) (fun h2 => ?_)
  ·have hm5 := Mem.le_trans (Mem.le_trans hm hm3) hm4
   refine call_bool (cx_same t u m4 (hr.mono hm5) (hu.mono hm5)) fun m6 hm6 => ⟨rfl, one_bool ?_⟩
   rw [h1, h2]; rfl
  ·refine ⟨rfl, one_bool ?_⟩
   rw [h1, h2]; rfl
 ·rw [h1]; rfl
end Go.Proofs.Ytplacemlpkhmfaa

