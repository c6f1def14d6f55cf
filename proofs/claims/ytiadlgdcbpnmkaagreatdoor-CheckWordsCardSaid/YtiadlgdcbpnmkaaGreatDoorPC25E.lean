/- Part of the proof: conditions and contracts of functions of this program. No condition of its own. -/
import Derived.Test.YtiadlgdcbpnmkaaGreatDoorPC13Q
import Derived.Test.YtiadlgdcbpnmkaaGreatDoorMr
import Derived.Test.YtiadlgdcbpnmkaaGreatDoorPVEA
import Derived.Laws.Externs
import Derived.Test.YtiadlgdcbpnmkaaGreatDoorPVEB
set_option linter.unusedVariables false
set_option linter.unusedSimpArgs false
namespace Go.Proofs.YtiadlgdcbpnmkaaGreatDoor
open Go Go.Eng Go.Rx Go.Proofs Go.RowKit
set_option maxRecDepth 100000
theorem cx_right (t : T) (m : Mem) (hr : Rep m t) : CX Tryz.prog 109 #[t.v] m [] (Ret (.bool t.right)) := by
 apply cx_rx_right
 unfold VC_rx_right
 intro b m1 hm1 _
 have hr1 := hr.mono hm1
 refine ⟨t.k != 2 && !t.setZ || (t.k != 5 && (t.mn != 0 || t.mx != 0) || (decide (t.k < 3) && decide (0 < t.subs.length))), ?_, br_intro (fun h => ret_pure hm1 ?_) (fun h => ?_)⟩
 ·refine br_intro (fun h1 => ?_) (fun h1 => ?_)
  ·refine ⟨t.setZ, eq_set _ _ _ _ _ _ _ _, ?_⟩
   simp only [br_ite]
   (repeat' split) <;> simp_all <;> omega
  ·simp only [br_ite]
   (repeat' split) <;> simp_all <;> omega
 ·simp [Ret, T.right, h]
 ·refine br_intro (fun h1 => ret_pure hm1 ?_) (fun h1 => br_intro (fun h2 => ⟨t.setZ, eq_set _ _ _ _ _ _ _ _, ret_pure hm1 ?_⟩) (fun h2 => br_intro (fun h3 => ?_) (fun h3 => br_intro (fun h4 => ?_) (fun h4 => br_intro (fun h5 => ?_) (fun h5 => ?_)))))
  ·have : t.k = 1 := by simpa using h1
   show Value.bool _ = Value.bool t.right; rw [T.right, h]; simp [this]
  ·have : t.k = 2 := by simpa using h2
   show Value.bool _ = Value.bool t.right; rw [T.right, h]; simp [this]
  ·have : t.k = 3 := by simpa using h3
   refine ⟨decide (1 < t.subs.length) && (!t.has 1 && !t.has 3), br_intro (fun h4 => ?_) (fun h4 => ?_), ret_pure hm1 ?_⟩
   ·refine call_bool (cx_has t 1 m1 hr1) fun m2 hm2 => br_intro (fun h5 => ?_) (fun h5 => ?_)
    ·refine call_bool (cx_has t 3 m2 (hr1.mono hm2)) fun m3 hm3 => ⟨rfl, one_bool ?_⟩
     simp_all <;> (intros; omega)
    ·refine ⟨rfl, one_bool ?_⟩
     simp_all <;> (intros; omega)
   ·refine ⟨rfl, one_bool ?_⟩
    simp_all <;> (intros; omega)
   ·show Value.bool _ = Value.bool t.right; rw [T.right, h]; simp [this]
  ·have : t.k = 4 := by simpa using h4
   refine ⟨decide (1 < t.subs.length) && !t.has 4, br_intro (fun h4 => ?_) (fun h4 => ?_), ret_pure hm1 ?_⟩
   ·refine call_bool (cx_has t 4 m1 hr1) fun m2 hm2 => ⟨rfl, one_bool ?_⟩
    simp_all <;> (intros; omega)
   ·refine ⟨rfl, one_bool ?_⟩
    simp_all <;> (intros; omega)
   ·show Value.bool _ = Value.bool t.right; rw [T.right, h]; simp [this]
  ·have : t.k = 5 := by simpa using h5
   refine ⟨t.subs.length == 1 && (bounds t.mn t.mx && !t.has 1), br_intro (fun h4 => ?_) (fun h4 => ?_), ret_pure hm1 ?_⟩
   ·refine call_bool (cx_bounds t.mn t.mx m1) fun m2 hm2 => br_intro (fun h5 => ?_) (fun h5 => ?_)
    ·refine call_bool (cx_has t 1 m2 (hr1.mono hm2)) fun m3 hm3 => ⟨rfl, one_bool ?_⟩
     have h4' : ((t.subs.length : Int) == 1) = true := h4
     have : t.subs.length = 1 := by have := of_decide_eq_true h4'; omega
     simp_all <;> (intros; omega)
    ·refine ⟨rfl, one_bool ?_⟩
     simp_all <;> (intros; omega)
   ·refine ⟨rfl, one_bool ?_⟩
    have h4' : ((t.subs.length : Int) == 1) = false := h4
    have : ¬ t.subs.length = 1 := by have := of_decide_eq_false h4'; omega
    simp_all <;> (intros; omega)
   ·show Value.bool _ = Value.bool t.right; rw [T.right, h]; simp [this]
  ·refine ⟨t.k == 6 && t.subs.length == 1, br_intro (fun h4 => ⟨rfl, one_bool ?_⟩) (fun h4 => ⟨rfl, one_bool ?_⟩), ret_pure hm1 ?_⟩
   ·have : (t.k == 6) = true := h4
    rw [this, Bool.true_and]
    show (decide ((t.subs.length : Int) = 1)) = decide (t.subs.length = 1)
    rw [decide_eq_decide]; omega
   ·have : (t.k == 6) = false := h4
    simp [this]
   ·show Value.bool _ = Value.bool t.right; rw [T.right, h]
    have e1 : ¬ t.k = 1 := by simpa using h1
    have e2 : ¬ t.k = 2 := by simpa using h2
    have e3 : ¬ t.k = 3 := by simpa using h3
    have e4 : ¬ t.k = 4 := by simpa using h4
    have e5 : ¬ t.k = 5 := by simpa using h5
    simp [e1, e2, e3, e4, e5]
theorem cx_Clean (t : T) (m : Mem) (hr : Rep m t) : CX Tryz.prog 88 #[t.v] m [] (Ret (.bool t.clean)) := by
 apply cx_rx_Clean
 unfold VC_rx_Clean
 intro b m1 hm1 _ b2
 refine call_bool (cx_Light t m1 (hr.mono hm1)) fun m2 hm2 => br_intro (fun h => ret_pure (mLt hm1 hm2) ?_) (fun h => ?_)
 ·have : t.light = false := by simpa using h
  simp [Ret, T.clean, this]
 have hl : t.light = true := by simpa using h
 refine call_any (cx_nodes t m2) (fun v m' css h => by obtain ⟨_, rfl, _⟩ := h; rfl) ?_
 rintro g fi ca m3 hm3 ⟨b3, hv, hb3⟩
 obtain ⟨rfl, rfl, rfl⟩ := func_inj hv
 have hle := mLt hm1 (mLt hm2 hm3)
 refine ⟨_, ix_nodes1 t m3 b3 hb3 (hr.mono hle), fun y hy => ?_, fun _ css _ m' q => m3.le m' ∧ ∀ x ∈ t.nodes.take q, x.right = true, ⟨Mem.le_refl _, by simp⟩, ?_, ?_⟩
 ·obtain ⟨z, _, rfl⟩ := List.mem_map.1 hy; exact fits_v z
 ·rintro n0 n1 n2 n3 n4 n5 n6 a n7 c cs m4 q hm4 hq ⟨_, hq1⟩ b4
  have hq' : (List.map (fun z : T => [z.v]) t.nodes)[(q : Nat)]? = some [Value.agg #[.int .u8 n0, .int .u64 n1, .int .u64 n2, .int .u64 n3, .int .u64 n4, .int .i64 n5, .int .i64 n6, .slice a n7 c]] := hq
  rw [List.getElem?_map] at hq'
  obtain ⟨z, hz, hzv⟩ := Option.map_eq_some_iff.1 hq'
  have hzv' : z.v = Value.agg #[.int .u8 n0, .int .u64 n1, .int .u64 n2, .int .u64 n3, .int .u64 n4, .int .i64 n5, .int .i64 n6, .slice a n7 c] := by simpa using hzv
  have hzr : Rep m4 z := (rep_nodes (hr.mono hle) (List.mem_of_getElem? hz)).mono hm4
  have hcx := cx_right z m4 hzr
  rw [hzv'] at hcx
  refine call_bool hcx fun m5 hm5 => br_intro (fun h => ⟨rfl, ret_pure (mLt hle (mLt hm4 hm5)) ?_⟩) (fun h => ⟨rfl, mLt hm4 hm5, fun x hx => ?_⟩)
  ·have hz0 : z.right = false := by simpa using h
   have : t.nodes.all T.right = false := by
    rw [List.all_eq_false]; exact ⟨z, List.mem_of_getElem? hz, by simp [hz0]⟩
   simp [Ret, T.clean, this]
  ·rw [List.take_add_one, hz] at hx
   rcases List.mem_append.1 hx with hx | hx
   ·exact hq1 x hx
   ·simp at hx; rw [hx]; simpa using h
 ·rintro cs m4 hm4 ⟨_, hq1⟩
  refine ret_pure (mLt hle hm4) ?_
  rw [List.length_map, List.take_length] at hq1
  have : t.nodes.all T.right = true := List.all_eq_true.2 hq1
  simp [Ret, T.clean, this, hl]
theorem cx_Size (t : T) (m : Mem) (hr : Rep m t) : CX Tryz.prog 32 #[t.v] m [] (Ret (.int .i64 t.size)) := by
 apply cx_rx_Size
 unfold VC_rx_Size
 intro b m1 hm1 _
 refine call_bool (cx_Light t m1 (hr.mono hm1)) fun m2 hm2 => br_intro (fun h => ret_pure (mLt hm1 hm2) ?_) (fun h => ?_)
 ·have : t.light = false := by simpa using h
  simp [Ret, T.size, this]
 have hl : t.light = true := by simpa using h
 have hln : t.nodes.length ≤ 10000 := of_decide_eq_true hl
 intro b2
 refine call_any (cx_nodes t m2) (fun v m' css h => by obtain ⟨_, rfl, _⟩ := h; rfl) ?_
 rintro g fi ca m3 hm3 ⟨b3, hv, hb3⟩
 obtain ⟨rfl, rfl, rfl⟩ := func_inj hv
 have hle := mLt hm1 (mLt hm2 hm3)
 refine ⟨_, ix_nodes1 t m3 b3 hb3 (hr.mono hle), fun y hy => ?_, fun _ css _ m' q => css = [[.int .i64 q]] ∧ q ≤ t.nodes.length, ⟨rfl, by omega⟩, ?_, ?_⟩
 ·obtain ⟨z, _, rfl⟩ := List.mem_map.1 hy; exact fits_v z
 ·rintro n0 n1 n2 n3 n4 n5 n6 a n7 c cs m4 q hm4 hq ⟨hcs, _⟩
  obtain rfl : cs = [.int .i64 q] := by simpa using hcs
  have hlt : q < t.nodes.length := by
   have := (List.getElem?_eq_some_iff.1 (show (List.map (fun z : T => [z.v]) t.nodes)[(q : Nat)]? = some _ from hq)).1
   simpa using this
  have hw : IntKind.i64.wrap (intOf (Value.int .i64 (q : Int)) + 1) = (q : Int) + 1 := wrap64 (n := (q : Int) + 1) (by omega) (by omega)
  refine look_intro rfl (chk_intro rfl ?_)
  simp only [hw]
  exact ⟨by trivial, by simp, by omega⟩
 ·rintro cs m4 hm4 ⟨hcs, hq1⟩
  obtain rfl : cs = [.int .i64 t.nodes.length] := by simpa using hcs
  refine look_intro rfl (ret_pure (mLt hle hm4) ?_)
  simp [Ret, T.size, hl]
theorem cx_Groups (t : T) (m : Mem) (hr : Rep m t) : CX Tryz.prog 90 #[t.v] m [] (Ret (.int .i64 t.groups)) := by
 apply cx_rx_Groups
 unfold VC_rx_Groups
 intro b m1 hm1 _
 refine call_bool (cx_Light t m1 (hr.mono hm1)) fun m2 hm2 => br_intro (fun h => ret_pure (mLt hm1 hm2) ?_) (fun h => ?_)
 ·have : t.light = false := by simpa using h
  simp [Ret, T.groups, this]
 have hl : t.light = true := by simpa using h
 have hln : t.nodes.length ≤ 10000 := of_decide_eq_true hl
 intro b2
 refine call_any (cx_nodes t m2) (fun v m' css h => by obtain ⟨_, rfl, _⟩ := h; rfl) ?_
 rintro g fi ca m3 hm3 ⟨b3, hv, hb3⟩
 obtain ⟨rfl, rfl, rfl⟩ := func_inj hv
 have hle := mLt hm1 (mLt hm2 hm3)
 have hcl : ∀ q, (t.nodes.take q).countP (fun x => x.k == 6) ≤ 10000 := fun q => by
  have h1 := List.countP_le_length (p := fun x : T => x.k == 6) (l := t.nodes.take q)
  have h2 : (t.nodes.take q).length ≤ t.nodes.length := List.length_take_le' _ _
  omega
 refine ⟨_, ix_nodes1 t m3 b3 hb3 (hr.mono hle), fun y hy => ?_, fun _ css _ m' q => css = [[.int .i64 ((t.nodes.take q).countP fun x => x.k == 6 : Nat)]] ∧ q ≤ t.nodes.length, ⟨rfl, by omega⟩, ?_, ?_⟩
 ·obtain ⟨z, _, rfl⟩ := List.mem_map.1 hy; exact fits_v z
 ·rintro n0 n1 n2 n3 n4 n5 n6 a n7 c cs m4 q hm4 hq ⟨hcs, _⟩ b4
  obtain rfl : cs = _ := by simpa using hcs
  have hq' : (List.map (fun z : T => [z.v]) t.nodes)[(q : Nat)]? = some [Value.agg #[.int .u8 n0, .int .u64 n1, .int .u64 n2, .int .u64 n3, .int .u64 n4, .int .i64 n5, .int .i64 n6, .slice a n7 c]] := hq
  rw [List.getElem?_map] at hq'
  obtain ⟨z, hz, hzv⟩ := Option.map_eq_some_iff.1 hq'
  have hk : z.k = n0 := by
   have : z.v = Value.agg #[.int .u8 n0, .int .u64 n1, .int .u64 n2, .int .u64 n3, .int .u64 n4, .int .i64 n5, .int .i64 n6, .slice a n7 c] := by simpa using hzv
   simp [T.v] at this; exact this.1
  have hlt := (List.getElem?_eq_some_iff.1 hz).1
  have hstep : (t.nodes.take (q + 1)).countP (fun x => x.k == 6) = (t.nodes.take q).countP (fun x => x.k == 6) + (if z.k == 6 then 1 else 0) := by
   rw [List.take_add_one, hz, List.countP_append]; simp [List.countP_cons]
  refine br_intro (fun h => ?_) (fun h => ?_)
  ·have hw : IntKind.i64.wrap (intOf (Value.int .i64 ((t.nodes.take q).countP fun x => x.k == 6 : Nat)) + 1) = (((t.nodes.take q).countP fun x => x.k == 6 : Nat) : Int) + 1 := wrap64 (n := (((t.nodes.take q).countP fun x => x.k == 6 : Nat) : Int) + 1) (by have := hcl q; omega) (by have := hcl q; omega)
   refine look_intro rfl (chk_intro rfl ?_)
   simp only [hw]
   refine ⟨by trivial, ?_, by omega⟩
   rw [hstep, hk]
   have : (n0 == 6) = true := h
   simp [this]
  ·refine ⟨rfl, ?_, by omega⟩
   rw [hstep, hk]
   have : (n0 == 6) = false := h
   simp [this]
 ·rintro cs m4 hm4 ⟨hcs, hq1⟩
  obtain rfl : cs = _ := by simpa using hcs
  refine look_intro rfl (ret_pure (mLt hle hm4) ?_)
  simp [Ret, T.groups, hl]
theorem cx_positions (t : T) (m : Mem) (hr : Rep m t) (hl : t.nodes.length ≤ 10000) : CX Tryz.prog 110 #[t.v] m [] (Ret (.int .i64 t.pos)) := by
 apply cx_rx_positions
 unfold VC_rx_positions
 intro b m1 hm1 _
 have hsl := subs_le t
 have hpos := pos_eq t
 refine br_intro (fun hk => ?_) (fun hk => ?_)
 all_goals
  have hk' : (if t.k = 2 then (1 : Int) else 0) = 1 ∧ t.k = 2 ∨ (if t.k = 2 then (1 : Int) else 0) = 0 ∧ t.k ≠ 2 := by split <;> simp_all
  refine ⟨fun xs _ _ m'' q => ∃ i : Nat, i ≤ t.subs.length ∧ xs = [.int .i64 ((if t.k = 2 then 1 else 0) + posL (t.subs.take i)), .int .i64 i] ∧ m1.le m'' ∧ q = t.subs.length - i, ⟨t.subs.length, 0, by omega, by simp_all [posL], Mem.le_refl _, by omega⟩, ?_⟩
  rintro n n1 m2 q hm2 ⟨i, hi, hxs, _, hq⟩
  have hb1 := posL_nn (t.subs.take i)
  have hb2 := posL_le (t.subs.take i)
  have hb3 : (t.subs.take i).length ≤ i := List.length_take_le _ _
  clear hk'
  generalize hc : (if t.k = 2 then (1 : Int) else 0) = c at *
  have hc1 : 0 ≤ c ∧ c ≤ 1 := by rw [← hc]; split <;> omega
  simp only [List.cons.injEq, Value.int.injEq, true_and, and_true] at hxs
  obtain ⟨rfl, rfl⟩ := hxs
  refine br_intro (fun hlt => ?_) (fun hge => ?_)
  ·have hlt' : i < t.subs.length := by simpa using hlt
   obtain ⟨x, hx⟩ : ∃ x, t.subs[i]? = some x := ⟨_, List.getElem?_eq_getElem hlt'⟩
   have hmem : x ∈ t.subs := List.mem_of_getElem? hx
   have hsz := sub_lt hmem
   have hxn := sub_nodes hmem
   obtain ⟨_, h0 | ⟨b1, o1, ha, hat⟩⟩ := Rep_iff hr
   ·rw [h0] at hlt'; simp at hlt'
   obtain ⟨hxr, hxrep⟩ := (hat.mono ((mLt hm1 hm2))).get hx
   have hxb := pos_bd x
   refine ⟨b1, o1, ha, ⟨by omega, by omega⟩, _, _, _, _, _, _, _, _, hxr, fun b2 => chk_intro rfl ?_⟩
   refine call_int (cx_positions x m2 hxrep (by omega)) fun m3 hm3 => ⟨rfl, t.subs.length - (i + 1), by omega, i + 1, by omega, ?_, mLt hm2 hm3, rfl⟩
   rw [wrap64 (by omega) (by omega), wrap64 (by omega) (by omega), posL_take hx, Int.add_assoc]
   rfl
  ·have hi' : i = t.subs.length := by
    have : ¬ ((i : Int) < (t.subs.length : Int)) := by simpa using hge
    omega
   subst hi'
   rw [List.take_length] at hb1 hb2 ⊢
   have hF := posF_bd t.mn t.mx
   have hmul : 0 ≤ (c + posL t.subs) * posF t.mn t.mx ∧ (c + posL t.subs) * posF t.mn t.mx ≤ 100020001 * 10001 := by
    constructor
    ·exact Int.mul_nonneg (by omega) hF.1
    ·exact Int.mul_le_mul (by omega) hF.2 hF.1 (by omega)
   refine br_intro (fun h5 => br_intro (fun hx => ret_pure (mLt hm1 hm2) ?_) (fun hx => ret_pure (mLt hm1 hm2) ?_)) (fun h5 => ret_pure (mLt hm1 hm2) ?_)
   ·have e1 : t.k = 5 := by simpa using h5
    have e2 : t.mx = -1 := by simpa using hx
    have hF' : posF t.mn t.mx = imin (imax (imax t.mn 0) 1) 10001 := by simp [posF, e2]
    show Value.int .i64 (imin (IntKind.i64.wrap ((c + posL t.subs) * imin (imax (imax t.mn 0) 1) 10001)) 10001) = Value.int .i64 t.pos
    rw [← hF', wrap64 (by omega) (by omega), hpos, posR, if_pos e1]; rfl
   ·have e1 : t.k = 5 := by simpa using h5
    have e2 : ¬ t.mx = -1 := by simpa using hx
    have hF' : posF t.mn t.mx = imin (imax (imax t.mn 0) t.mx) 10001 := by simp [posF, e2]
    show Value.int .i64 (imin (IntKind.i64.wrap ((c + posL t.subs) * imin (imax (imax t.mn 0) t.mx) 10001)) 10001) = Value.int .i64 t.pos
    rw [← hF', wrap64 (by omega) (by omega), hpos, posR, if_pos e1]; rfl
   ·have e1 : ¬ t.k = 5 := by simpa using h5
    show Value.int .i64 (imin (c + posL t.subs) 10001) = Value.int .i64 t.pos
    rw [hpos, posR, if_neg e1]
termination_by SizeOf.sizeOf t
decreasing_by all_goals exact hsz
theorem cx_Positions (t : T) (m : Mem) (hr : Rep m t) : CX Tryz.prog 89 #[t.v] m [] (Ret (.int .i64 t.positions)) := by
 apply cx_rx_Positions
 unfold VC_rx_Positions
 intro b m1 hm1 _
 refine call_bool (cx_Light t m1 (hr.mono hm1)) fun m2 hm2 => br_intro (fun h => ret_pure (mLt hm1 hm2) ?_) (fun h => ?_)
 ·have : t.light = false := by simpa using h
  simp [Ret, T.positions, this]
 have hl : t.light = true := by simpa using h
 refine call_int (cx_positions t m2 (hr.mono (mLt hm1 hm2)) (of_decide_eq_true hl)) fun m3 hm3 => ret_pure (mLt hm1 (mLt hm2 hm3)) ?_
 simp [Ret, T.positions, hl]
def rgxV (bg en : Bool) (t : T) : Value := .agg #[.bool bg, .bool en, .int .u8 t.k, .int .u64 t.s0, .int .u64 t.s1, .int .u64 t.s2, .int .u64 t.s3, .int .i64 t.mn, .int .i64 t.mx, .slice t.a t.subs.length t.c]
theorem cx_Check (bg en : Bool) (t : T) (m : Mem) (hr : Rep m t) : CX Tryz.prog 63 #[rgxV bg en t] m [] (Ret (.int .i64 t.check)) := by
 apply cx_rx_Check
 unfold VC_rx_Check
 intro b m1 hm1 _
 refine call_bool (cx_Clean t m1 (hr.mono hm1)) fun m2 hm2 => br_intro (fun h => ret_pure (mLt hm1 hm2) ?_) (fun h => ?_)
 ·have : t.clean = false := by simpa using h
  simp [Ret, T.check, this]
 have hm12 := mLt hm1 hm2
 have h1 : ¬ t.clean = false := by simpa using h
 refine call_int (cx_Size t m2 (hr.mono hm12)) fun m3 hm3 => br_intro (fun h => ret_pure (mLt hm12 hm3) ?_) (fun h => ?_)
 ·have h2 : t.size > 120 := by simpa using h
  show Value.int .i64 81 = Value.int .i64 t.check
  rw [T.check, if_neg h1, if_pos h2]
 have h2 : ¬ t.size > 120 := by simpa using h
 have hm13 := mLt hm12 hm3
 refine call_int (cx_Positions t m3 (hr.mono hm13)) fun m4 hm4 => br_intro (fun h => ret_pure (mLt hm13 hm4) ?_) (fun h => ?_)
 ·have h3 : t.positions > 400 := by simpa using h
  show Value.int .i64 82 = Value.int .i64 t.check
  rw [T.check, if_neg h1, if_neg h2, if_pos h3]
 have h3 : ¬ t.positions > 400 := by simpa using h
 have hm14 := mLt hm13 hm4
 refine call_int (cx_Groups t m4 (hr.mono hm14)) fun m5 hm5 => br_intro (fun h => ret_pure (mLt hm14 hm5) ?_) (fun h => ret_pure (mLt hm14 hm5) ?_)
 ·have h4 : t.groups > 9 := by simpa using h
  show Value.int .i64 83 = Value.int .i64 t.check
  rw [T.check, if_neg h1, if_neg h2, if_neg h3, if_pos h4]
 ·have h4 : ¬ t.groups > 9 := by simpa using h
  show Value.int .i64 0 = Value.int .i64 t.check
  rw [T.check, if_neg h1, if_neg h2, if_neg h3, if_neg h4]
theorem cx_EqualFunc (l l' : List T) (a a' : Option Addr) (c c' : Nat) (m : Mem) (hl : l.length ≤ 1000000000000000) (hr : l = [] ∨ ∃ b o, a = some ⟨b, o, none⟩ ∧ RepAt m b o l) (hr' : l' = [] ∨ ∃ b o, a' = some ⟨b, o, none⟩ ∧ RepAt m b o l')
  (hp : ∀ x ∈ l, ∀ y ∈ l', ∀ m', m.le m' → Rep m' x → Rep m' y → CX Tryz.prog 108 #[x.v, y.v] m' [] (Ret (.bool (x.same y)))) :
  CX Tryz.prog 120 #[.slice a l.length c, .slice a' l'.length c', .func (.func 108) #[] #[]] m [] (Ret (.bool (sameL l l'))) := by
 apply cx_slices_EqualFunc_rx_Node_rx_Node_rx_Node_rx_Node a l.length c a' l'.length c' _ [] []
 unfold VC_slices_EqualFunc_rx_Node_rx_Node_rx_Node_rx_Node
 refine br_intro (fun h => ret_pure (Mem.le_refl _) ?_) (fun h => ?_)
 ·have : ¬ l.length = l'.length := by
   intro e; rw [e] at h; simp at h
  show Value.bool false = _
  rw [sameL_len this]
 have hll : l.length = l'.length := by
  have h2 : ((l.length : Int) == (l'.length : Int)) = true := by simpa using h
  have := of_decide_eq_true h2; omega
 refine ⟨fun xs _ _ m'' q => ∃ i : Nat, i ≤ l.length ∧ xs = [.int .i64 i] ∧ sameL (l.take i) (l'.take i) = true ∧ m.le m'' ∧ q = l.length - i, ⟨l.length, 0, by omega, rfl, by simp [sameL], Mem.le_refl _, by omega⟩, ?_⟩
 rintro n m' q hm ⟨i, hi, hn, hsame, hle, hq⟩
 obtain rfl : n = i := by simpa using hn
 refine br_intro (fun hlt => ?_) (fun hge => ?_)
 ·have hlt' : i < l.length := by simpa using hlt
  obtain ⟨x, hx⟩ : ∃ x, l[i]? = some x := ⟨_, List.getElem?_eq_getElem hlt'⟩
  obtain ⟨y, hy⟩ : ∃ y, l'[i]? = some y := ⟨_, List.getElem?_eq_getElem (by omega)⟩
  have hmx : x ∈ l := List.mem_of_getElem? hx
  have hmy : y ∈ l' := List.mem_of_getElem? hy
  rcases hr with h0 | ⟨b1, o1, ha, hat⟩
  ·rw [h0] at hlt'; simp at hlt'
  rcases hr' with h0 | ⟨b2, o2, ha', hat'⟩
  ·rw [h0] at hll; simp at hll; rw [hll] at hlt'; simp at hlt'
  obtain ⟨hxr, hxrep⟩ := (hat.mono hm).get hx
  obtain ⟨hyr, hyrep⟩ := (hat'.mono hm).get hy
  refine ⟨b1, o1, ha, ⟨by omega, by omega⟩, _, _, _, _, _, _, _, _, hxr, fun b3 => chk_intro rfl ⟨b2, o2, ha', ⟨by omega, by omega⟩, _, _, _, _, _, _, _, _, hyr, fun b4 => chk_intro rfl ?_⟩⟩
  refine call_bool (hp x hmx y hmy m' hm hxrep hyrep) fun m1 hm1 => br_intro (fun hpx => ?_) (fun hpx => ?_)
  ·have hf : x.same y = false := by simpa using hpx
   refine ret_pure (mLt hm hm1) ?_
   show Value.bool false = _
   rw [sameL_at hx hy hf]
  ·have hf : x.same y = true := by simpa using hpx
   refine ⟨l.length - (i + 1), by omega, i + 1, by omega, by rw [wrap64 (by omega) (by omega)]; rfl, sameL_take hx hy hsame hf trivial, mLt hm hm1, rfl⟩
 ·have hi' : i = l.length := by
   have : ¬ ((i : Int) < (l.length : Int)) := by simpa using hge
   omega
  subst hi'
  refine ret_pure hm ?_
  rw [List.take_length, hll, List.take_length] at hsame
  show Value.bool true = _
  rw [hsame]
theorem cx_same (t u : T) (m : Mem) (hr : Rep m t) (hu : Rep m u) : CX Tryz.prog 108 #[t.v, u.v] m [] (Ret (.bool (t.same u))) := by
 apply cx_rx_same
 unfold VC_rx_same
 intro b m1 hm1 _ b' m2 hm2 _
 have hm := mLt hm1 hm2
 refine ⟨t.same u, ?_, ret_pure hm rfl⟩
 rw [same_eq]
 refine br_intro (fun h1 => ⟨_, eq_set _ _ _ _ _ _ _ _, br_intro (fun h2 => br_intro (fun h3 => br_intro (fun h4 => ?_) (fun h4 => ⟨rfl, one_bool ?_⟩)) (fun h3 => ⟨rfl, one_bool ?_⟩)) (fun h2 => ⟨rfl, one_bool ?_⟩)⟩) (fun h1 => ⟨rfl, one_bool ?_⟩)
 ·have hr' := Rep_iff (hr.mono hm)
  have hu' := Rep_iff (hu.mono hm)
  refine call_bool (cx_EqualFunc t.subs u.subs t.a u.a t.c u.c m2 hr'.1 hr'.2 hu'.2 fun x hx y hy m' _ hxr hyr => ?_) fun m3 hm3 => ⟨rfl, one_bool ?_⟩
  ·have hsz := sub_lt hx
   exact cx_same x y m' hxr hyr
  ·rw [h1, h2, h3, h4]; rfl
 ·rw [h1, h2, h3, h4]; rfl
 ·rw [h1, h2, h3]; rfl
 ·rw [h1, h2]; rfl
 ·rw [h1]; rfl
termination_by SizeOf.sizeOf t
decreasing_by exact hsz
theorem cx_Same (t u : T) (m : Mem) (hr : Rep m t) (hu : Rep m u) : CX Tryz.prog 87 #[t.v, u.v] m [] (Ret (.bool (t.light && (u.light && t.same u)))) := by
 apply cx_rx_Same
 unfold VC_rx_Same
 intro b m1 hm1 _ b' m2 hm2 _
 have hm := mLt hm1 hm2
 refine ⟨t.light && (u.light && t.same u), ?_, ret_pure hm rfl⟩
 refine call_bool (cx_Light t m2 (hr.mono hm)) fun m3 hm3 => br_intro (fun h1 => ?_) (fun h1 => ⟨rfl, one_bool ?_⟩)
 ·refine call_bool (cx_Light u m3 (hu.mono (mLt hm hm3))) fun m4 hm4 => br_intro (fun h2 => ?_) (fun h2 => ?_)
  ·have hm5 := mLt (mLt hm hm3) hm4
   refine call_bool (cx_same t u m4 (hr.mono hm5) (hu.mono hm5)) fun m6 hm6 => ⟨rfl, one_bool ?_⟩
   rw [h1, h2]; rfl
  ·refine ⟨rfl, one_bool ?_⟩
   rw [h1, h2]; rfl
 ·rw [h1]; rfl
end Go.Proofs.YtiadlgdcbpnmkaaGreatDoor
set_option linter.unusedVariables false
set_option linter.unusedSimpArgs false
set_option linter.unusedSectionVars false
namespace Go.Proofs.YtiadlgdcbpnmkaaGreatDoor
open Go Go.Eng Go.Rx Go.Proofs Go.RowKit
theorem br_t {b : Bool} {p q : Prop} (h : b = true) (k : p) : br b p q := by subst h; exact k
theorem br_f {b : Bool} {p q : Prop} (h : b = false) (k : q) : br b p q := by subst h; exact k
theorem row_get {m : Mem} {a : Option Addr} {ts : List T} (h : rowRd m a (Rx.cellsL ts)) {i : Nat} {t : T} (hi : ts[i]? = some t) : ∃ b o, a = some ⟨b, o, none⟩ ∧ m.reads b (o + i * 8) t.cs := by
 rcases h with h | ⟨b, o, ha, h⟩
 ·have hl : (Rx.cellsL ts).length = 0 := by rw [h]; rfl
  rw [cellsL_len] at hl
  have := (List.getElem?_eq_some_iff.1 hi).1
  omega
 ·refine ⟨b, o, ha, fun j v hj => ?_⟩
  rw [Nat.add_assoc]
  refine h (i * 8 + j) v ?_
  have e : ts = ts.take i ++ (t :: ts.drop (i + 1)) := by
   have hlt := (List.getElem?_eq_some_iff.1 hi).1
   have h2 := List.drop_eq_getElem_cons hlt
   rw [(List.getElem?_eq_some_iff.1 hi).2] at h2
   rw [← h2, List.take_append_drop]
  have hlt := (List.getElem?_eq_some_iff.1 hi).1
  have hj8 := (List.getElem?_eq_some_iff.1 hj).1
  rw [e, cellsL_append, List.getElem?_append_right (by rw [cellsL_len, List.length_take, Nat.min_eq_left (by omega)]; omega), cellsL_len, List.length_take, Nat.min_eq_left (by omega), show i * 8 + j - i * 8 = j by omega]
  have e2 : Rx.cellsL (t :: ts.drop (i + 1)) = t.cs ++ Rx.cellsL (ts.drop (i + 1)) := by simp [Rx.cellsL]
  rw [e2, List.getElem?_append_left hj8]; exact hj
def Apart (mb : Mem) (a : Option Addr) : Prop := a = none ∨ ∃ b, a = some ⟨b, 0, none⟩ ∧ mb.free b
theorem Apart.tok {mb M : Mem} {a a' : Option Addr} {n c : Nat} (h : Apart mb a) (hm : mb.le M) (ht : TokFact M a a' n c) : Apart mb a' := by
 rcases ht.2 with h1 | ⟨b, o, h1, h2⟩
 ·exact .inl h1
 rcases h2 with h2 | ⟨h3, h2⟩
 ·rw [← h2]; exact h
 ·subst h3
  refine .inr ⟨b, h1, fun o => ?_⟩
  cases hb : mb b o with
  | none => rfl
  | some v => have := hm _ _ _ hb; rw [h2.1 o] at this; cases this
theorem Apart.base {mb m : Mem} {a : Option Addr} {ts : List T} (h : Apart mb a) (hrow : rowRd m a (Rx.cellsL ts)) (hn : ts ≠ []) : ∃ b, a = some ⟨b, 0, none⟩ ∧ mb.free b ∧ ∃ o u, m b o = some u := by
 obtain ⟨t, r, rfl⟩ : ∃ t r, ts = t :: r := by cases ts with
  | nil => exact absurd rfl hn
  | cons t r => exact ⟨t, r, rfl⟩
 obtain ⟨b', o, ha, hrd⟩ := row_get hrow (i := 0) (t := t) rfl
 rcases h with h | ⟨b, hb, hf⟩
 ·rw [h] at ha; cases ha
 ·rw [hb] at ha; cases ha
  exact ⟨b', hb, hf, _, _, hrd 0 (.int .u8 t.k) rfl⟩
end Go.Proofs.YtiadlgdcbpnmkaaGreatDoor
set_option linter.unusedVariables false
set_option linter.unusedSimpArgs false
namespace Go.Proofs.YtiadlgdcbpnmkaaGreatDoor
open Go Go.Eng Go.Rx Go.Proofs Go.RowKit
set_option maxRecDepth 100000
theorem cx_enodes (t : E) (m : Mem) : CX Tryz.prog 80 #[t.v] m [] (fun v m' _ => ∃ b, v = .func (.func 99) #[] #[.pointer (some ⟨b, 0, none⟩)] ∧ m'.reads b 0 t.cs) := by
 apply cx_expr_nodes
 unfold VC_expr_nodes
 intro b m' hm hb
 exact ⟨m', hm, Mem.le_refl _, b, rfl, hb⟩
theorem ix_enodes1 (t : E) (m : Mem) (c0b : Nat) (hrd : m.reads c0b 0 t.cs) (hrep : RepE m t) : IX Tryz.prog 99 [] [.pointer (some ⟨c0b, 0, none⟩)] m (t.nodes.map fun x => [x.v]) := by
 apply ix_expr_nodes_1 0 [] [] c0b 0
 unfold VC_expr_nodes_1
 intro l b m' hm hb
 have hrd' := hrd.mono hm
 refine ⟨_, _, _, _, _, hrd', ⟨rfl, by omega, ?_⟩, ?_, .inr rfl⟩
 ·rw [nodesE_eq]; rfl
 refine ⟨t.sl, hrd' 4 _ rfl, chk_intro rfl ?_⟩
 refine ⟨fun xs _ _ m'' q => ∃ i : Nat, i ≤ t.subs.length ∧ xs = [.int .i64 ((1 + (nodesEL (t.subs.take i)).length : Nat) : Int), .int .i64 i] ∧ m'.le m'' ∧ q = t.subs.length - i, ⟨t.subs.length, 0, by omega, ?_, Mem.le_refl _, by omega⟩, ?_⟩
 ·simp [nodesEL]
 rintro y n m2 q hm2 ⟨i, hi, hxs, hmle, hq⟩
 simp only [List.cons.injEq, Value.int.injEq, true_and, and_true] at hxs
 obtain ⟨rfl, rfl⟩ := hxs
 have hlen : slN t.sl = t.subs.length := rfl
 rw [hlen]
 refine br_intro (fun hlt => ?_) (fun hge => ?_)
 ·have hlt' : i < t.subs.length := by simpa using hlt
  obtain ⟨x, hx⟩ : ∃ x, t.subs[i]? = some x := ⟨_, List.getElem?_eq_getElem hlt'⟩
  have hmem : x ∈ t.subs := List.mem_of_getElem? hx
  have hsz := subE_lt hmem
  obtain ⟨hmax, h0 | ⟨b1, o1, ha, hat⟩⟩ := RepE_iff hrep
  ·rw [h0] at hlt'; simp at hlt'
  obtain ⟨hxr, hxrep⟩ := (hat.mono' ((mLt hm hmle))).get hx
  refine chk_intro rfl ⟨b1, o1, ha, ⟨by omega, by omega⟩, _, _, _, _, _, hxr, fun b2 => chk_intro rfl ?_⟩
  refine ⟨_, trivial, cx_enodes x m2, fun v m' css h => ?_, ?_⟩
  ·obtain ⟨b3, rfl, _⟩ := h; rfl
  rintro g fi ca m3 hm3 ⟨b3, hv, hb3⟩
  obtain ⟨rfl, rfl, rfl⟩ := func_inj hv
  refine ⟨_, ix_enodes1 x m3 b3 hb3 (RepE.mono' hxrep hm3), fun y hy => ?_, ?_⟩
  ·obtain ⟨z, _, rfl⟩ := List.mem_map.1 hy; exact fitsE_v z
  refine ⟨fun xs _ _ m'' q => q ≤ x.nodes.length ∧ xs = [.int .i64 ((1 + (nodesEL (t.subs.take i)).length + q : Nat) : Int)] ∧ m3.le m'', ⟨Nat.zero_le _, rfl, Mem.le_refl _⟩, ?_, ?_⟩
  ·rintro y n0 v0 s0 n3 a n7 c m4 q hm4 hq ⟨hq1, hy, _⟩ b4
   simp only [List.cons.injEq, Value.int.injEq, true_and, and_true] at hy
   subst hy
   have hq' : (List.map (fun z : E => [z.v]) x.nodes)[(q : Nat)]? = some [Value.agg #[.int .u8 n0, v0, .string s0, .int .i64 n3, .slice a n7 c]] := hq
   rw [List.getElem?_map] at hq'
   obtain ⟨z, hz, hzv⟩ := Option.map_eq_some_iff.1 hq'
   have hql : q < x.nodes.length := (List.getElem?_eq_some_iff.1 hz).1
   simp only [E.v, List.cons.injEq, Value.agg.injEq, Array.mk.injEq, Value.int.injEq, Value.string.injEq, Value.slice.injEq, true_and, and_true] at hzv
   obtain ⟨rfl, rfl, rfl, rfl, rfl, rfl, rfl⟩ := hzv
   refine chk_intro rfl ⟨⟨rfl, by omega, ?_⟩, ⟨rfl, by omega, ?_, hm4⟩, rfl, .inr rfl⟩
   ·rw [Int.toNat_natCast]
    show (t.nodes.map fun x => [x.v])[1 + (nodesEL (t.subs.take i)).length + q]? = _
    rw [List.getElem?_map, nodesE_at hx hz]; rfl
   ·congr 2
  ·rintro y m4 hm4 ⟨hq1, hy, _⟩
   simp only [List.cons.injEq, Value.int.injEq, true_and, and_true] at hy
   subst hy
   refine ⟨rfl, t.subs.length - (i + 1), by omega, i + 1, by omega, ?_, mLt hmle (mLt hm3 hm4), rfl⟩
   rw [wrap64 (by omega) (by omega), nodesEL_take hx, List.length_append]
   simp [E.v, Nat.add_assoc]
 ·have hi' : i = t.subs.length := by
   have : ¬ ((i : Int) < (t.subs.length : Int)) := by simpa using hge
   omega
  subst hi'
  left
  rw [List.take_length, nodesE_eq]
  simp
  omega
termination_by SizeOf.sizeOf t
decreasing_by exact hsz
theorem cx_eLight (t : E) (m : Mem) (hr : RepE m t) : CX Tryz.prog 45 #[t.v] m [] (Ret (.bool t.light)) := by
 apply cx_expr_Light
 unfold VC_expr_Light
 intro b m1 hm1 _ b2
 refine call_any (cx_enodes t m1) (fun v m' css h => by obtain ⟨_, rfl, _⟩ := h; rfl) ?_
 rintro g fi ca m2 hm2 ⟨b3, hv, hb3⟩
 obtain ⟨rfl, rfl, rfl⟩ := func_inj hv
 have hle := mLt hm1 hm2
 refine ⟨_, ix_enodes1 t m2 b3 hb3 (RepE.mono' hr hle), fun y hy => ?_, fun _ css _ m' q => css = [[.int .i64 q]] ∧ q ≤ 10000 ∧ q ≤ t.nodes.length, ⟨rfl, by omega, by omega⟩, ?_, ?_⟩
 ·obtain ⟨z, _, rfl⟩ := List.mem_map.1 hy; exact fitsE_v z
 ·rintro n0 v0 s0 n3 a n7 c cs m3 q hm3 hq ⟨hcs, hq1, _⟩
  obtain rfl : cs = [.int .i64 q] := by simpa using hcs
  have hlt : q < t.nodes.length := by
   have := (List.getElem?_eq_some_iff.1 (show (List.map (fun z : E => [z.v]) t.nodes)[(q : Nat)]? = some _ from hq)).1
   simpa using this
  refine look_intro rfl (chk_intro rfl ?_)
  have hw : IntKind.i64.wrap (intOf (Value.int .i64 (q : Int)) + 1) = (q : Int) + 1 := wrap64 (n := (q : Int) + 1) (by omega) (by omega)
  simp only [hw]
  refine br_intro (fun h => ⟨by trivial, ret_pure (mLt hle hm3) ?_⟩) (fun h => ⟨by trivial, ?_, ?_, by omega⟩)
  ·have : ((q : Int) + 1 > 10000) := by simpa using h
   simp [Ret, E.light]; omega
  ·simp
  ·have : ¬ ((q : Int) + 1 > 10000) := by simpa using h
   omega
 ·rintro cs m3 hm3 ⟨hcs, hq1, _⟩
  obtain rfl : cs = [.int .i64 t.nodes.length] := by simpa using hcs
  refine look_intro rfl (chk_intro rfl (ret_pure (mLt hle hm3) ?_))
  show Value.bool (decide ((t.nodes.length : Int) ≤ 10000)) = Value.bool t.light
  congr 1
  rw [E.light, decide_eq_decide]; omega
theorem cx_eSize (t : E) (m : Mem) (hr : RepE m t) : CX Tryz.prog 46 #[t.v] m [] (Ret (.int .i64 t.size)) := by
 apply cx_expr_Size
 unfold VC_expr_Size
 intro b m1 hm1 _ b2
 refine call_bool (cx_eLight t m1 (RepE.mono' hr hm1)) fun m2 hm2 => br_intro (fun hl => ?_) (fun h => ret_pure (mLt hm1 hm2) (by simp [Ret, E.size, h]))
 have hln : t.nodes.length ≤ 10000 := of_decide_eq_true hl
 refine call_any (cx_enodes t m2) (fun v m' css h => by obtain ⟨_, rfl, _⟩ := h; rfl) ?_
 rintro g fi ca m3 hm3 ⟨b3, hv, hb3⟩
 obtain ⟨rfl, rfl, rfl⟩ := func_inj hv
 have hle := mLt hm1 (mLt hm2 hm3)
 refine ⟨_, ix_enodes1 t m3 b3 hb3 (RepE.mono' hr hle), fun y hy => ?_, fun _ css _ m' q => css = [[.int .i64 q]] ∧ q ≤ t.nodes.length, ⟨rfl, by omega⟩, ?_, ?_⟩
 ·obtain ⟨z, _, rfl⟩ := List.mem_map.1 hy; exact fitsE_v z
 ·rintro n0 v0 s0 n3 a n7 c cs m4 q hm4 hq ⟨hcs, _⟩
  obtain rfl : cs = [.int .i64 q] := by simpa using hcs
  have hlt : q < t.nodes.length := by
   have := (List.getElem?_eq_some_iff.1 (show (List.map (fun z : E => [z.v]) t.nodes)[(q : Nat)]? = some _ from hq)).1
   simpa using this
  have hw : IntKind.i64.wrap (intOf (Value.int .i64 (q : Int)) + 1) = (q : Int) + 1 := wrap64 (n := (q : Int) + 1) (by omega) (by omega)
  refine look_intro rfl (chk_intro rfl ?_)
  simp only [hw]
  exact ⟨by trivial, by simp, by omega⟩
 ·rintro cs m4 hm4 ⟨hcs, hq1⟩
  obtain rfl : cs = [.int .i64 t.nodes.length] := by simpa using hcs
  refine look_intro rfl (ret_pure (mLt hle hm4) ?_)
  simp [Ret, E.size, hl]
theorem fl_eql (T : TypeId) (x y : Nat) : BinIs Tryz.prog .eql T (.float .f64 x) (.float .f64 y) (.bool (Op.floatEq .f64 x y)) := fun ox oy w => by
 simp [eqGuard, binOp, Op.floatCmp, Op.floatEq]
theorem fl_neq (T : TypeId) (x y : Nat) : BinIs Tryz.prog .neq T (.float .f64 x) (.float .f64 y) (.bool (!Op.floatEq .f64 x y)) := fun ox oy w => by
 simp [eqGuard, binOp, Op.floatCmp, Op.floatEq, bne]
theorem pf_bits (x : Nat) : PureF Tryz.prog 84 [.float .f64 x] (.int .u64 x) := fun w => by
 rw [run_callFunc_extern Tryz.func84 (by kernel_rfl) (by kernel_rfl) (by kernel_rfl) (e := Go.Extern.MathFloatBits.float64bits) (by kernel_rfl)]
 rfl
theorem pf_from (n : Nat) : PureF Tryz.prog 136 [.int .u64 n] (.float .f64 n) := fun w => by
 rw [run_callFunc_extern Tryz.func136 (by kernel_rfl) (by kernel_rfl) (by kernel_rfl) (e := Go.Extern.MathFloatBits.float64frombits) (by kernel_rfl)]
 rfl
theorem cx_NaN (m : Mem) : CX Tryz.prog 130 #[] m [] (Ret (.float .f64 nanB)) := by
 apply cx_floats_NaN
 unfold VC_floats_NaN
 exact ⟨_, pf_from nanB, ret_pure (Mem.le_refl _) rfl⟩
theorem cx_Canon (x : Nat) (m : Mem) : CX Tryz.prog 123 #[.float .f64 x] m [] (Ret (.float .f64 (canonF x))) := by
 apply cx_floats_Canon
 unfold VC_floats_Canon
 refine ⟨_, fl_neq _ x x, br_intro (fun h => ?_) (fun h => ret_pure (Mem.le_refl _) ?_)⟩
 ·refine call_any (cx_NaN m) (s := .any) (fun _ _ _ _ => rfl) ?_
  intro v m1 hm1 hv
  have h' : Op.floatEq .f64 x x = false := by simpa using h
  refine ret_pure hm1 ?_
  show v = _
  rw [show v = _ from hv]; unfold canonF; rw [h']; rfl
 ·have h' : Op.floatEq .f64 x x = true := by simpa using h
  show Value.float .f64 x = _
  unfold canonF; rw [h']; rfl
theorem cx_fClean (x : Nat) (m : Mem) : CX Tryz.prog 83 #[.float .f64 x] m [] (Ret (.bool (cleanF x))) := by
 apply cx_floats_Clean
 unfold VC_floats_Clean
 refine ⟨cleanF x, ⟨_, fl_eql _ x x, br_intro (fun h => ?_) (fun h => ⟨_, pf_bits x, chk_intro rfl ?_⟩)⟩, ret_pure (Mem.le_refl _) rfl⟩
 ·unfold cleanF; rw [h]; rfl
 ·unfold cleanF; rw [h, Bool.false_or]
  exact one_bool (show decide ((x : Int) = 9221120237041090561) = decide (x = nanB) from decide_eq_decide.2 (by unfold nanB; omega))
theorem cx_fSame (x y : Nat) (m : Mem) : CX Tryz.prog 111 #[.float .f64 x, .float .f64 y] m [] (Ret (.bool (sameF x y))) := by
 apply cx_floats_Same
 unfold VC_floats_Same
 refine call_any (cx_Canon x m) (s := .any) (fun _ _ _ _ => rfl) ?_
 intro v m1 hm1 hv
 refine ⟨.int .u64 (canonF x), by rw [show v = _ from hv]; exact pf_bits _, ?_⟩
 refine call_any (cx_Canon y m1) (s := .any) (fun _ _ _ _ => rfl) ?_
 intro u m2 hm2 hu
 refine ⟨.int .u64 (canonF y), by rw [show u = _ from hu]; exact pf_bits _, chk_intro rfl (ret_pure (mLt hm1 hm2) ?_)⟩
 show Value.bool _ = _
 congr 1
 exact show decide ((canonF x : Int) = canonF y) = decide (canonF x = canonF y) from decide_eq_decide.2 (by omega)
def strsL (l : List ByteArray) : List Value := l.map fun s => .string s
theorem strs_get {m : Mem} {a : Option Addr} {l : List ByteArray} (h : rowRd m a (strsL l)) {k : Nat} {s : ByteArray} (hk : l[k]? = some s) : ∃ b o, a = some ⟨b, o, none⟩ ∧ m b (o + k * 1) = some (.string s) := by
 rcases h with h | ⟨b, o, ha, h⟩
 ·have : l = [] := by simpa [strsL] using h
  rw [this] at hk; simp at hk
 ·exact ⟨b, o, ha, by rw [Nat.mul_one]; exact h k _ (by rw [strsL, List.getElem?_map, hk]; rfl)⟩
theorem cx_IndexS (l : List ByteArray) (a : Option Addr) (c : Nat) (s : ByteArray) (m : Mem) (hl : l.length ≤ 1000000000000000) (hr : rowRd m a (strsL l)) :
  CX Tryz.prog 100 #[.slice a l.length c, .string s] m [] (Ret (.int .i64 (if l.any (fun y => eqS s y) then (l.findIdx (fun y => eqS s y) : Nat) else (-1 : Int)))) := by
 apply cx_slices_Index_string_string
 unfold VC_slices_Index_string_string
 refine ⟨fun xs _ _ m'' q => ∃ i : Nat, i ≤ l.length ∧ xs = [.int .i64 i] ∧ (∀ x ∈ l.take i, eqS s x = false) ∧ q = l.length - i, ⟨l.length, 0, by omega, rfl, by simp, by omega⟩, ?_⟩
 rintro n m' q hm ⟨i, hi, hn, hno, hq⟩
 obtain rfl : n = i := by simpa using hn
 refine br_intro (fun hlt => ?_) (fun hge => ?_)
 ·have hlt' : i < l.length := by simpa using hlt
  obtain ⟨x, hx⟩ : ∃ x, l[i]? = some x := ⟨_, List.getElem?_eq_getElem hlt'⟩
  have hmem : x ∈ l := List.mem_of_getElem? hx
  obtain ⟨b1, o1, ha, hx1⟩ := strs_get (hr.mono hm) hx
  refine ⟨b1, o1, ha, ⟨by omega, by omega⟩, _, hx1, chk_intro rfl (br_intro (fun hpx => ?_) (fun hpx => ?_))⟩
  ·refine ret_pure hm ?_
   have hany : l.any (fun y => eqS s y) = true := List.any_eq_true.2 ⟨x, hmem, hpx⟩
   have hfind : l.findIdx (fun y => eqS s y) = i := by
    rw [List.findIdx_eq hlt']
    refine ⟨by rw [(List.getElem?_eq_some_iff.1 hx).2]; exact hpx, fun j hj => ?_⟩
    exact hno _ (List.mem_of_getElem? (i := j) (by rw [List.getElem?_take_of_lt hj]; exact List.getElem?_eq_getElem (by omega)))
   simp [Ret, hany, hfind]
  ·refine ⟨l.length - (i + 1), by omega, i + 1, by omega, by rw [wrap64 (by omega) (by omega)]; rfl, ?_, rfl⟩
   intro y hy
   rw [List.take_add_one, hx] at hy
   rcases List.mem_append.1 hy with hy | hy
   ·exact hno y hy
   ·simp at hy; rw [hy]; exact hpx
 ·have hi' : i = l.length := by
   have : ¬ ((i : Int) < (l.length : Int)) := by simpa using hge
   omega
  subst hi'
  refine ret_pure hm ?_
  have hany : l.any (fun y => eqS s y) = false := by
   rw [List.any_eq_false]
   rw [List.take_length] at hno
   exact fun x hx => by simp [hno x hx]
  simp [Ret, hany]
theorem cx_ContainsS (l : List ByteArray) (a : Option Addr) (c : Nat) (s : ByteArray) (m : Mem) (hl : l.length ≤ 1000000000000000) (hr : rowRd m a (strsL l)) :
  CX Tryz.prog 81 #[.slice a l.length c, .string s] m [] (Ret (.bool (l.any fun y => eqS s y))) := by
 apply cx_slices_Contains_string_string
 unfold VC_slices_Contains_string_string
 refine call_int (cx_IndexS l a c s m hl hr) fun m' hm => ret_pure hm ?_
 cases h : l.any (fun y => eqS s y) <;> simp [Ret]
theorem cx_IndexFuncS (l : List ByteArray) (a : Option Addr) (c : Nat) (g : Nat) (ca : List Value) (p : ByteArray → Bool) (m : Mem) (hl : l.length ≤ 1000000000000000) (hr : rowRd m a (strsL l))
  (hp : ∀ x ∈ l, ∀ m', m.le m' → CX Tryz.prog g (.string x :: ca).toArray m' [] (Ret (.bool (p x)))) :
  CX Tryz.prog 114 #[.slice a l.length c, .func (.func g) #[] ca.toArray] m [] (Ret (.int .i64 (if l.any p then (l.findIdx p : Nat) else (-1 : Int)))) := by
 apply cx_slices_IndexFunc_string_string a l.length c g [] ca
 unfold VC_slices_IndexFunc_string_string
 refine ⟨fun xs _ _ m'' q => ∃ i : Nat, i ≤ l.length ∧ xs = [.int .i64 i] ∧ (∀ x ∈ l.take i, p x = false) ∧ q = l.length - i, ⟨l.length, 0, by omega, rfl, by simp, by omega⟩, ?_⟩
 rintro n m' q hm ⟨i, hi, hn, hno, hq⟩
 obtain rfl : n = i := by simpa using hn
 refine br_intro (fun hlt => ?_) (fun hge => ?_)
 ·have hlt' : i < l.length := by simpa using hlt
  obtain ⟨x, hx⟩ : ∃ x, l[i]? = some x := ⟨_, List.getElem?_eq_getElem hlt'⟩
  have hmem : x ∈ l := List.mem_of_getElem? hx
  obtain ⟨b1, o1, ha, hx1⟩ := strs_get (hr.mono hm) hx
  refine ⟨b1, o1, ha, ⟨by omega, by omega⟩, _, hx1, call_bool (hp x hmem m' hm) fun m1 hm1 => br_intro (fun hpx => ?_) (fun hpx => ?_)⟩
  ·refine ret_pure (mLt hm hm1) ?_
   have hany : l.any p = true := List.any_eq_true.2 ⟨x, hmem, hpx⟩
   have hfind : l.findIdx p = i := by
    rw [List.findIdx_eq hlt']
    refine ⟨by rw [(List.getElem?_eq_some_iff.1 hx).2]; exact hpx, fun j hj => ?_⟩
    exact hno _ (List.mem_of_getElem? (i := j) (by rw [List.getElem?_take_of_lt hj]; exact List.getElem?_eq_getElem (by omega)))
   simp [Ret, hany, hfind]
  ·refine ⟨l.length - (i + 1), by omega, i + 1, by omega, by rw [wrap64 (by omega) (by omega)]; rfl, ?_, rfl⟩
   intro y hy
   rw [List.take_add_one, hx] at hy
   rcases List.mem_append.1 hy with hy | hy
   ·exact hno y hy
   ·simp at hy; rw [hy]; exact hpx
 ·have hi' : i = l.length := by
   have : ¬ ((i : Int) < (l.length : Int)) := by simpa using hge
   omega
  subst hi'
  refine ret_pure hm ?_
  have hany : l.any p = false := by
   rw [List.any_eq_false]
   rw [List.take_length] at hno
   exact fun x hx => by simp [hno x hx]
  simp [Ret, hany]
theorem cx_ContainsFuncS (l : List ByteArray) (a : Option Addr) (c : Nat) (g : Nat) (ca : List Value) (p : ByteArray → Bool) (m : Mem) (hl : l.length ≤ 1000000000000000) (hr : rowRd m a (strsL l))
  (hp : ∀ x ∈ l, ∀ m', m.le m' → CX Tryz.prog g (.string x :: ca).toArray m' [] (Ret (.bool (p x)))) :
  CX Tryz.prog 95 #[.slice a l.length c, .func (.func g) #[] ca.toArray] m [] (Ret (.bool (l.any p))) := by
 apply cx_slices_ContainsFunc_string_string a l.length c g [] ca
 unfold VC_slices_ContainsFunc_string_string
 refine call_int (cx_IndexFuncS l a c g ca p m hl hr hp) fun m' hm => ret_pure hm ?_
 cases h : l.any p <;> simp [Ret]
end Go.Proofs.YtiadlgdcbpnmkaaGreatDoor
set_option linter.unusedVariables false
set_option linter.unusedSimpArgs false
namespace Go.Proofs.YtiadlgdcbpnmkaaGreatDoor
open Go Go.Eng Go.Rx Go.Proofs Go.RowKit
set_option maxRecDepth 100000
def tabS (l : List UInt8) : List Value := (List.range 256).map fun i => .bool (l.any fun c => c.toNat == i)
theorem tabS_len (l : List UInt8) : (tabS l).length = 256 := by rw [tabS, List.length_map, List.length_range]
theorem tabS_get (l : List UInt8) {i : Nat} (h : i < 256) : (tabS l)[i]? = some (.bool (l.any fun c => c.toNat == i)) := by
 rw [tabS, List.getElem?_map, List.getElem?_range h]; rfl
theorem tabS_ones (l : List UInt8) : onesL (tabS l) = true := by
 have : ∀ L : List Nat, onesL (L.map fun i => Value.bool (l.any fun c => c.toNat == i)) = true := fun L => by
  induction L with
  | nil => rfl
  | cons x L ih => rw [List.map_cons]; simp only [onesL, ih]; rfl
 exact this _
theorem tabS_snoc (l : List UInt8) (c : UInt8) : splice (tabS l) (0 + c.toNat * 1) [.bool true] = tabS (l ++ [c]) := by
 have hc : c.toNat < 256 := c.toNat_lt
 apply List.ext_getElem?
 intro i
 have hl := tabS_len l
 unfold splice
 rw [Nat.zero_add, Nat.mul_one, List.append_assoc]
 rcases Nat.lt_trichotomy i c.toNat with h | h | h
 ·rw [List.getElem?_append_left (by rw [List.length_take]; omega), List.getElem?_take_of_lt h, tabS_get l (by omega), tabS_get _ (by omega), List.any_append]
  have : (c.toNat == i) = false := by simp; omega
  simp [this]
 ·subst h
  have e : (List.take c.toNat (tabS l)).length = c.toNat := by rw [List.length_take]; omega
  rw [List.getElem?_append_right (by omega), e, Nat.sub_self, tabS_get _ hc, List.any_append]
  simp
 ·have e : (List.take c.toNat (tabS l)).length = c.toNat := by rw [List.length_take]; omega
  rw [List.getElem?_append_right (by omega), e, List.getElem?_append_right (by simp; omega), List.getElem?_drop]
  rw [show c.toNat + [Value.bool true].length + (i - c.toNat - [Value.bool true].length) = i by simp; omega]
  rcases Nat.lt_or_ge i 256 with h2 | h2
  ·rw [tabS_get l h2, tabS_get _ h2, List.any_append]
   have : (c.toNat == i) = false := by simp; omega
   simp [this]
  ·rw [List.getElem?_eq_none (by omega), List.getElem?_eq_none (by rw [tabS_len]; exact h2)]
theorem strAt_get {s : ByteArray} {n : Nat} {c : UInt8} (h : s.data.toList[n]? = some c) : strAt s n = (c.toNat : Int) := by
 unfold strAt
 rw [List.getD_eq_getElem?_getD, h]; rfl
theorem at_lt {α : Type} {l : List α} {n : Nat} (h : n < l.length) : ∃ c, l[n]? = some c := ⟨_, List.getElem?_eq_getElem h⟩
theorem cx_ASCII (s : ByteArray) (hs : s.size ≤ 1000000000000000) (h : ∀ c ∈ s.data.toList, c.toNat < 128) (m : Mem) : CX Tryz.prog 103 #[.string s] m [] (Ret (.tuple #[.agg (tabS s.data.toList).toArray, .bool true])) := by
 apply cx_strings_makeASCIISet
 unfold VC_strings_makeASCIISet
 intro b
 have hl := ba_len s
 refine ⟨fun xs css _ m' q => ∃ k : Nat, k ≤ s.size ∧ xs = [.int .i64 k] ∧ css = [tabS (s.data.toList.take k)] ∧ q = s.size - k, ⟨_, 0, by omega, rfl, by rw [List.take_zero]; rfl, rfl⟩, ?_⟩
 rintro n cs m1 q hm1 ⟨k, hk, hx, hcs, hq⟩
 obtain rfl : n = k := by simpa using hx
 obtain rfl : cs = tabS (s.data.toList.take k) := by simpa using hcs
 subst hq
 refine br_intro (fun hlt => ?_) (fun hge => ?_)
 ·have hlt' : k < s.size := by have := of_decide_eq_true hlt; omega
  obtain ⟨c, hc⟩ := at_lt (l := s.data.toList) (n := k) (by omega)
  have h128 := h c (List.mem_of_getElem? hc)
  have hw : IntKind.i64.wrap ((k : Int) + 1) = ((k + 1 : Nat) : Int) := by rw [wrap64 (by omega) (by omega)]; rfl
  simp only [hw, Int.toNat_natCast, strAt_get hc]
  refine ⟨⟨by omega, by omega⟩, br_intro (fun h => absurd (of_decide_eq_true h) (by omega)) (fun _ => ⟨⟨by omega, by omega⟩, chk_intro (by rw [Nat.ble_eq, tabS_len]; omega) ⟨by trivial, s.size - (k + 1), by omega, k + 1, by omega, rfl, ?_, rfl⟩⟩)⟩
  rw [tabS_snoc, List.take_add_one, hc]; rfl
 ·have hk' : k = s.size := by have := of_decide_eq_false hge; omega
  subst hk'
  rw [← hl, List.take_length]
  exact chk_intro (by rw [tabS_len, tabS_ones]; rfl) (ret_pure hm1 rfl)
def LeftS (p : UInt8 → Bool) (s : ByteArray) : Value → Mem → List (List Value) → Prop := fun v _ _ => ∃ z : ByteArray, v = .string z ∧ z.size ≤ s.size ∧ s.data.toList.all p = z.data.toList.all p ∧ (z.size = 0 ∨ z.data.toList.all p = false)
theorem cx_contains (l : List UInt8) (c : UInt8) (b : Nat) (m : Mem) (hb : m.reads b 0 (tabS l)) : CX Tryz.prog 116 #[.pointer (some ⟨b, 0, none⟩), .int .u8 c.toNat] m [] (Ret (.bool (l.any fun x => x.toNat == c.toNat))) := by
 apply cx_strings_asciiSet_contains
 unfold VC_strings_asciiSet_contains
 have hc : c.toNat < 256 := c.toNat_lt
 refine ⟨⟨by omega, by omega⟩, _, ?_, ret_pure (Mem.le_refl m) rfl⟩
 rw [Int.toNat_natCast, Nat.mul_one, Nat.add_comm]
 have := hb c.toNat _ (tabS_get l hc)
 rw [Nat.zero_add] at this; exact this
theorem ex_left (z : ByteArray) {c : UInt8} {r : List UInt8} (h : z.data.toList = c :: r) : (z.extract 1 z.size).data.toList = r := by
 rw [ByteArray.data_extract, Array.toList_extract, h]
 have : z.size = r.length + 1 := by rw [← ba_len, h]; rfl
 simp [this]
theorem ex_right (z : ByteArray) {c : UInt8} {r : List UInt8} (h : z.data.toList = r ++ [c]) : (z.extract 0 (z.size - 1)).data.toList = r := by
 rw [ByteArray.data_extract, Array.toList_extract, h]
 have : z.size = r.length + 1 := by rw [← ba_len, h]; simp
 simp [this]
theorem cx_trimL (l : List UInt8) (s : ByteArray) (hs : s.size ≤ 1000000000000000) (b : Nat) (m : Mem) (hb : m.reads b 0 (tabS l)) : CX Tryz.prog 104 #[.string s, .pointer (some ⟨b, 0, none⟩)] m [] (LeftS (fun c => l.any fun x => x.toNat == c.toNat) s) := by
 apply cx_strings_trimLeftASCII
 unfold VC_strings_trimLeftASCII
 refine ⟨fun xs _ _ m' q => ∃ z : ByteArray, xs = [.string z] ∧ z.size ≤ s.size ∧ s.data.toList.all (fun c => l.any fun x => x.toNat == c.toNat) = z.data.toList.all (fun c => l.any fun x => x.toNat == c.toNat) ∧ q = z.size, ⟨_, s, rfl, Nat.le_refl _, rfl, rfl⟩, ?_⟩
 rintro z m1 q hm1 ⟨z', hx, hsz, hall, hq⟩
 obtain rfl : z = z' := by simpa using hx
 subst hq
 have hl := ba_len z
 refine br_intro (fun hlt => ?_) (fun hge => ?_)
 ·have h0 : 0 < z.size := by have := of_decide_eq_true hlt; omega
  cases hz : z.data.toList with
  | nil => rw [hz] at hl; simp at hl; omega
  | cons c r =>
   have he := ex_left z hz
   have hr : (z.extract 1 z.size).size = z.size - 1 := by rw [← ba_len, he, ← hl, hz]; simp
   have hc : strAt z (Int.toNat 0) = (c.toNat : Int) := strAt_get (by rw [hz]; rfl)
   rw [hc]
   refine ⟨⟨by omega, by omega⟩, call_bool (cx_contains l c b m1 (hb.mono hm1)) fun m2 hm2 => br_intro (fun h => ?_) (fun h => ?_)⟩
   ·refine ret_pure (mLt hm1 hm2) ⟨z, rfl, hsz, hall, .inr ?_⟩
    have h' : (l.any fun x => x.toNat == c.toNat) = false := by simpa using h
    rw [hz, List.all_cons, h']; rfl
   ·have h' : (l.any fun x => x.toNat == c.toNat) = true := by simpa using h
    refine ⟨⟨by omega, by omega⟩, z.size - 1, by omega, _, rfl, ?_, ?_, ?_⟩
    ·show (z.extract 1 z.size).size ≤ _
     omega
    ·rw [hall, hz, List.all_cons, h', Bool.true_and]
     show _ = (z.extract 1 z.size).data.toList.all _
     rw [he]
    ·show _ = (z.extract 1 z.size).size
     omega
 ·have h0 : z.size = 0 := by have := of_decide_eq_false hge; omega
  exact ret_pure hm1 ⟨z, rfl, hsz, hall, .inl h0⟩
theorem cx_trimR (l : List UInt8) (s : ByteArray) (hs : s.size ≤ 1000000000000000) (b : Nat) (m : Mem) (hb : m.reads b 0 (tabS l)) : CX Tryz.prog 105 #[.string s, .pointer (some ⟨b, 0, none⟩)] m [] (LeftS (fun c => l.any fun x => x.toNat == c.toNat) s) := by
 apply cx_strings_trimRightASCII
 unfold VC_strings_trimRightASCII
 refine ⟨fun xs _ _ m' q => ∃ z : ByteArray, xs = [.string z] ∧ z.size ≤ s.size ∧ s.data.toList.all (fun c => l.any fun x => x.toNat == c.toNat) = z.data.toList.all (fun c => l.any fun x => x.toNat == c.toNat) ∧ q = z.size, ⟨_, s, rfl, Nat.le_refl _, rfl, rfl⟩, ?_⟩
 rintro z m1 q hm1 ⟨z', hx, hsz, hall, hq⟩
 obtain rfl : z = z' := by simpa using hx
 subst hq
 have hl := ba_len z
 refine br_intro (fun hlt => ?_) (fun hge => ?_)
 ·have h0 : 0 < z.size := by have := of_decide_eq_true hlt; omega
  have hw : IntKind.i64.wrap ((z.size : Int) - 1) = ((z.size - 1 : Nat) : Int) := by rw [wrap64 (by omega) (by omega)]; omega
  obtain ⟨r, c, hz⟩ : ∃ r c, z.data.toList = r ++ [c] := by
   rcases List.eq_nil_or_concat z.data.toList with h | ⟨r, c, h⟩
   ·rw [h] at hl; simp at hl; omega
   ·exact ⟨r, c, by simpa using h⟩
  have he := ex_right z hz
  have hr : (z.extract 0 (z.size - 1)).size = z.size - 1 := by rw [← ba_len, he, ← hl, hz]; simp
  have hc : strAt z (z.size - 1) = (c.toNat : Int) := strAt_get (by rw [hz, List.getElem?_append_right (by rw [← hl, hz]; simp), ← hl, hz]; simp)
  simp only [hw, Int.toNat_natCast, hc]
  refine ⟨⟨by omega, by omega⟩, call_bool (cx_contains l c b m1 (hb.mono hm1)) fun m2 hm2 => br_intro (fun h => ?_) (fun h => ?_)⟩
  ·refine ret_pure (mLt hm1 hm2) ⟨z, rfl, hsz, hall, .inr ?_⟩
   have h' : (l.any fun x => x.toNat == c.toNat) = false := by simpa using h
   rw [hz, List.all_append, List.all_cons, h']; simp
  ·have h' : (l.any fun x => x.toNat == c.toNat) = true := by simpa using h
   refine ⟨⟨by omega, by omega⟩, z.size - 1, by omega, _, rfl, by omega, ?_, by omega⟩
   rw [hall, hz, List.all_append, List.all_cons, h', he]; simp
 ·have h0 : z.size = 0 := by have := of_decide_eq_false hge; omega
  exact ret_pure hm1 ⟨z, rfl, hsz, hall, .inl h0⟩
def letters37 : ByteArray := ⟨#[97, 98, 99, 100, 101, 102, 103, 104, 105, 106, 107, 108, 109, 110, 111, 112, 113, 114, 115, 116, 117, 118, 119, 120, 121, 122, 48, 49, 50, 51, 52, 53, 54, 55, 56, 57, 95]⟩
theorem nameC_iff (c : UInt8) : (letters37.data.toList.any fun x => x.toNat == c.toNat) = nameC c := by
 have : ∀ n : Nat, n < 256 → (letters37.data.toList.any fun x => x.toNat == n) = ((decide (97 ≤ n) && decide (n ≤ 122)) || (decide (48 ≤ n) && decide (n ≤ 57)) || n == 95) := by decide +kernel
 exact this c.toNat c.toNat_lt
def TrimV (s : ByteArray) : Value → Mem → List (List Value) → Prop := fun v _ _ => ∃ z : ByteArray, v = .string z ∧ (z.size == 0) = s.data.toList.all nameC
theorem cx_Trim (s : ByteArray) (hs : s.size ≤ 1000000000000000) (m : Mem) : CX Tryz.prog 82 #[.string s, .string letters37] m [] (TrimV s) := by
 apply cx_strings_Trim
 unfold VC_strings_Trim
 have e0 : (letters37.toList == ByteArray.toList ⟨#[]⟩) = false := by rw [ba_nil]; rfl
 refine ⟨s.size == 0, br_intro (fun h => by rw [ba_nil] at h; rw [h]) (fun h => by rw [ba_nil] at h; rw [h, e0]), ?_⟩
 refine br_intro (fun h => ?_) (fun h => ?_)
 ·refine ret_pure (Mem.le_refl m) ⟨s, rfl, ?_⟩
  rw [h]
  have : s.data.toList = [] := List.eq_nil_of_length_eq_zero (by rw [ba_len]; simpa using h)
  rw [this]; rfl
 refine ⟨false, br_f (by decide) rfl, br_f rfl ?_⟩
 refine call_any (cx_ASCII letters37 (by decide) (by decide) m) (fun v _ _ e => by rw [show v = _ from e]; rfl) ?_
 intro cs b m1 hm1 hv
 have hv : Value.tuple (Array.mk [Value.agg (Array.mk cs), Value.bool b]) = Value.tuple #[.agg (tabS letters37.data.toList).toArray, .bool true] := hv
 simp only [Value.tuple.injEq, Value.agg.injEq, Array.mk.injEq, List.cons.injEq, Value.bool.injEq, and_true] at hv
 obtain ⟨rfl, rfl⟩ := hv
 intro b1
 refine chk_intro (by rw [tabS_len, tabS_ones]; rfl) (br_t rfl fun m2 hm2 hrd => ?_)
 refine call_any (cx_trimR letters37.data.toList s hs b1 m2 hrd) (fun v _ _ ⟨_, e, _⟩ => by rw [e]; rfl) ?_
 rintro z m3 hm3 ⟨z1, hz, hz1, hz2, hz3⟩
 obtain rfl : z = z1 := by simpa using hz
 refine call_any (cx_trimL letters37.data.toList z (by omega) b1 m3 (hrd.mono hm3)) (fun v _ _ ⟨_, e, _⟩ => by rw [e]; rfl) ?_
 rintro y m4 hm4 ⟨y1, hy, hy1, hy2, hy3⟩
 obtain rfl : y = y1 := by simpa using hy
 refine ret_pure (mLt hm1 (mLt hm2 (mLt hm3 hm4))) ⟨y, rfl, ?_⟩
 have hp : (fun c : UInt8 => letters37.data.toList.any fun x => x.toNat == c.toNat) = nameC := funext nameC_iff
 rw [hp] at hz2 hy2 hy3
 rw [hz2, hy2]
 rcases hy3 with h0 | h0
 ·have : y.data.toList = [] := List.eq_nil_of_length_eq_zero (by rw [ba_len]; exact h0)
  rw [this, h0]; rfl
 ·rw [h0]
  have : ¬ y.size = 0 := fun e => by
   have : y.data.toList = [] := List.eq_nil_of_length_eq_zero (by rw [ba_len]; exact e)
   rw [this] at h0; simp at h0
  simpa using this
theorem cx_IsName (s : ByteArray) (hs : s.size ≤ 1000000000000000) (m : Mem) : CX Tryz.prog 50 #[.string s] m [] (Ret (.bool (isName s))) := by
 apply cx_expr_IsName
 unfold VC_expr_IsName
 refine br_intro (fun h => ret_pure (Mem.le_refl m) ?_) (fun h => ?_)
 ·rw [ba_nil] at h; simp [Ret, isName, h]
 rw [ba_nil] at h
 have hpos : 0 < s.size := by have : ¬ s.size = 0 := by simpa using h
                              omega
 obtain ⟨c, hc⟩ := at_lt (l := s.data.toList) (n := 0) (by rw [ba_len]; exact hpos)
 have hD : s.data.toList.getD 0 0 = c := by rw [List.getD_eq_getElem?_getD, hc]; rfl
 rw [show Int.toNat 0 = 0 from rfl, strAt_get hc]
 refine br_intro (fun h1 => ret_pure (Mem.le_refl m) ?_) (fun h1 => ⟨⟨by omega, by omega⟩, br_intro (fun h2 => ret_pure (Mem.le_refl m) ?_) (fun h2 => ⟨⟨by omega, by omega⟩, br_intro (fun h3 => ret_pure (Mem.le_refl m) ?_) (fun h3 b hf => ?_)⟩)⟩)
 ·have : s.size > 16 := by have := of_decide_eq_true h1; omega
  show Value.bool false = _
  unfold isName; rw [h, decide_eq_true this]; rfl
 ·have : c.toNat < 97 := by have := of_decide_eq_true h2; omega
  show Value.bool false = _
  unfold isName; rw [hD, decide_eq_true this]; simp
 ·have : c.toNat > 122 := by have := of_decide_eq_true h3; omega
  show Value.bool false = _
  unfold isName; rw [hD, decide_eq_true this]; simp
 have g1 : ¬ s.size > 16 := by have := of_decide_eq_false h1; omega
 have g2 : ¬ c.toNat < 97 := by have := of_decide_eq_false h2; omega
 have g3 : ¬ c.toNat > 122 := by have := of_decide_eq_false h3; omega
 have hN : isName s = (!(words3.any fun w => eqS w s) && s.data.toList.all nameC) := by
  unfold isName; rw [h, decide_eq_false g1, hD, decide_eq_false g2, decide_eq_false g3]; rfl
 have hE : (words3.any fun y => eqS s y) = words3.any fun w => eqS w s := by
  congr 1; funext w; unfold eqS; exact Bool.beq_comm
 have hle := Mem.le_add hf (strsL words3)
 refine call_bool (cx_ContainsS words3 (some ⟨b, 0, none⟩) 3 s (m.add b (strsL words3)) (by decide) (.inr ⟨b, 0, rfl, fun j v hj => by rw [Nat.zero_add, Mem.add_same]; exact hj⟩)) fun m1 hm1 => br_intro (fun h4 => ret_pure (mLt hle hm1) ?_) (fun h4 => ?_)
 ·rw [hE] at h4
  show Value.bool false = _
  rw [hN, h4]; rfl
 rw [hE] at h4
 refine call_any (cx_Trim s hs m1) (fun v _ _ ⟨_, e, _⟩ => by rw [e]; rfl) ?_
 rintro z m2 hm2 ⟨z', hz, hz2⟩
 obtain rfl : z = z' := by simpa using hz
 refine ret_pure (mLt hle (mLt hm1 hm2)) ?_
 show Value.bool _ = _
 rw [ba_nil, hN, h4, hz2]; rfl
end Go.Proofs.YtiadlgdcbpnmkaaGreatDoor
set_option linter.unusedVariables false
set_option linter.unusedSimpArgs false
namespace Go.Proofs.YtiadlgdcbpnmkaaGreatDoor
open Go Go.Eng Go.Rx Go.Proofs Go.RowKit
set_option maxRecDepth 100000
theorem cx_subs (k : Int) (m : Mem) : CX Tryz.prog 112 #[.int .u8 k] m [] (Ret (.int .i64 (subsN k))) := by
 apply cx_expr_subs
 unfold VC_expr_subs
 refine br_intro (fun h => ret_pure (Mem.le_refl m) ?_) (fun h => ⟨decide (k ≥ 2) && decide (k ≤ 7), br_intro (fun h2 => by rw [h2]; rfl) (fun h2 => by rw [h2]; rfl), br_intro (fun h2 => ret_pure (Mem.le_refl m) ?_) (fun h2 => ret_pure (Mem.le_refl m) ?_)⟩)
 all_goals
  show Value.int _ _ = Value.int _ _
  congr 1
  unfold subsN
 ·have : k = 1 := by simpa using h
  rw [if_pos this]
 ·have h1 : ¬ k = 1 := by simpa using h
  simp only [Bool.and_eq_true, decide_eq_true_eq] at h2
  rw [if_neg h1, if_pos (by omega)]
 ·have h1 : ¬ k = 1 := by simpa using h
  simp only [Bool.and_eq_false_iff, decide_eq_false_iff_not] at h2
  rw [if_neg h1, if_neg (by omega)]
theorem cx_eright (t : E) (m : Mem) (hr : RepE m t) : CX Tryz.prog 92 #[t.v] m [] (Ret (.bool t.right)) := by
 have hok := RepE_ok hr
 have hiff := RepE_iff hr
 apply cx_expr_right
 unfold VC_expr_right
 intro b m1 hm1 _
 have tail : ∀ (M0 : Mem) (name number capture neg : Bool), t.right = (decide (t.k ≤ 10) && (name && (number && (capture && ((t.subs.length : Int) == subsN t.k && !neg))))) → m.le M0 →
   ∃ f : Fx, br (decide (t.k ≤ 10)) (br name (br number (br capture (∃ R_3 : RT, R_3 = f 18 [.int .u8 t.k] M0 ∧ CX Tryz.prog 112 #[.int .u8 t.k] M0 [] R_3 ∧ Fits (.int .i64) R_3 ∧ ∀ (n : Int) (m' : Mem), M0.le m' → R_3 (.int .i64 n) m' [] → br ((t.subs.length : Int) == n) (∀ M : Mem, M0.le M → m'.le M → ∃ m'' : Mem, m.le m'' ∧ m''.le M ∧ Ret (.bool t.right) (.bool !neg) m'' []) (∀ M : Mem, M0.le M → m'.le M → ∃ m'' : Mem, m.le m'' ∧ m''.le M ∧ Ret (.bool t.right) (.bool false) m'' []))
    (∀ M : Mem, M0.le M → M0.le M → ∃ m'' : Mem, m.le m'' ∧ m''.le M ∧ Ret (.bool t.right) (.bool false) m'' [])) (∀ M : Mem, M0.le M → M0.le M → ∃ m'' : Mem, m.le m'' ∧ m''.le M ∧ Ret (.bool t.right) (.bool false) m'' [])) (∀ M : Mem, M0.le M → M0.le M → ∃ m'' : Mem, m.le m'' ∧ m''.le M ∧ Ret (.bool t.right) (.bool false) m'' []))
    (∀ M : Mem, M0.le M → M0.le M → ∃ m'' : Mem, m.le m'' ∧ m''.le M ∧ Ret (.bool t.right) (.bool false) m'' []) := fun M0 name number capture neg he hM0 => by
  have fin : ∀ {x : Bool} {M : Mem}, t.right = x → M0.le M → ∃ m'' : Mem, m.le m'' ∧ m''.le M ∧ Ret (.bool t.right) (.bool x) m'' [] := fun {x M} h hM => ret_pure (mLt hM0 hM) (by show Value.bool x = Value.bool t.right; rw [h])
  refine ⟨fun _ _ _ => Ret (.int .i64 (subsN t.k)), br_intro (fun h1 => br_intro (fun h2 => br_intro (fun h3 => br_intro (fun h4 => ⟨_, rfl, cx_subs t.k M0, fun v _ _ e => by rw [show v = _ from e]; rfl, fun n m' hm' hn => ?_⟩) (fun h4 M hM _ => fin ?_ hM)) (fun h3 M hM _ => fin ?_ hM)) (fun h2 M hM _ => fin ?_ hM)) (fun h1 M hM _ => fin ?_ hM)⟩
  ·obtain rfl : n = subsN t.k := by cases hn; rfl
   refine br_intro (fun h5 M hM _ => fin ?_ hM) (fun h5 M hM _ => fin ?_ hM)
   ·rw [he, h1, h2, h3, h4, h5]; rfl
   ·rw [he, h5]; simp
  ·simp [he, h4]
  ·simp [he, h3]
  ·simp [he, h2]
  ·rw [he, h1]; simp
 refine ⟨fun _ _ _ => Ret (.bool (sameF t.x 0)), _, rfl, cx_fSame t.x 0 m1, fun v _ _ e => by rw [show v = _ from e]; rfl, fun b1 m2 hm2 hb1 M hM1 hM2 => ?_⟩
 obtain rfl : b1 = sameF t.x 0 := by cases hb1; rfl
 have hM := mLt hm1 hM1
 refine br_intro (fun h8 => ?_) (fun h8 => br_intro (fun h9 => ?_) (fun h9 => br_intro (fun h10 => ?_) (fun h10 => br_intro (fun h0 => ?_) (fun h0 => ?_))))
 ·have hk : t.k = 8 := by simpa using h8
  refine call_bool (cx_fClean t.x M) fun m3 hm3 => ⟨false, br_f (by rw [hk]; rfl) ⟨by trivial, rfl⟩, tail m3 _ _ _ _ ?_ (mLt hM hm3)⟩
  unfold E.right; rw [ba_nil]; simp [hk]
 ·have hk : t.k = 9 := by simpa using h9
  refine call_bool (cx_IsName t.s hok.s M) fun m3 hm3 => ⟨false, br_f (by rw [hk]; rfl) ⟨by trivial, rfl⟩, tail m3 _ _ _ _ ?_ (mLt hM hm3)⟩
  unfold E.right; simp [hk]
 ·have hk : t.k = 10 := by simpa using h10
  refine ⟨decide (t.g ≥ 0) && decide (t.g ≤ 9), br_intro (fun h => ⟨by trivial, by rw [h]; rfl⟩) (fun h => ⟨by trivial, by rw [h]; rfl⟩), false, br_f (by rw [hk]; rfl) ⟨by trivial, rfl⟩, tail M _ _ _ _ ?_ hM⟩
  unfold E.right; rw [ba_nil]; simp [hk]
 ·refine ret_pure hM ?_
  show Value.bool false = Value.bool t.right
  unfold E.right; rw [h0]; rfl
 ·have e8 : ¬ t.k = 8 := by simpa using h8
  have e9 : ¬ t.k = 9 := by simpa using h9
  have e10 : ¬ t.k = 10 := by simpa using h10
  refine ⟨t.k == 1 && (t.subs.length == 1 && headK8 t.subs), ?_, tail M _ _ _ _ ?_ hM⟩
  ·refine br_intro (fun h1 => br_intro (fun h2 => ?_) (fun h2 => ⟨by trivial, ?_⟩)) (fun h1 => ⟨by trivial, by rw [h1]; rfl⟩)
   ·have hlen : t.subs.length = 1 := by
     have := of_decide_eq_true (show decide ((t.subs.length : Int) = 1) = true from h2)
     omega
    cases hs : t.subs with
    | nil => rw [hs] at hlen; simp at hlen
    | cons u r =>
     rcases hiff.2 with h | ⟨bb, o, ha, hat⟩
     ·rw [h] at hlen; simp at hlen
     ·rw [hs] at hat
      have h3 := ((hat.mono' hM).get (i := 0) (t := u) rfl).1 0 _ rfl
      rw [Nat.zero_mul] at h3
      refine ⟨bb, o, ha, ⟨by omega, by simp⟩, _, h3, chk_intro rfl ⟨by trivial, ?_⟩⟩
      rw [h1]
      have : (u :: r).length = 1 := by rw [← hs]; exact hlen
      rw [this]; rfl
   ·have : (t.subs.length == 1) = false := by
     have h := of_decide_eq_false (show decide ((t.subs.length : Int) = 1) = false from h2)
     exact decide_eq_false (by omega)
    rw [this]; simp
  ·unfold E.right; rw [ba_nil, h0]; simp [e8, e9, e10]
end Go.Proofs.YtiadlgdcbpnmkaaGreatDoor
set_option linter.unusedVariables false
set_option linter.unusedSimpArgs false
namespace Go.Proofs.YtiadlgdcbpnmkaaGreatDoor
open Go Go.Eng Go.Rx Go.Proofs Go.RowKit
set_option maxRecDepth 100000
theorem cx_eClean (t : E) (m : Mem) (hr : RepE m t) : CX Tryz.prog 67 #[t.v] m [] (Ret (.bool t.clean)) := by
 apply cx_expr_Clean
 unfold VC_expr_Clean
 intro b m1 hm1 _ b2
 refine call_bool (cx_eLight t m1 (RepE.mono' hr hm1)) fun m2 hm2 => br_intro (fun h => ret_pure (mLt hm1 hm2) ?_) (fun h => ?_)
 ·have : t.light = false := by simpa using h
  simp [Ret, E.clean, this]
 have hl : t.light = true := by simpa using h
 refine call_any (cx_enodes t m2) (fun v m' css h => by obtain ⟨_, rfl, _⟩ := h; rfl) ?_
 rintro g fi ca m3 hm3 ⟨b3, hv, hb3⟩
 obtain ⟨rfl, rfl, rfl⟩ := func_inj hv
 have hle := mLt hm1 (mLt hm2 hm3)
 refine ⟨_, ix_enodes1 t m3 b3 hb3 (RepE.mono' hr hle), fun y hy => ?_, fun _ css _ m' q => m3.le m' ∧ ∀ x ∈ t.nodes.take q, x.right = true, ⟨Mem.le_refl _, by simp⟩, ?_, ?_⟩
 ·obtain ⟨z, _, rfl⟩ := List.mem_map.1 hy; exact fitsE_v z
 ·rintro n0 v0 s0 n3 a n7 c cs m4 q hm4 hq ⟨_, hq1⟩ b4
  have hq' : (List.map (fun z : E => [z.v]) t.nodes)[(q : Nat)]? = some [Value.agg #[.int .u8 n0, v0, .string s0, .int .i64 n3, .slice a n7 c]] := hq
  rw [List.getElem?_map] at hq'
  obtain ⟨z, hz, hzv⟩ := Option.map_eq_some_iff.1 hq'
  have hzv' : z.v = Value.agg #[.int .u8 n0, v0, .string s0, .int .i64 n3, .slice a n7 c] := by simpa using hzv
  have hzr : RepE m4 z := RepE.mono' (repE_nodes (RepE.mono' hr hle) (List.mem_of_getElem? hz)) hm4
  have hcx := cx_eright z m4 hzr
  rw [hzv'] at hcx
  have hv0 : v0 = .float .f64 z.x := by
   simp only [E.v, Value.agg.injEq, Array.mk.injEq, List.cons.injEq] at hzv'
   exact hzv'.2.1.symm
  refine chk_intro (by rw [hv0]; rfl) ?_
  refine call_bool hcx fun m5 hm5 => br_intro (fun h => ⟨by trivial, ret_pure (mLt hle (mLt hm4 hm5)) ?_⟩) (fun h => ⟨by trivial, mLt hm4 hm5, fun x hx => ?_⟩)
  ·have hz0 : z.right = false := by simpa using h
   have : t.nodes.all E.right = false := by
    rw [List.all_eq_false]; exact ⟨z, List.mem_of_getElem? hz, by simp [hz0]⟩
   simp [Ret, E.clean, this]
  ·rw [List.take_add_one, hz] at hx
   rcases List.mem_append.1 hx with hx | hx
   ·exact hq1 x hx
   ·simp at hx; rw [hx]; simpa using h
 ·rintro cs m4 hm4 ⟨_, hq1⟩
  refine ret_pure (mLt hle hm4) ?_
  rw [List.length_map, List.take_length] at hq1
  have : t.nodes.all E.right = true := List.all_eq_true.2 hq1
  simp [Ret, E.clean, this, hl]
theorem cx_eEqualFunc (l l' : List E) (a a' : Option Addr) (c c' : Nat) (m : Mem) (hl : l.length ≤ 1000000000000000) (hr : l = [] ∨ ∃ b o, a = some ⟨b, o, none⟩ ∧ RepEAt m b o l) (hr' : l' = [] ∨ ∃ b o, a' = some ⟨b, o, none⟩ ∧ RepEAt m b o l')
  (hp : ∀ x ∈ l, ∀ y ∈ l', ∀ m', m.le m' → RepE m' x → RepE m' y → CX Tryz.prog 113 #[x.v, y.v] m' [] (Ret (.bool (x.same y)))) :
  CX Tryz.prog 124 #[.slice a l.length c, .slice a' l'.length c', .func (.func 113) #[] #[]] m [] (Ret (.bool (sameEL l l'))) := by
 apply cx_slices_EqualFunc_expr_Node_expr_Node_expr_Node_expr_Node a l.length c a' l'.length c' _ [] []
 unfold VC_slices_EqualFunc_expr_Node_expr_Node_expr_Node_expr_Node
 refine br_intro (fun h => ret_pure (Mem.le_refl _) ?_) (fun h => ?_)
 ·have : ¬ l.length = l'.length := by
   intro e; rw [e] at h; simp at h
  show Value.bool false = _
  rw [sameEL_len this]
 have hll : l.length = l'.length := by
  have h2 : ((l.length : Int) == (l'.length : Int)) = true := by simpa using h
  have := of_decide_eq_true h2; omega
 refine ⟨fun xs _ _ m'' q => ∃ i : Nat, i ≤ l.length ∧ xs = [.int .i64 i] ∧ sameEL (l.take i) (l'.take i) = true ∧ m.le m'' ∧ q = l.length - i, ⟨l.length, 0, by omega, rfl, by simp [sameEL], Mem.le_refl _, by omega⟩, ?_⟩
 rintro n m' q hm ⟨i, hi, hn, hsame, hle, hq⟩
 obtain rfl : n = i := by simpa using hn
 refine br_intro (fun hlt => ?_) (fun hge => ?_)
 ·have hlt' : i < l.length := by simpa using hlt
  obtain ⟨x, hx⟩ : ∃ x, l[i]? = some x := ⟨_, List.getElem?_eq_getElem hlt'⟩
  obtain ⟨y, hy⟩ : ∃ y, l'[i]? = some y := ⟨_, List.getElem?_eq_getElem (by omega)⟩
  have hmx : x ∈ l := List.mem_of_getElem? hx
  have hmy : y ∈ l' := List.mem_of_getElem? hy
  rcases hr with h0 | ⟨b1, o1, ha, hat⟩
  ·rw [h0] at hlt'; simp at hlt'
  rcases hr' with h0 | ⟨b2, o2, ha', hat'⟩
  ·rw [h0] at hll; simp at hll; rw [hll] at hlt'; simp at hlt'
  obtain ⟨hxr, hxrep⟩ := (hat.mono' hm).get hx
  obtain ⟨hyr, hyrep⟩ := (hat'.mono' hm).get hy
  refine ⟨b1, o1, ha, ⟨by omega, by omega⟩, _, _, _, _, _, hxr, fun b3 => chk_intro rfl ⟨b2, o2, ha', ⟨by omega, by omega⟩, _, _, _, _, _, hyr, fun b4 => chk_intro rfl ?_⟩⟩
  refine call_bool (hp x hmx y hmy m' hm hxrep hyrep) fun m1 hm1 => br_intro (fun hpx => ?_) (fun hpx => ?_)
  ·have hf : x.same y = false := by simpa using hpx
   refine ret_pure (mLt hm hm1) ?_
   show Value.bool false = _
   rw [sameEL_at hx hy hf]
  ·have hf : x.same y = true := by simpa using hpx
   refine ⟨l.length - (i + 1), by omega, i + 1, by omega, by rw [wrap64 (by omega) (by omega)]; rfl, sameEL_take hx hy hsame hf, mLt hm hm1, rfl⟩
 ·have hi' : i = l.length := by
   have : ¬ ((i : Int) < (l.length : Int)) := by simpa using hge
   omega
  subst hi'
  refine ret_pure hm ?_
  rw [List.take_length, hll, List.take_length] at hsame
  show Value.bool true = _
  rw [hsame]
theorem cx_esame (t u : E) (m : Mem) (hr : RepE m t) (hu : RepE m u) : CX Tryz.prog 113 #[t.v, u.v] m [] (Ret (.bool (t.same u))) := by
 apply cx_expr_same
 unfold VC_expr_same
 intro b m1 hm1 _ b' m2 hm2 _
 have hm := mLt hm1 hm2
 refine ⟨t.same u, ?_, ret_pure hm rfl⟩
 rw [sameE_eq]
 refine br_intro (fun h1 => ?_) (fun h1 => ⟨by trivial, one_bool (by rw [h1]; rfl)⟩)
 refine call_bool (cx_fSame t.x u.x m2) fun m3 hm3 => br_intro (fun h2 => br_intro (fun h3 => br_intro (fun h4 => ?_) (fun h4 => ⟨by trivial, one_bool (by rw [h1, h2, h3, h4]; rfl)⟩)) (fun h3 => ⟨by trivial, one_bool (by rw [h1, h2, h3]; rfl)⟩)) (fun h2 => ⟨by trivial, one_bool (by rw [h1, h2]; rfl)⟩)
 have hM := mLt hm hm3
 have hr' := RepE_iff (RepE.mono' hr hM)
 have hu' := RepE_iff (RepE.mono' hu hM)
 refine call_bool (cx_eEqualFunc t.subs u.subs t.a u.a t.c u.c m3 hr'.1 hr'.2 hu'.2 fun x hx y hy m' _ hxr hyr => ?_) fun m4 hm4 => ⟨by trivial, one_bool (by rw [h1, h2, h3, h4]; rfl)⟩
 have hsz := subE_lt hx
 exact cx_esame x y m' hxr hyr
termination_by SizeOf.sizeOf t
decreasing_by exact hsz
theorem cx_eSame (t u : E) (m : Mem) (hr : RepE m t) (hu : RepE m u) : CX Tryz.prog 93 #[t.v, u.v] m [] (Ret (.bool (t.light && (u.light && t.same u)))) := by
 apply cx_expr_Same
 unfold VC_expr_Same
 intro b m1 hm1 _ b' m2 hm2 _
 have hm := mLt hm1 hm2
 refine ⟨t.light && (u.light && t.same u), ?_, ret_pure hm rfl⟩
 refine call_bool (cx_eLight t m2 (RepE.mono' hr hm)) fun m3 hm3 => br_intro (fun h1 => ?_) (fun h1 => ⟨by trivial, one_bool (by rw [h1]; rfl)⟩)
 refine call_bool (cx_eLight u m3 (RepE.mono' hu (mLt hm hm3))) fun m4 hm4 => br_intro (fun h2 => ?_) (fun h2 => ⟨by trivial, one_bool (by rw [h1, h2]; rfl)⟩)
 have hm5 := mLt (mLt hm hm3) hm4
 exact call_bool (cx_esame t u m4 (RepE.mono' hr hm5) (RepE.mono' hu hm5)) fun m6 hm6 => ⟨by trivial, one_bool (by rw [h1, h2]; rfl)⟩
def mostF (l : List E) : Int := l.foldl (fun n x => if x.k = 10 then (if x.g > n then x.g else n) else n) (-1)
theorem cx_eMost (t : E) (m : Mem) (hr : RepE m t) : CX Tryz.prog 73 #[t.v] m [] (Ret (.int .i64 t.most)) := by
 apply cx_expr_Most
 unfold VC_expr_Most
 intro b m1 hm1 _ b2
 refine call_bool (cx_eLight t m1 (RepE.mono' hr hm1)) fun m2 hm2 => br_intro (fun hl => ?_) (fun h => ret_pure (mLt hm1 hm2) (by simp [Ret, E.most, h]))
 refine call_any (cx_enodes t m2) (fun v m' css h => by obtain ⟨_, rfl, _⟩ := h; rfl) ?_
 rintro g fi ca m3 hm3 ⟨b3, hv, hb3⟩
 obtain ⟨rfl, rfl, rfl⟩ := func_inj hv
 have hle := mLt hm1 (mLt hm2 hm3)
 refine ⟨_, ix_enodes1 t m3 b3 hb3 (RepE.mono' hr hle), fun y hy => ?_, fun _ css _ m' q => css = [[.int .i64 (mostF (t.nodes.take q))]], rfl, ?_, ?_⟩
 ·obtain ⟨z, _, rfl⟩ := List.mem_map.1 hy; exact fitsE_v z
 ·rintro n0 v0 s0 n3 a n7 c cs m4 q hm4 hq hcs b4
  obtain rfl : cs = [.int .i64 (mostF (t.nodes.take q))] := by simpa using hcs
  have hq' : (List.map (fun z : E => [z.v]) t.nodes)[(q : Nat)]? = some [Value.agg #[.int .u8 n0, v0, .string s0, .int .i64 n3, .slice a n7 c]] := hq
  rw [List.getElem?_map] at hq'
  obtain ⟨z, hz, hzv⟩ := Option.map_eq_some_iff.1 hq'
  simp only [E.v, List.cons.injEq, Value.agg.injEq, Array.mk.injEq, Value.int.injEq, Value.string.injEq, Value.slice.injEq, true_and, and_true] at hzv
  obtain ⟨rfl, rfl, rfl, rfl, rfl, rfl, rfl⟩ := hzv
  have hs : mostF (t.nodes.take (q + 1)) = if z.k = 10 then (if z.g > mostF (t.nodes.take q) then z.g else mostF (t.nodes.take q)) else mostF (t.nodes.take q) := by
   rw [List.take_add_one, hz]
   unfold mostF
   rw [List.foldl_append]; rfl
  refine chk_intro rfl (br_intro (fun h => look_intro rfl (chk_intro rfl ⟨by trivial, ?_⟩)) (fun h => ⟨by trivial, ?_⟩))
  ·have hk : z.k = 10 := by simpa using h
   show [[_]] = [[Value.int .i64 (mostF (t.nodes.take (q + 1)))]]
   rw [hs, if_pos hk]; rfl
  ·have hk : ¬ z.k = 10 := by simpa using h
   show [[_]] = [[Value.int .i64 (mostF (t.nodes.take (q + 1)))]]
   rw [hs, if_neg hk]
 ·rintro cs m4 hm4 hcs
  obtain rfl : cs = [.int .i64 (mostF (t.nodes.take t.nodes.length))] := by simpa using hcs
  refine look_intro rfl (ret_pure (mLt hle hm4) ?_)
  rw [List.take_length]
  show Value.int _ _ = Value.int _ t.most
  unfold E.most; rw [hl]; rfl
def NmsR (l : List ByteArray) : Value → Mem → List (List Value) → Prop := fun v m' _ => ∃ (a : Option Addr) (c : Nat), v = .slice a l.length c ∧ rowRd m' a (strsL l) ∧ (l = [] → a = none ∧ c = 0)
theorem nms_fits {l} : ∀ (v : Value) (m' : Mem) (css : List (List Value)), NmsR l v m' css → Shape.fits .slice v = true := fun v _ _ ⟨_, _, e, _⟩ => by rw [e]; rfl
theorem cx_named (t : E) (out : List ByteArray) (a : Option Addr) (c : Nat) (m : Mem) (hr : RepE m t) (ho : rowRd m a (strsL out)) (h0 : out = [] → a = none ∧ c = 0) (h1 : (t.names out).length ≤ 1) :
  CX Tryz.prog 115 #[.slice a out.length c, t.v] m [] (NmsR (t.names out)) := by
 have hout := names_le t out
 apply cx_expr_named
 unfold VC_expr_named
 intro b m1 hm1 _
 refine br_intro (fun hk => ?_) (fun hk => ?_)
 ·have hk9 : t.k = 9 := by simpa using hk
  have hN := namesE_eq t out
  rw [if_pos hk9] at hN
  have hE : (out.any fun y => eqS t.s y) = out.any fun y => y.toList == t.s.toList := by
   congr 1; funext w; unfold eqS; exact Bool.beq_comm
  refine call_bool (cx_ContainsS out a c t.s m1 (by omega) (ho.mono hm1)) fun m2 hm2 => br_intro (fun h => ret_all (mLt hm1 hm2) ?_) (fun h b2 hf => ?_)
  ·rw [hE] at h
   rw [hN, h, if_pos rfl]
   exact ⟨a, c, rfl, ho.mono (mLt hm1 hm2), h0⟩
  ·rw [hE] at h
   rw [h, if_neg (by decide)] at hN
   rw [hN, List.length_append, List.length_singleton] at h1
   have hnil : out = [] := List.eq_nil_of_length_eq_zero (by omega)
   subst hnil
   obtain ⟨rfl, rfl⟩ := h0 rfl
   refine ⟨.inl rfl, [], [.string t.s], rfl, rfl, .inl rfl, .inr ⟨b2, 0, rfl, fun j v hj => by rw [Nat.zero_add, Mem.add_same]; exact hj⟩, fun u hu => ?_, by decide, by decide, fun a' c' m3 hm3 hrow => ret_all (mLt hm1 (mLt hm2 (mLt (Mem.le_add hf _) hm3))) ?_⟩
   ·obtain rfl : u = .string t.s := by simpa using hu
    rfl
   ·rw [hN]
    exact ⟨a', c', rfl, hrow, fun h => by simp at h⟩
 ·have hk9 : ¬ t.k = 9 := by simpa using hk
  have hN := namesE_eq t out
  rw [if_neg hk9] at hN
  rw [hN] at h1 ⊢
  have hiff := RepE_iff hr
  refine ⟨fun xs _ _ m' q => ∃ (i : Nat) (a' : Option Addr) (c' : Nat), i ≤ t.subs.length ∧ xs = [.slice a' (namesL (t.subs.take i) out).length c', .int .i64 i] ∧ rowRd m' a' (strsL (namesL (t.subs.take i) out)) ∧ (namesL (t.subs.take i) out = [] → a' = none ∧ c' = 0) ∧ q = t.subs.length - i, ⟨_, 0, a, c, by omega, by rw [List.take_zero]; rfl, by rw [List.take_zero]; exact ho.mono hm1, by rw [List.take_zero]; exact h0, rfl⟩, ?_⟩
  rintro a1 n1 c1 n m2 q hm2 ⟨i, a', c', hi, hx, hrow, hnil, hq⟩
  simp only [List.cons.injEq, Value.slice.injEq, Value.int.injEq, and_true, true_and] at hx
  obtain ⟨⟨rfl, rfl, rfl⟩, rfl⟩ := hx
  subst hq
  refine br_intro (fun hlt => ?_) (fun hge => ?_)
  ·have hlt' : i < t.subs.length := by have := of_decide_eq_true hlt; omega
   obtain ⟨x, hx⟩ := at_lt hlt'
   have hmem := List.mem_of_getElem? hx
   have hsz := subE_lt hmem
   rcases hiff.2 with h | ⟨b1, o1, ha, hat⟩
   ·rw [h] at hlt'; simp at hlt'
   obtain ⟨hxr, hxrep⟩ := (hat.mono' (mLt hm1 hm2)).get hx
   have hw : IntKind.i64.wrap ((i : Int) + 1) = ((i + 1 : Nat) : Int) := by rw [wrap64 (by omega) (by omega)]; rfl
   simp only [hw, Int.toNat_natCast]
   have hstep := names_take hx out
   have hpre := names_pre (l := t.subs) (i := i + 1) out
   refine ⟨b1, o1, ha, ⟨by omega, by omega⟩, _, _, _, _, _, hxr, fun b2 => chk_intro rfl ?_⟩
   refine call_any (cx_named x (namesL (t.subs.take i) out) a1 c1 m2 hxrep hrow hnil (by rw [← hstep]; omega)) nms_fits ?_
   rintro a2 n2 c2 m3 hm3 ⟨a2', c2', hv, hrow2, hnil2⟩
   simp only [Value.slice.injEq] at hv
   obtain ⟨rfl, rfl, rfl⟩ := hv
   rw [← hstep] at hrow2 hnil2 ⊢
   exact ⟨by trivial, t.subs.length - (i + 1), by omega, i + 1, a2, c2, by omega, rfl, hrow2, hnil2, rfl⟩
  ·have hi' : i = t.subs.length := by have := of_decide_eq_false hge; omega
   subst hi'
   rw [List.take_length] at hrow hnil ⊢
   exact ret_all (mLt hm1 hm2) ⟨a1, c1, rfl, hrow, hnil⟩
termination_by SizeOf.sizeOf t
decreasing_by exact hsz
theorem cx_eVars (t : E) (m : Mem) (hr : RepE m t) (h1 : t.vars.length ≤ 1) : CX Tryz.prog 96 #[t.v] m [] (NmsR t.vars) := by
 apply cx_expr_Vars
 unfold VC_expr_Vars
 intro b m1 hm1 _
 refine call_bool (cx_eLight t m1 (RepE.mono' hr hm1)) fun m2 hm2 => br_intro (fun h => ret_pure (mLt hm1 hm2) ?_) (fun h => ?_)
 ·have hl : t.light = false := by simpa using h
  have : t.vars = [] := by unfold E.vars; rw [hl]; rfl
  rw [this]
  exact ⟨none, 0, rfl, .inl rfl, fun _ => ⟨rfl, rfl⟩⟩
 ·have hl : t.light = true := by simpa using h
  have hv : t.vars = t.names [] := by unfold E.vars; rw [hl]; rfl
  rw [hv] at h1 ⊢
  refine call_any (cx_named t [] none 0 m2 (RepE.mono' hr (mLt hm1 hm2)) (.inl rfl) (fun _ => ⟨rfl, rfl⟩) h1) nms_fits ?_
  rintro a n c m3 hm3 ⟨a', c', hv', hrow, hnil⟩
  simp only [Value.slice.injEq] at hv'
  obtain ⟨rfl, rfl, rfl⟩ := hv'
  exact ret_all (mLt hm1 (mLt hm2 hm3)) ⟨a, c, rfl, hrow, hnil⟩
end Go.Proofs.YtiadlgdcbpnmkaaGreatDoor
set_option linter.unusedVariables false
set_option linter.unusedSimpArgs false
namespace Go.Proofs.YtiadlgdcbpnmkaaGreatDoor
open Go Go.Eng Go.Rx Go.Proofs Go.RowKit
set_option maxRecDepth 100000
theorem cx_IndexSt (l : List Sta) (a : Option Addr) (c : Nat) (g : Nat) (ca : List Value) (p : Sta → Bool) (m : Mem) (hl : l.length ≤ 1000000000000000) (hr : rowRd m a (l.map Sta.cs).flatten)
  (hp : ∀ x ∈ l, ∀ m', m.le m' → CX Tryz.prog g (.agg x.cs.toArray :: ca).toArray m' [] (Ret (.bool (p x)))) :
  CX Tryz.prog 86 #[.slice a l.length c, .func (.func g) #[] ca.toArray] m [] (Ret (.int .i64 (if l.any p then (l.findIdx p : Nat) else (-1 : Int)))) := by
 apply cx_slices_IndexFunc_ast_State_ast_State a l.length c g [] ca
 unfold VC_slices_IndexFunc_ast_State_ast_State
 refine ⟨fun xs _ _ m'' q => ∃ i : Nat, i ≤ l.length ∧ xs = [.int .i64 i] ∧ (∀ x ∈ l.take i, p x = false) ∧ q = l.length - i, ⟨l.length, 0, by omega, rfl, by simp, by omega⟩, ?_⟩
 rintro n m' q hm ⟨i, hi, hn, hno, hq⟩
 obtain rfl : n = i := by simpa using hn
 refine br_intro (fun hlt => ?_) (fun hge => ?_)
 ·have hlt' : i < l.length := by simpa using hlt
  obtain ⟨x, hx⟩ := at_lt hlt'
  have hmem : x ∈ l := List.mem_of_getElem? hx
  obtain ⟨b1, o1, ha, hx1⟩ := rows_get Sta.len (hr.mono hm) hx (by omega)
  refine ⟨b1, o1, ha, ⟨by omega, by omega⟩, _, _, hx1, call_bool (hp x hmem m' hm) fun m1 hm1 => br_intro (fun hpx => ?_) (fun hpx => ?_)⟩
  ·refine ret_pure (mLt hm hm1) ?_
   have hany : l.any p = true := List.any_eq_true.2 ⟨x, hmem, hpx⟩
   have hfind : l.findIdx p = i := by
    rw [List.findIdx_eq hlt']
    refine ⟨by rw [(List.getElem?_eq_some_iff.1 hx).2]; exact hpx, fun j hj => ?_⟩
    exact hno _ (List.mem_of_getElem? (i := j) (by rw [List.getElem?_take_of_lt hj]; exact List.getElem?_eq_getElem (by omega)))
   simp [Ret, hany, hfind]
  ·refine ⟨l.length - (i + 1), by omega, i + 1, by omega, by rw [wrap64 (by omega) (by omega)]; rfl, ?_, rfl⟩
   intro y hy
   rw [List.take_add_one, hx] at hy
   rcases List.mem_append.1 hy with hy | hy
   ·exact hno y hy
   ·simp at hy; rw [hy]; exact hpx
 ·have hi' : i = l.length := by
   have : ¬ ((i : Int) < (l.length : Int)) := by simpa using hge
   omega
  subst hi'
  refine ret_pure hm ?_
  have hany : l.any p = false := by
   rw [List.any_eq_false]
   rw [List.take_length] at hno
   exact fun x hx => by simp [hno x hx]
  simp [Ret, hany]
theorem cx_ContSt (l : List Sta) (a : Option Addr) (c : Nat) (g : Nat) (ca : List Value) (p : Sta → Bool) (m : Mem) (hl : l.length ≤ 1000000000000000) (hr : rowRd m a (l.map Sta.cs).flatten)
  (hp : ∀ x ∈ l, ∀ m', m.le m' → CX Tryz.prog g (.agg x.cs.toArray :: ca).toArray m' [] (Ret (.bool (p x)))) :
  CX Tryz.prog 58 #[.slice a l.length c, .func (.func g) #[] ca.toArray] m [] (Ret (.bool (l.any p))) := by
 apply cx_slices_ContainsFunc_ast_State_ast_State a l.length c g [] ca
 unfold VC_slices_ContainsFunc_ast_State_ast_State
 refine call_int (cx_IndexSt l a c g ca p m hl hr hp) fun m' hm => ret_pure hm ?_
 cases h : l.any p <;> simp [Ret]
theorem cx_IndexVa (l : List Va) (a : Option Addr) (c : Nat) (g : Nat) (ca : List Value) (p : Va → Bool) (m : Mem) (hl : l.length ≤ 1000000000000000) (hr : rowRd m a (l.map Va.cs).flatten)
  (hp : ∀ x ∈ l, ∀ m', m.le m' → CX Tryz.prog g (.agg x.cs.toArray :: ca).toArray m' [] (Ret (.bool (p x)))) :
  CX Tryz.prog 85 #[.slice a l.length c, .func (.func g) #[] ca.toArray] m [] (Ret (.int .i64 (if l.any p then (l.findIdx p : Nat) else (-1 : Int)))) := by
 apply cx_slices_IndexFunc_ast_Var_ast_Var a l.length c g [] ca
 unfold VC_slices_IndexFunc_ast_Var_ast_Var
 refine ⟨fun xs _ _ m'' q => ∃ i : Nat, i ≤ l.length ∧ xs = [.int .i64 i] ∧ (∀ x ∈ l.take i, p x = false) ∧ q = l.length - i, ⟨l.length, 0, by omega, rfl, by simp, by omega⟩, ?_⟩
 rintro n m' q hm ⟨i, hi, hn, hno, hq⟩
 obtain rfl : n = i := by simpa using hn
 refine br_intro (fun hlt => ?_) (fun hge => ?_)
 ·have hlt' : i < l.length := by simpa using hlt
  obtain ⟨x, hx⟩ := at_lt hlt'
  have hmem : x ∈ l := List.mem_of_getElem? hx
  obtain ⟨b1, o1, ha, hx1⟩ := rows_get Va.len (hr.mono hm) hx (by omega)
  refine ⟨b1, o1, ha, ⟨by omega, by omega⟩, _, _, _, _, hx1, call_bool (hp x hmem m' hm) fun m1 hm1 => br_intro (fun hpx => ?_) (fun hpx => ?_)⟩
  ·refine ret_pure (mLt hm hm1) ?_
   have hany : l.any p = true := List.any_eq_true.2 ⟨x, hmem, hpx⟩
   have hfind : l.findIdx p = i := by
    rw [List.findIdx_eq hlt']
    refine ⟨by rw [(List.getElem?_eq_some_iff.1 hx).2]; exact hpx, fun j hj => ?_⟩
    exact hno _ (List.mem_of_getElem? (i := j) (by rw [List.getElem?_take_of_lt hj]; exact List.getElem?_eq_getElem (by omega)))
   simp [Ret, hany, hfind]
  ·refine ⟨l.length - (i + 1), by omega, i + 1, by omega, by rw [wrap64 (by omega) (by omega)]; rfl, ?_, rfl⟩
   intro y hy
   rw [List.take_add_one, hx] at hy
   rcases List.mem_append.1 hy with hy | hy
   ·exact hno y hy
   ·simp at hy; rw [hy]; exact hpx
 ·have hi' : i = l.length := by
   have : ¬ ((i : Int) < (l.length : Int)) := by simpa using hge
   omega
  subst hi'
  refine ret_pure hm ?_
  have hany : l.any p = false := by
   rw [List.any_eq_false]
   rw [List.take_length] at hno
   exact fun x hx => by simp [hno x hx]
  simp [Ret, hany]
theorem cx_ContVa (l : List Va) (a : Option Addr) (c : Nat) (g : Nat) (ca : List Value) (p : Va → Bool) (m : Mem) (hl : l.length ≤ 1000000000000000) (hr : rowRd m a (l.map Va.cs).flatten)
  (hp : ∀ x ∈ l, ∀ m', m.le m' → CX Tryz.prog g (.agg x.cs.toArray :: ca).toArray m' [] (Ret (.bool (p x)))) :
  CX Tryz.prog 52 #[.slice a l.length c, .func (.func g) #[] ca.toArray] m [] (Ret (.bool (l.any p))) := by
 apply cx_slices_ContainsFunc_ast_Var_ast_Var a l.length c g [] ca
 unfold VC_slices_ContainsFunc_ast_Var_ast_Var
 refine call_int (cx_IndexVa l a c g ca p m hl hr hp) fun m' hm => ret_pure hm ?_
 cases h : l.any p <;> simp [Ret]
theorem cx_within (n a b : Int) (m : Mem) : CX Tryz.prog 55 #[.int .i64 n, .int .i64 a, .int .i64 b] m [] (Ret (.bool (within n a b))) := by
 apply cx_check_within
 unfold VC_check_within
 exact ⟨within n a b, br_intro (fun h => by unfold within; rw [h]; rfl) (fun h => by unfold within; rw [h]; rfl), ret_pure (Mem.le_refl m) rfl⟩
theorem cx_kind1 (v : Va) (name : ByteArray) (b : Nat) (m : Mem) (hb : m.reads b 0 [.string name]) : CX Tryz.prog 94 #[.agg v.cs.toArray, .pointer (some ⟨b, 0, none⟩)] m [] (Ret (.bool (eqS v.s name))) := by
 apply cx_check_kind_1 (c0b := b) (c0o := 0)
 unfold VC_check_kind_1
 intro b1 m1 hm1 _
 exact ⟨_, hm1.c _ _ _ (hb 0 _ rfl), chk_intro rfl (ret_pure hm1 rfl)⟩
theorem find_idx {l : List Va} {p : Va → Bool} (h : l.any p = true) : ∃ v, l[l.findIdx p]? = some v ∧ l.find? p = some v := by
 induction l with
 | nil => simp at h
 | cons x l ih =>
  cases hx : p x with
  | true => exact ⟨x, by simp [List.findIdx_cons, hx], by simp [hx]⟩
  | false =>
   obtain ⟨v, h1, h2⟩ := ih (by simpa [hx] using h)
   exact ⟨v, by simp [List.findIdx_cons, hx, h1], by simp [hx, h2]⟩
theorem find_none {l : List Va} {p : Va → Bool} (h : l.any p = false) : l.find? p = none := by
 rw [List.find?_eq_none]; rw [List.any_eq_false] at h; exact h
theorem cx_kind (s : Sc) (name : ByteArray) (m : Mem) (hr : RepC m s) : CX Tryz.prog 70 #[s.v, .string name] m [] (Ret (.tuple #[.bool (kindS s name).1, .bool (kindS s name).2])) := by
 apply cx_check_kind
 unfold VC_check_kind
 intro b m1 hm1 _ b1 m2 hm2 hb1
 have hvl := hr.vlen
 unfold few at hvl
 have hrow := hr.vrow.mono (mLt hm1 hm2)
 refine call_int (cx_IndexVa s.vars s.va s.vc _ [.pointer (some ⟨b1, 0, none⟩)] (fun v => eqS v.s name) m2 (by omega) hrow fun x _ m' hm' => cx_kind1 x name b1 m' (hb1.mono hm')) fun m3 hm3 => ?_
 have hle := mLt hm1 (mLt hm2 hm3)
 cases h : s.vars.any (fun v => eqS v.s name) with
 | true =>
  obtain ⟨v, hv1, hv2⟩ := find_idx h
  have hk : kindS s name = (v.b, true) := by unfold kindS; rw [hv2]
  obtain ⟨b4, o4, ha, hx4⟩ := rows_get Va.len (hrow.mono hm3) hv1 (by omega)
  have hlt := (List.getElem?_eq_some_iff.1 hv1).1
  simp only [if_true]
  refine ⟨v.b, true, br_t (decide_eq_true (by omega)) ⟨b4, o4, ha, ⟨by omega, by omega⟩, .bool v.b, ?_, by trivial, chk_intro rfl ?_⟩, ret_pure hle (by rw [hk])⟩
  ·have := hx4 1 _ rfl
   rw [Int.toNat_natCast]; exact this
  ·rw [decide_eq_true (by omega : ((List.findIdx (fun v => eqS v.s name) s.vars : Nat) : Int) ≥ 0)]
 | false =>
  have hk : kindS s name = (false, false) := by unfold kindS; rw [find_none h]
  refine ⟨false, false, br_f rfl ⟨by trivial, rfl⟩, ret_pure hle (by rw [hk])⟩
theorem cx_numbers1 (s : Sc) (name : ByteArray) (b : Nat) (m : Mem) (hr : RepC m s) (hb : m.reads b 0 s.cs) : CX Tryz.prog 97 #[.string name, .pointer (some ⟨b, 0, none⟩)] m [] (Ret (.bool (!(kindS s name).1))) := by
 apply cx_check_numbers_1 (c0b := b) (c0o := 0)
 unfold VC_check_numbers_1
 refine ⟨_, _, _, hb, ?_⟩
 refine call_any (cx_kind s name m hr) (fun v _ _ e => by rw [show v = _ from e]; rfl) ?_
 intro x y m1 hm1 hv
 have hv : Value.tuple (Array.mk [Value.bool x, Value.bool y]) = Value.tuple #[.bool (kindS s name).1, .bool (kindS s name).2] := hv
 simp only [Value.tuple.injEq, Array.mk.injEq, List.cons.injEq, Value.bool.injEq, and_true] at hv
 obtain ⟨rfl, rfl⟩ := hv
 exact ret_pure hm1 rfl
theorem cx_numbers (s : Sc) (e : E) (m : Mem) (hr : RepC m s) (he : RepE m e) (h1 : e.vars.length ≤ 1) : CX Tryz.prog 71 #[s.v, e.v] m [] (Ret (.bool (numbersS s e))) := by
 apply cx_check_numbers
 unfold VC_check_numbers
 intro b m1 hm1 hb b1 m2 hm2 _
 refine call_any (cx_eVars e m2 (RepE.mono' he (mLt hm1 hm2)) h1) nms_fits ?_
 rintro a n c m3 hm3 ⟨a', c', hv, hrow, _⟩
 simp only [Value.slice.injEq] at hv
 obtain ⟨rfl, rfl, rfl⟩ := hv
 refine call_bool (cx_ContainsFuncS e.vars a c _ [.pointer (some ⟨b, 0, none⟩)] (fun n => !(kindS s n).1) m3 (by omega) hrow fun x _ m' hm' => cx_numbers1 s x b m' (hr.mono (mLt hm1 (mLt hm2 (mLt hm3 hm')))) (hb.mono (mLt hm2 (mLt hm3 hm')))) fun m4 hm4 => ret_pure (mLt hm1 (mLt hm2 (mLt hm3 hm4))) rfl
theorem cx_none (e : E) (m : Mem) (he : RepE m e) : CX Tryz.prog 68 #[e.v] m [] (Ret (.bool (noneE e))) := by
 apply cx_check_none
 unfold VC_check_none
 intro b m1 hm1 _
 exact call_bool (cx_eSame e E0 m1 (RepE.mono' he hm1) (repE0 m1)) fun m2 hm2 => ret_pure (mLt hm1 hm2) rfl
theorem cx_Captures (r : Ru) (m : Mem) (hr : Rep m r.t) : CX Tryz.prog 74 #[.agg r.cs.toArray] m [] (Ret (.int .i64 (capsR r))) := by
 apply cx_check_Captures
 unfold VC_check_Captures
 intro b m1 hm1 _
 refine br_intro (fun h => ?_) (fun h => br_intro (fun h2 => ret_pure hm1 ?_) (fun h2 => ret_pure hm1 ?_))
 ·have hk : r.k = 1 := by simpa using h
  exact call_int (cx_Groups r.t m1 (hr.mono hm1)) fun m2 hm2 => ret_pure (mLt hm1 hm2) (by unfold capsR; rw [if_pos hk])
 ·have hk : ¬ r.k = 1 := by simpa using h
  have hk2 : r.k = 2 := by simpa using h2
  unfold capsR; rw [if_neg hk, if_pos hk2]
 ·have hk : ¬ r.k = 1 := by simpa using h
  have hk2 : ¬ r.k = 2 := by simpa using h2
  unfold capsR; rw [if_neg hk, if_neg hk2]
theorem cx_anodes (e : E) (m : Mem) (he : RepE m e) : CX Tryz.prog 34 #[e.v] m [] (Ret (.int .i64 (nE e))) := by
 apply cx_ast_nodes
 unfold VC_ast_nodes
 intro b m1 hm1 _
 refine call_bool (cx_eLight e m1 (RepE.mono' he hm1)) fun m2 hm2 => br_intro (fun h => ret_pure (mLt hm1 hm2) ?_) (fun h => ?_)
 ·have hl : e.light = false := by simpa using h
  unfold nE; rw [hl]; rfl
 ·have hl : e.light = true := by simpa using h
  exact call_int (cx_eSize e m2 (RepE.mono' he (mLt hm1 hm2))) fun m3 hm3 => ret_pure (mLt hm1 (mLt hm2 hm3)) (by unfold nE; rw [hl]; rfl)
end Go.Proofs.YtiadlgdcbpnmkaaGreatDoor
