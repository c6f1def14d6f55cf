/- Part of the proof: conditions and contracts of functions of this program. No condition of its own. -/
import Derived.Test.YtmggihkjgbnhbaaPVFB
import Derived.Test.YtmggihkjgbnhbaaPC15A
import Derived.Test.YtmggihkjgbnhbaaPC13N
import Derived.Test.YtmggihkjgbnhbaaMr
set_option linter.unusedVariables false
set_option linter.unusedSimpArgs false
set_option linter.unusedSectionVars false
namespace Go.Proofs.Ytmggihkjgbnhbaa
open Go Go.Eng Go.Rx Go.Proofs Go.RowKit
set_option maxRecDepth 100000
def ListT (L : List T) : Value → Mem → List (List Value) → Prop := fun v m' _ => ∃ a c, v = .slice a L.length c ∧ RepL m' a L ∧ L.length ≤ c
theorem ListT_fits {L : List T} : ∀ (v : Value) (m' : Mem) (css : List (List Value)), ListT L v m' css → Shape.fits .slice v = true := fun v _ _ ⟨a, c, e, _⟩ => by rw [e]; rfl
theorem repL_take {m : Mem} {a : Option Addr} {L : List T} (h : RepL m a L) (n : Nat) : RepL m a (L.take n) := by
 have hrow := row_of_repL h
 refine repL_of (row_take (r := L.drop n) (by rw [List.take_append_drop]; exact hrow)) (fun x hx => repL_reps h x (List.mem_of_mem_take hx)) ?_
 have := h.1
 rw [List.length_take]; omega
theorem repL_drop {m : Mem} {a : Option Addr} {L : List T} (h : RepL m a L) {i c : Nat} (hi : i ≤ L.length) (hc : L.length ≤ c) : RepL m (slBase a i c 8) (L.drop i) := by
 have hrow := row_of_repL h
 refine repL_of ?_ (fun x hx => repL_reps h x (List.mem_of_mem_drop hx)) (by have := h.1; rw [List.length_drop]; omega)
 by_cases hz : L.drop i = []
 ·left; rw [hz]; rfl
 have hlt : i < L.length := by
  apply Classical.byContradiction
  intro hn
  exact hz (List.drop_eq_nil_of_le (by omega))
 rcases hrow with hrow | ⟨b, o, ha, hrd⟩
 ·have := congrArg List.length hrow
  rw [cellsL_len] at this
  simp only [List.length_nil] at this
  omega
 right
 subst ha
 have hs : slBase (some ⟨b, o, none⟩) i c 8 = some ⟨b, o + i * 8, none⟩ := by
  unfold slBase
  cases i with
  | zero => rfl
  | succ i =>
   have e1 : Nat.beq (i + 1) 0 = false := rfl
   have e2 : Nat.beq c (i + 1) = false := by
    cases hb : Nat.beq c (i + 1) with
    | false => rfl
    | true => have := Nat.eq_of_beq_eq_true hb; omega
   rw [e1, e2]
   show some (Addr.add _ ((i + 1) * 8)) = _
   rw [addr_add]
 refine ⟨b, o + i * 8, hs, fun j v hj => ?_⟩
 have e : Rx.cellsL L = Rx.cellsL (L.take i) ++ Rx.cellsL (L.drop i) := by rw [← cellsL_append, List.take_append_drop]
 have hl : (Rx.cellsL (L.take i)).length = i * 8 := by rw [cellsL_len, List.length_take, Nat.min_eq_left hi]
 have := hrd (i * 8 + j) v (by rw [e, List.getElem?_append_right (by omega), hl, Nat.add_sub_cancel_left]; exact hj)
 rwa [Nat.add_assoc]
theorem cx_head (t : T) (m : Mem) (hr : Rep m t) (hc : t.subs.length ≤ t.c) : CX Try.prog 39 #[t.v] m [] (ListT (headT t)) := by
 apply cx_factor_head
 unfold VC_factor_head
 intro b m1 hm1 hrd
 refine br_intro (fun hk => ?_) (fun hk => br_intro (fun hk3 => ?_) (fun hk3 => ?_))
 ·have hk' : t.k = 2 := by simpa using hk
  intro b2 hf2
  refine ⟨_, Mem.le_trans hm1 (Mem.le_add hf2 t.cs), Mem.le_refl _, some ⟨b2, 0, none⟩, 1, ?_, ?_, ?_⟩
  ·unfold headT; rw [if_pos hk']; rfl
  ·unfold headT; rw [if_pos hk']
   exact repL_one (fun j v hj => by rw [Nat.zero_add, Mem.add_same]; exact hj) (hr.mono (Mem.le_trans hm1 (Mem.le_add hf2 t.cs)))
  ·unfold headT; rw [if_pos hk']; simp
 ·have hk' : t.k = 3 := by simpa using hk3
  have hk2 : ¬ t.k = 2 := by omega
  have hsub := (hr.mono hm1).subs
  have hd1 : ∀ x ∈ t.subs, ∀ m', m1.le m' → Rep m' x → CX Try.prog 60 (x.v :: []).toArray m' [] (Ret (.bool (!x.isC))) := by
   intro x _ m' _ _
   apply cx_factor_head_1
   unfold VC_factor_head_1
   intro b m2 hm2 _
   exact ret_pure hm2 rfl
  have hidx := cx_IndexFunc t.subs t.a t.c 60 [] (fun x => !x.isC) m1 hsub.1 hsub.2 hd1
  have htw : headT t = t.subs.take (t.subs.findIdx fun x => !x.isC) := by
   unfold headT
   rw [if_neg hk2, if_pos hk']
   exact List.takeWhile_eq_take_findIdx_not
  refine call_int hidx fun m2 hm2 => ?_
  have hs2 := hsub.mono hm2
  cases hany : t.subs.any (fun x => !x.isC) with
  | false =>
   rw [if_neg (by simp)]
   have hall : headT t = t.subs := by
    rw [htw]
    have : t.subs.findIdx (fun x => !x.isC) = t.subs.length := by
     rw [List.findIdx_eq_length]
     intro x hx
     have := List.any_eq_false.1 hany x hx
     simpa using this
    rw [this, List.take_length]
   refine br_t rfl ⟨_, Mem.le_trans hm1 hm2, Mem.le_refl _, ?_⟩
   rw [hall]
   exact ⟨_, _, rfl, hs2, hc⟩
  | true =>
   rw [if_pos rfl]
   have hle : t.subs.findIdx (fun x => !x.isC) ≤ t.subs.length := List.findIdx_le_length
   refine br_f (decide_eq_false (by omega)) ⟨⟨by omega, by omega⟩, _, Mem.le_trans hm1 hm2, Mem.le_refl _, ?_⟩
   have hlen : (headT t).length = t.subs.findIdx (fun x => !x.isC) := by rw [htw, List.length_take, Nat.min_eq_left hle]
   refine ⟨slBase t.a 0 t.c 8, t.c - 0, ?_, ?_, by omega⟩
   ·rw [hlen]; simp
   ·rw [htw]; exact repL_take hs2 _
 ·have hk2 : ¬ t.k = 2 := by simpa using hk
  have hk3' : ¬ t.k = 3 := by simpa using hk3
  refine ⟨_, hm1, Mem.le_refl _, none, 0, ?_, ?_, ?_⟩
  ·unfold headT; rw [if_neg hk2, if_neg hk3']; rfl
  ·unfold headT; rw [if_neg hk2, if_neg hk3']; exact ⟨by simp, .inl rfl⟩
  ·unfold headT; rw [if_neg hk2, if_neg hk3']; simp
theorem cx_left (t : T) (n : Nat) (m : Mem) (hr : Rep m t) (hg : t.good = true) (hz : t.nodes.length ≤ 900) (hc : t.subs.length ≤ t.c) (hn : n ≤ (headT t).length) : CX Try.prog 81 #[t.v, .int .i64 n] m [] (TreeR fun t' => t'.er = leftE n t ∧ t'.caps) := by
 apply cx_factor_left
 unfold VC_factor_left
 intro b m1 hm1 hrd b2
 refine br_intro (fun hk => ?_) (fun hk => ?_)
 ·have hk' : t.k = 2 := by simpa using hk
  have h := cx_Seq [] none 0 m1 ⟨by simp, .inl rfl⟩ (by simp) (by simp)
  refine call_any h tree_fits (tree_k fun t' m2 hm2 hr' ⟨a, c, hj⟩ => ?_)
  refine ⟨m2, Mem.le_trans hm1 hm2, Mem.le_refl _, t', rfl, hr', ?_, join_caps caps_T1 hj⟩
  have hj : t' = T1 := hj
  unfold leftE
  rw [if_pos hk', hj]; rfl
 ·have hk2 : ¬ t.k = 2 := by simpa using hk
  have hle : n ≤ t.subs.length := by
   unfold headT at hn
   rw [if_neg hk2] at hn
   split at hn
   ·exact Nat.le_trans hn (List.takeWhile_sublist _).length_le
   ·simp at hn; omega
  have hd := repL_drop (hr.mono hm1).subs hle hc
  have hgs : ∀ x ∈ t.subs.drop n, x.good = true := fun x hx => (right_of_good hg).2 x (List.mem_of_mem_drop hx)
  have hsz : szL (t.subs.drop n) ≤ 900 := by
   have := szL_take t.subs n
   rw [sz_eq] at hz
   omega
  have hcl : ∀ x ∈ t.subs.drop n, x.clean = true := fun x hx => good_clean (hgs x hx) (by have := szL_mem hx; omega)
  have hll : (t.subs.drop n).length = t.subs.length - n := List.length_drop
  have h := cx_Seq (t.subs.drop n) (slBase t.a n t.c 8) (t.c - n) m1 hd (by have := len_szL (t.subs.drop n); omega) hcl
  rw [hll] at h
  refine ⟨⟨by omega, by omega⟩, ?_⟩
  simp only [Int.toNat_natCast]
  refine call_any h tree_fits (tree_k fun t' m2 hm2 hr' ⟨a, c, hj⟩ => ?_)
  refine ⟨m2, Mem.le_trans hm1 hm2, Mem.le_refl _, t', rfl, hr', ?_, join_caps caps_T1 hj⟩
  unfold leftE
  rw [if_neg hk2]
  exact seq_spec hgs (by omega) hj
theorem cx_fright (t : T) (m : Mem) (hr : Rep m t) : CX Try.prog 36 #[t.v] m [] (Ret (.bool (t.clean && decide (t.size ≤ 120)))) := by
 apply cx_factor_right
 unfold VC_factor_right
 intro b m1 hm1 hrd
 refine ⟨t.clean && decide (t.size ≤ 120), call_bool (cx_Clean t m1 (hr.mono hm1)) fun m2 hm2 => br_intro (fun h => ?_) (fun h => ?_), ret_pure hm1 rfl⟩
 ·refine call_int (cx_Size t m2 (hr.mono (Mem.le_trans hm1 hm2))) fun m3 hm3 => ⟨rfl, ?_⟩
  rw [h]; rfl
 ·exact ⟨rfl, by rw [h]; rfl⟩
theorem commonN_step {L R : List T} {n : Nat} {x y : T} (hx : L[n]? = some x) (hy : R[n]? = some y) (h : n ≤ commonN L R) : (n < commonN L R ↔ sameSet x y = true) := by
 induction n generalizing L R with
 | zero =>
  match L, R with
  | [], _ => simp at hx
  | _ :: _, [] => simp at hy
  | a :: l, b :: r =>
   simp at hx hy
   subst hx hy
   unfold commonN
   cases hs : sameSet a b <;> simp
 | succ n ih =>
  match L, R with
  | [], _ => simp at hx
  | _ :: _, [] => simp at hy
  | a :: l, b :: r =>
   simp at hx hy
   unfold commonN at h ⊢
   split at h
   ·rename_i hs
    rw [if_pos hs]
    have := ih hx hy (by omega)
    rw [← this]; omega
   ·omega
theorem reads_set {m : Mem} {b o : Nat} {t : T} (h : m.reads b o t.cs) : m.reads b (o + 1) [.int .u64 t.s0, .int .u64 t.s1, .int .u64 t.s2, .int .u64 t.s3] := by
 intro j v hj
 have hlt : j < 4 := (List.getElem?_eq_some_iff.1 hj).1
 rw [show o + 1 + j = o + (1 + j) by omega]
 refine h (1 + j) v ?_
 have e : j = 0 ∨ j = 1 ∨ j = 2 ∨ j = 3 := by omega
 rcases e with rfl | rfl | rfl | rfl <;> exact hj
theorem cx_common (L R : List T) (a1 a2 : Option Addr) (c1 c2 : Nat) (m : Mem) (hL : RepL m a1 L) (hR : RepL m a2 R) : CX Try.prog 68 #[.slice a1 L.length c1, .slice a2 R.length c2] m [] (Ret (.int .i64 (commonN L R : Nat))) := by
 apply cx_factor_common
 unfold VC_factor_common
 have hrL := row_of_repL hL
 have hrR := row_of_repL hR
 have hcl := commonN_le L R
 have h1 := hL.1
 refine ⟨fun xs css tvs m' q => ∃ i : Nat, i ≤ commonN L R ∧ xs = [.int .i64 i] ∧ q = commonN L R - i, ⟨_, 0, by omega, rfl, rfl⟩, ?_⟩
 rintro z m1 q hm1 ⟨i, hi, hxs, hq⟩
 obtain rfl : z = i := by simpa using hxs
 have hw : i < L.length → IntKind.i64.wrap ((i : Int) + 1) = ((i + 1 : Nat) : Int) := fun h => by rw [wrap64 (by omega) (by omega)]; rfl
 refine ⟨decide (i < commonN L R), br_intro (fun hlt => br_intro (fun hlt2 => ?_) (fun hge2 => ?_)) (fun hge => ?_), br_intro (fun h => ?_) (fun h => ?_)⟩
 ·have hlt' : i < L.length := by have := of_decide_eq_true hlt; omega
  have hlt2' : i < R.length := by have := of_decide_eq_true hlt2; omega
  obtain ⟨x, hx⟩ := at_some hlt'
  obtain ⟨y, hy⟩ := at_some hlt2'
  obtain ⟨b0, o0, ha0, hrd0⟩ := row_get (hrL.mono hm1) hx
  obtain ⟨b2, o2, ha2, hrd2⟩ := row_get (hrR.mono hm1) hy
  refine ⟨b0, o0, ha0, ⟨by omega, by omega⟩, _, _, _, _, reads_set hrd0, b2, o2, ha2, ⟨by omega, by omega⟩, _, _, _, _, reads_set hrd2, _, eq_set _ _ _ _ _ _ _ _, one_bool ?_⟩
  have := commonN_step hx hy hi
  rw [Bool.eq_iff_iff, decide_eq_true_iff, this]
  unfold sameSet
  simp [and_assoc]
 ·have : ¬ i < R.length := fun h => by have := of_decide_eq_false hge2; omega
  rw [decide_eq_false (by omega)]
 ·have : ¬ i < L.length := fun h => by have := of_decide_eq_false hge; omega
  rw [decide_eq_false (by omega)]
 ·have hlt := of_decide_eq_true h
  rw [hw (by omega)]
  exact ⟨commonN L R - (i + 1), by omega, i + 1, by omega, rfl, rfl⟩
 ·have : i = commonN L R := by have := of_decide_eq_false h; omega
  subst this
  exact ⟨m1, hm1, Mem.le_refl _, rfl⟩
def FnR (g : Nat) (t : T) : Value → Mem → List (List Value) → Prop := fun v m' _ => ∃ b, v = .func (.func g) #[] #[ptrV b] ∧ m'.reads b 0 t.cs
theorem FnR_fits {g : Nat} {t : T} : ∀ (v : Value) (m' : Mem) (css : List (List Value)), FnR g t v m' css → Shape.fits .fn v = true := fun v _ _ ⟨b, e, _⟩ => by rw [e]; rfl
theorem cx_alts (t : T) (m : Mem) : CX Try.prog 67 #[t.v] m [] (FnR 78 t) := by
 apply cx_factor_alts
 unfold VC_factor_alts
 intro b m1 hm1 hrd
 exact ⟨m1, hm1, Mem.le_refl _, b, rfl, hrd⟩
theorem cx_cuts (t : T) (m : Mem) : CX Try.prog 51 #[t.v] m [] (FnR 66 t) := by
 apply cx_factor_cuts
 unfold VC_factor_cuts
 intro b m1 hm1 hrd
 exact ⟨m1, hm1, Mem.le_refl _, b, rfl, hrd⟩
def cutV (c : C4) : List Value := [c.v]
set_option maxHeartbeats 1600000 in
theorem ix_cuts (t : T) (m : Mem) (c0b : Nat) (hrd : m.reads c0b 0 t.cs) (hr : Rep m t) (hcp : t.caps) (hz : t.nodes.length ≤ 100000) : IX Try.prog 66 [] [ptrV c0b] m (t.cuts.map cutV) := by
 apply ix_factor_cuts_1 0 [] [] c0b 0
 unfold VC_factor_cuts_1
 intro l b m1 hm1 hyb b1
 refine ⟨_, _, _, _, _, _, _, _, fun j v hj => hm1 _ _ _ (hrd j v hj), call_any (cx_alts t m1) FnR_fits ?_⟩
 rintro g fi ca m2 hm2 ⟨nb, hv, hnb⟩
 obtain ⟨rfl, rfl, rfl⟩ := func_inj hv
 have hr2 := hr.mono (Mem.le_trans hm1 hm2)
 generalize hXS : t.cuts.map cutV = XS
 refine ⟨_, ix_alts t m2 nb hnb hr2, fun x hx => ?_, fun xs css tvs m' q => ∃ y : Nat, xs = [.int .i64 y] ∧ css = [[.int .i64 q]] ∧ y ≤ XS.length ∧ XS.drop y = (cutsL q (t.alts.drop q)).map cutV, ⟨0, rfl, rfl, by omega, ?_⟩, ?_, ?_⟩
 ·obtain ⟨a, _, rfl⟩ := List.mem_map.1 hx
  exact fits_v a
 ·rw [List.drop_zero, List.drop_zero, ← hXS]; rfl
 ·rintro y0 k s0 s1 s2 s3 mn mx aa nn cc cs m3 n8 hm3 hget ⟨y, hxs, hcss, hyN, hdrop⟩ b2
  obtain rfl : y0 = y := by simpa using hxs
  obtain rfl : cs = [.int .i64 n8] := by simpa using hcss
  have hget : (t.alts.map fun a => [a.v])[n8]? = some [.agg #[.int .u8 k, .int .u64 s0, .int .u64 s1, .int .u64 s2, .int .u64 s3, .int .i64 mn, .int .i64 mx, .slice aa nn cc]] := hget
  rw [List.getElem?_map] at hget
  obtain ⟨al, hal, he⟩ := Option.map_eq_some_iff.1 hget
  simp only [T.v, Value.agg.injEq, Array.mk.injEq, List.cons.injEq, Value.int.injEq, Value.slice.injEq, true_and, and_true] at he
  obtain ⟨rfl, rfl, rfl, rfl, rfl, rfl, rfl, rfl, rfl, rfl⟩ := he
  have hmem := alts_sub t al (List.mem_of_getElem? hal)
  have har := (rep_nodes hr2 hmem.1).mono hm3
  have hac := caps_nodes hcp hmem.1
  have hsub := har.subs
  have hlen := hsub.1
  have hrow := row_of_repL hsub
  have hreps := repL_reps hsub
  have hadr : t.alts.drop n8 = al :: t.alts.drop (n8 + 1) := by
   obtain ⟨h1, h2⟩ := List.getElem?_eq_some_iff.1 hal
   rw [List.drop_eq_getElem_cons h1, h2]
  generalize hrest : cutsL (n8 + 1) (t.alts.drop (n8 + 1)) = rest
  refine ⟨fun xs css tvs m' q => ∃ y f : Nat, xs = [.int .i64 y, .int .i64 f] ∧ f ≤ al.subs.length ∧ y ≤ XS.length ∧ XS.drop y = (cutsF n8 f (al.subs.drop f) ++ rest).map cutV ∧ q = al.subs.length - f, ⟨_, y, 0, rfl, by omega, hyN, ?_, rfl⟩, ?_⟩
  ·rw [hdrop, hadr, cutsL, hrest]; rfl
  rintro y1 f0 m4 q4 hm4 ⟨y1', f, hxs1, hf, hyN1, hdrop1, hq4⟩
  simp only [List.cons.injEq, Value.int.injEq, true_and, and_true] at hxs1
  obtain ⟨rfl, rfl⟩ := hxs1
  refine br_intro (fun hlt => ?_) (fun hge => ?_)
  ·have hlt' : f < al.subs.length := by have := of_decide_eq_true hlt; omega
   obtain ⟨x, hx⟩ := at_some hlt'
   obtain ⟨b0, o0, ha0, hrd0⟩ := row_get (hrow.mono hm4) hx
   have hxm := List.mem_of_getElem? hx
   have hdf : al.subs.drop f = x :: al.subs.drop (f + 1) := by
    obtain ⟨h1, h2⟩ := List.getElem?_eq_some_iff.1 hx
    rw [List.drop_eq_getElem_cons h1, h2]
   have hw1 : IntKind.i64.wrap ((f : Int) + 1) = ((f + 1 : Nat) : Int) := by rw [wrap64 (by omega) (by omega)]; rfl
   have hw2 : IntKind.i64.wrap ((f : Int) + 2) = ((f + 2 : Nat) : Int) := by rw [wrap64 (by omega) (by omega)]; rfl
   simp only [hw1, hw2]
   refine ⟨b0, o0, ha0, ⟨by omega, by omega⟩, _, _, _, _, _, _, _, _, hrd0, call_any (cx_head x m4 ((hreps x hxm).mono hm4) (caps_len (caps_sub hac hxm))) ListT_fits ?_⟩
   rintro a6 n11 c1 m5 hm5 ⟨a6', c1', hv6, hS, hSc⟩
   simp only [Value.slice.injEq] at hv6
   obtain ⟨rfl, rfl, rfl⟩ := hv6
   have h35 := Mem.le_trans hm4 hm5
   generalize hnext : cutsF n8 (f + 1) (al.subs.drop (f + 1)) ++ rest = next
   refine ⟨fun xs css tvs m' q => ∃ (y to : Nat) (s : List T) (a : Option Addr) (c : Nat), xs = [.int .i64 y, .slice a s.length c, .int .i64 to] ∧ f + 2 ≤ to ∧ to ≤ al.subs.length + 1 ∧ RepL m' a s ∧ s.length ≤ c ∧ y ≤ XS.length ∧ XS.drop y = (runE n8 f s to (al.subs.drop (to - 1)) ++ next).map cutV ∧ q = al.subs.length + 1 - to, ⟨_, y1', f + 2, headT x, a6, c1, rfl, by omega, by omega, hS, hSc, hyN1, ?_, rfl⟩, ?_⟩
   ·rw [hdrop1, hdf, cutsF, ← hnext, List.append_assoc]; rfl
   rintro y2 a9 n12 c2 to0 m6 q6 hm6 ⟨y2', to, s, a9', c2', hxs2, hto1, hto2, hs, hsc, hyN2, hdrop2, hq6⟩
   simp only [List.cons.injEq, Value.int.injEq, Value.slice.injEq, true_and, and_true] at hxs2
   obtain ⟨rfl, ⟨rfl, rfl, rfl⟩, rfl⟩ := hxs2
   have h36 := Mem.le_trans h35 hm6
   have hstop : ∀ m' : Mem, XS.drop y2' = next.map cutV → ∃ n' : Nat, n' < q4 ∧ ∃ y f' : Nat, ([.int .i64 y2', .int .i64 ((f + 1 : Nat) : Int)] : List Value) = [.int .i64 y, .int .i64 f'] ∧ f' ≤ al.subs.length ∧ y ≤ XS.length ∧ XS.drop y = (cutsF n8 f' (al.subs.drop f') ++ rest).map cutV ∧ n' = al.subs.length - f' := fun m' h => ⟨al.subs.length - (f + 1), by omega, y2', f + 1, rfl, by omega, hyN2, by rw [h, ← hnext], rfl⟩
   refine br_intro (fun hle => ?_) (fun hgt => ?_)
   ·have hto3 : to ≤ al.subs.length := by have := of_decide_eq_true hle; omega
    obtain ⟨z, hz⟩ := at_some (l := al.subs) (k := to - 1) (by omega)
    obtain ⟨b4, o4, ha4, hrd4⟩ := row_get (hrow.mono h36) hz
    have hzm := List.mem_of_getElem? hz
    have hdz : al.subs.drop (to - 1) = z :: al.subs.drop to := by
     obtain ⟨h1, h2⟩ := List.getElem?_eq_some_iff.1 hz
     rw [List.drop_eq_getElem_cons h1, h2, show to - 1 + 1 = to by omega]
    have hwm : IntKind.i64.wrap ((to : Int) - 1) = ((to - 1 : Nat) : Int) := by rw [wrap64 (by omega) (by omega)]; omega
    have hwp : IntKind.i64.wrap ((to : Int) + 1) = ((to + 1 : Nat) : Int) := by rw [wrap64 (by omega) (by omega)]; rfl
    simp only [hwm, hwp]
    refine ⟨b4, o4, ha4, ⟨by omega, by omega⟩, _, _, _, _, _, _, _, _, hrd4, call_any (cx_head z m6 ((hreps z hzm).mono h36) (caps_len (caps_sub hac hzm))) ListT_fits ?_⟩
    rintro a12 n15 c3 m7 hm7 ⟨a12', c3', hv12, hZ, hZc⟩
    simp only [Value.slice.injEq] at hv12
    obtain ⟨rfl, rfl, rfl⟩ := hv12
    refine call_int (cx_common s (headT z) a9 a12 c2 c3 m7 (hs.mono hm7) hZ) fun m8 hm8 => ?_
    have hcn := commonN_le s (headT z)
    rw [hdz, runE] at hdrop2
    generalize commonN s (headT z) = kk at *
    refine ⟨⟨by omega, by omega⟩, br_intro (fun hk0 => ?_) (fun hk0 => ?_)⟩
    ·have hk0 : kk = 0 := by have := eq_of_beq hk0; omega
     rw [if_pos hk0, List.nil_append] at hdrop2
     exact ⟨trivial, hstop m8 hdrop2⟩
    ·have hk0 : ¬ kk = 0 := fun e => by subst e; simp at hk0
     rw [if_neg hk0, List.cons_append, List.map_cons] at hdrop2
     obtain ⟨hd1, hd2⟩ := drop_step hdrop2
     have hlt2 := (List.getElem?_eq_some_iff.1 hd1).1
     refine look_intro (v := .int .i64 n8) rfl (chk_intro rfl (chk_intro rfl (chk_intro rfl (chk_intro rfl ⟨⟨trivial, by omega, ?_⟩, ⟨trivial, al.subs.length + 1 - (to + 1), by omega, y2' + 1, to + 1, s.take kk, slBase a9 0 c2 8, c2 - 0, ?_, by omega, by omega, repL_take ((hs.mono hm7).mono hm8) kk, ?_, by omega, ?_, rfl⟩, trivial, .inr trivial⟩))))
     ·rw [Int.toNat_natCast]
      exact hd1.trans rfl
     ·simp [List.length_take, Nat.min_eq_left hcn.1]
     ·rw [List.length_take]; omega
     ·rw [hd2]; rfl
   ·have hto3 : to = al.subs.length + 1 := by have := of_decide_eq_false hgt; omega
    subst hto3
    rw [Nat.add_sub_cancel, List.drop_length, runE, List.nil_append] at hdrop2
    exact ⟨trivial, hstop m6 hdrop2⟩
  ·have hff : f = al.subs.length := by have := of_decide_eq_false hge; omega
   subst hff
   rw [List.drop_length, cutsF, List.nil_append] at hdrop1
   refine look_intro (v := .int .i64 n8) rfl (chk_intro rfl ⟨rfl, y1', rfl, ?_, hyN1, by rw [hdrop1, ← hrest]⟩)
   have hn8 : n8 < t.alts.length := (List.getElem?_eq_some_iff.1 hal).1
   have hal2 := alts_len t
   rw [show RowKit.intOf (.int .i64 (n8 : Int)) = (n8 : Int) from rfl, wrap64 (by omega) (by omega)]; rfl
 ·rintro y0 cs m3 hm3 ⟨y, hxs, _, hyN, hdrop⟩
  obtain rfl : y0 = y := by simpa using hxs
  rw [List.length_map, List.drop_length, cutsL, List.map_nil] at hdrop
  have := congrArg List.length hdrop
  rw [List.length_drop] at this
  simp at this
  exact .inl (by omega)
end Go.Proofs.Ytmggihkjgbnhbaa

