/- Part of the proof: conditions and contracts of functions of this program. No condition of its own. -/
import Derived.Test.YtmggihkjgbnhbaaPC15E
set_option linter.unusedVariables false
set_option linter.unusedSimpArgs false
set_option linter.unusedSectionVars false
namespace Go.Proofs.Ytmggihkjgbnhbaa
open Go Go.Eng Go.Rx Go.Proofs Go.RowKit
set_option maxRecDepth 100000
def T.rgt (t : T) : Bool := t.clean && decide (t.size ≤ 120)
theorem rgt_iff {t : T} : T.rgt t = true ↔ t.good = true ∧ t.nodes.length ≤ 120 := by
 unfold T.rgt
 rw [Bool.and_eq_true, decide_eq_true_iff]
 constructor
 ·rintro ⟨h1, h2⟩
  have h3 := clean_good h1
  rw [size_nodes h3.2] at h2
  exact ⟨h3.1, by omega⟩
 ·rintro ⟨h1, h2⟩
  exact ⟨good_clean h1 (by omega), by rw [size_nodes (by omega)]; omega⟩
def TreeE (e : Int) (φ : T → Prop) : Value → Mem → List (List Value) → Prop := fun v m' _ => ∃ t' : T, v = .tuple #[t'.v, .int .i64 e] ∧ Rep m' t' ∧ φ t' ∧ t'.caps
def cutsCells (L : List C4) : List Value := (L.map c4cells).flatten
theorem cutsCells_len (L : List C4) : (cutsCells L).length = L.length * 4 := by
 induction L with
 | nil => rfl
 | cons c L ih => simp [cutsCells, c4cells] at ih ⊢; omega
theorem cutsCells_snoc (L : List C4) (c : C4) : cutsCells (L ++ [c]) = cutsCells L ++ c4cells c := by simp [cutsCells]
theorem c4_one (c : C4) : ∀ u ∈ c4cells c, u.oneCell' = true := by
 intro u hu
 simp only [c4cells, List.mem_cons, List.not_mem_nil, or_false] at hu
 rcases hu with rfl | rfl | rfl | rfl <;> rfl
def CutsE (e : Int) (L : List C4) : Value → Mem → List (List Value) → Prop := fun v m' _ => ∃ a c, v = .tuple #[.slice a L.length c, .int .i64 e] ∧ rowRd m' a (cutsCells L)
theorem best_fits {t : T} : ∀ (v : Value) (m' : Mem) (css : List (List Value)), BestR t v m' css → Shape.fits (.tup [.agg [.int .i64, .int .i64, .int .i64, .int .i64], .int .i64, .agg [.int .u8, .int .u64, .int .u64, .int .u64, .int .u64, .int .i64, .int .i64, .slice]]) v = true := fun v _ _ ⟨t, e, _⟩ => by rw [e]; rfl
theorem cx_Factor (t : T) (m : Mem) (hr : Rep m t) (hcp : t.caps) : CX Try.prog 13 #[t.v] m [] (fun v m' css => if T.rgt t then TreeE 0 (fun t' => t'.er = (factorE t).1) v m' css else TreeE 2 (fun t' => t' = T0) v m' css) := by
 apply cx_factor_Factor
 unfold VC_factor_Factor
 intro b b1
 refine call_bool (cx_fright t m hr) fun m1 hm1 => br_intro (fun h => ?_) (fun h => ?_)
 ·have hf : T.rgt t = false := by rw [Bool.not_eq_true'] at h; exact h
  refine ⟨m1, hm1, Mem.le_refl _, ?_⟩
  rw [hf]
  exact ⟨T0, rfl, rep_T0 _, rfl, caps_T0⟩
 ·have ht : T.rgt t = true := by unfold T.rgt; simpa using h
  obtain ⟨hg, hz⟩ := rgt_iff.1 ht
  refine ⟨fun xs css tvs m' q => ∃ x : T, css = [x.cs, T0.cs] ∧ Rep m' x ∧ x.caps ∧ x.good = true ∧ x.nodes.length ≤ 120 ∧ factorE x = ((factorE t).1, (factorE x).2) ∧ q = x.nodes.length, ⟨_, t, rfl, hr.mono hm1, hcp, hg, hz, rfl, rfl⟩, ?_⟩
  rintro cs cs1 m2 q hm2 ⟨x, hcss, hxr, hxc, hxg, hxz, hxe, hq⟩
  simp only [List.cons.injEq, and_true] at hcss
  obtain ⟨rfl, rfl⟩ := hcss
  refine ⟨_, trivial, cx_best x m2 hxr hxg hxc hxz, best_fits, ?_⟩
  rintro n1 n2 n3 n4 n5 n6 n7 n8 n9 n10 n11 n12 a n13 c m3 hm3 ⟨t', hv, hr', ht', hc'⟩ b3 b4
  simp only [C4.v, T.v, Value.tuple.injEq, Value.agg.injEq, Array.mk.injEq, List.cons.injEq, Value.int.injEq, Value.slice.injEq, true_and, and_true] at hv
  obtain ⟨_, rfl, rfl, rfl, rfl, rfl, rfl, rfl, rfl, rfl, rfl, rfl⟩ := hv
  refine br_intro (fun hle => ?_) (fun hgt => ?_)
  ·have hle := of_decide_eq_true hle
   refine call_any (cx_Copy x m3 (hxr.mono hm3) (by omega)) tree_fits (tree_k fun o m4 hm4 hor ⟨ho, hoc⟩ => ?_)
   refine ⟨m4, Mem.le_trans hm1 (Mem.le_trans hm2 (Mem.le_trans hm3 hm4)), Mem.le_refl _, ?_⟩
   rw [ht]
   refine ⟨o, rfl, hor, ?_, hoc⟩
   show o.er = (factorE t).1
   rw [factorE_stop hle] at hxe
   rw [ho, ← (Prod.mk.inj hxe).1]
  ·have hgt := of_decide_eq_false hgt
   have hb := bestE_next hxg (by omega)
   have hz' : t'.nodes.length = (bestE x).t.nodes.length := by rw [← sz_er t', ht']
   have hfe : factorE t' = factorE (bestE x).t := factorE_er (by rw [ht', hb.2.2.1])
   refine ⟨by trivial, t'.nodes.length, by omega, t', rfl, hr', hc', by rw [← good_er, ht']; exact hb.1, by omega, ?_, rfl⟩
   rw [factorE_go hxg hgt] at hxe
   rw [hfe, ← (Prod.mk.inj hxe).1]
theorem cx_Best (t : T) (m : Mem) (hr : Rep m t) (hcp : t.caps) : CX Try.prog 24 #[t.v] m [] (fun v _ _ => v = (if T.rgt t = false then .tuple #[C4.zero.v, .int .i64 0, .bool false, .int .i64 2] else if (bestE t).g ≤ 0 then .tuple #[C4.zero.v, .int .i64 0, .bool false, .int .i64 0] else .tuple #[(bestE t).c.v, .int .i64 (bestE t).g, .bool true, .int .i64 0])) := by
 apply cx_factor_Best
 unfold VC_factor_Best
 intro b m1 hm1 _ b1
 refine call_bool (cx_fright t m1 (hr.mono hm1)) fun m2 hm2 => br_intro (fun h => ?_) (fun h => ?_)
 ·have hf : T.rgt t = false := by rw [Bool.not_eq_true'] at h; exact h
  rw [if_pos hf]
  exact ⟨m2, Mem.le_trans hm1 hm2, Mem.le_refl _, rfl⟩
 have ht : T.rgt t = true := by rw [Bool.not_eq_false'] at h; exact h
 obtain ⟨hg, hz⟩ := rgt_iff.1 ht
 rw [if_neg (by rw [ht]; simp)]
 refine ⟨_, trivial, cx_best t m2 (hr.mono (Mem.le_trans hm1 hm2)) hg hcp hz, best_fits, ?_⟩
 rintro n1 n2 n3 n4 n5 n6 n7 n8 n9 n10 n11 n12 a n13 c m3 hm3 ⟨t', hv, hr', ht', hc'⟩ b3 b4
 simp only [C4.v, T.v, Value.tuple.injEq, Value.agg.injEq, Array.mk.injEq, List.cons.injEq, Value.int.injEq, Value.slice.injEq, true_and, and_true] at hv
 obtain ⟨⟨rfl, rfl, rfl, rfl⟩, rfl, rfl, rfl, rfl, rfl, rfl, rfl, rfl, rfl, rfl, rfl⟩ := hv
 have h03 := Mem.le_trans hm1 (Mem.le_trans hm2 hm3)
 refine br_intro (fun hle => ?_) (fun hgt => ?_)
 ·rw [if_pos (of_decide_eq_true hle)]
  exact ⟨m3, h03, Mem.le_refl _, rfl⟩
 ·rw [if_neg (of_decide_eq_false hgt)]
  exact ⟨m3, h03, Mem.le_refl _, rfl⟩
theorem eq_cut (a b c d a' b' c' d' : Int) : EqIs Try.prog 51 (.agg #[.int .i64 a, .int .i64 b, .int .i64 c, .int .i64 d]) (.agg #[.int .i64 a', .int .i64 b', .int .i64 c', .int .i64 d']) (a == a' && b == b' && c == c' && d == d') := by
 refine ⟨fun w => ?_, fun op ox oy w => eqGuard_free (by kernel_rfl) op ox oy _ _ w⟩
 have u3 := Try.underlying3
 have a3 := Try.isAgg3
 have z3 := Try.sizeOf3
 rw [Op.equal, Op.maxDepth, show (10000 : Nat) = 9999 + 1 from rfl]
 rw [run_equalIn_agg _ _ _ _ _ (by kernel_rfl) (by kernel_rfl)]
 have hf : (Try.prog.fieldsOf 51).toList = [⟨ "Alt", 3, 0, false, "", "", 0⟩, ⟨ "From", 3, 1, false, "", "", 8⟩, ⟨ "To", 3, 2, false, "", "", 16⟩, ⟨ "Length", 3, 3, false, "", "", 24⟩] := by kernel_rfl
 rw [hf]
 go_simp
 by_cases h1 : a = a' <;> by_cases h2 : b = b' <;> by_cases h3 : c = c' <;> by_cases h4 : d = d' <;> simp [h1, h2, h3, h4]
def MakeR (t : T) (a b c d : Int) : Value → Mem → List (List Value) → Prop := fun v m' css =>
 if T.rgt t = false then TreeE 2 (fun t' => t' = T0) v m' css else
 (∃ k ∈ t.cuts, ((k.a : Nat) : Int) = a ∧ ((k.f : Nat) : Int) = b ∧ ((k.t : Nat) : Int) = c ∧ ((k.n : Nat) : Int) = d ∧ TreeE 0 (fun t' => t'.er = (t.cutAt k 0).1) v m' css) ∨
 ((∀ k ∈ t.cuts, ¬ (((k.a : Nat) : Int) = a ∧ ((k.f : Nat) : Int) = b ∧ ((k.t : Nat) : Int) = c ∧ ((k.n : Nat) : Int) = d)) ∧ TreeE 150 (fun t' => t' = T0) v m' css)
theorem cx_Make (t : T) (a b c d : Int) (m : Mem) (hr : Rep m t) (hcp : t.caps) : CX Try.prog 26 #[t.v, .agg #[.int .i64 a, .int .i64 b, .int .i64 c, .int .i64 d]] m [] (MakeR t a b c d) := by
 apply cx_factor_Make
 unfold VC_factor_Make
 intro b0 m1 hm1 _ b1 m2 hm2 _ b2 b3
 have h02 := Mem.le_trans hm1 hm2
 refine call_bool (cx_fright t m2 (hr.mono h02)) fun m3 hm3 => br_intro (fun h => ?_) (fun h => ?_)
 ·have hf : T.rgt t = false := by rw [Bool.not_eq_true'] at h; exact h
  refine ⟨m3, Mem.le_trans h02 hm3, Mem.le_refl _, ?_⟩
  unfold MakeR
  rw [if_pos hf]
  exact ⟨T0, rfl, rep_T0 _, rfl, caps_T0⟩
 have ht : T.rgt t = true := by rw [Bool.not_eq_false'] at h; exact h
 obtain ⟨hg, hz⟩ := rgt_iff.1 ht
 have hnf : ¬ T.rgt t = false := by rw [ht]; simp
 refine call_any (cx_cuts t m3) FnR_fits ?_
 rintro g fi ca m4 hm4 ⟨nb, hv, hnb⟩
 obtain ⟨rfl, rfl, rfl⟩ := func_inj hv
 have h04 := Mem.le_trans h02 (Mem.le_trans hm3 hm4)
 have hr4 := hr.mono h04
 refine ⟨_, ix_cuts t m4 nb hnb hr4 hcp (by omega), fun x hx => ?_, fun xs css tvs m' q => css = [T0.cs, [.int .i64 0]] ∧ ∀ k ∈ t.cuts.take q, ¬ (((k.a : Nat) : Int) = a ∧ ((k.f : Nat) : Int) = b ∧ ((k.t : Nat) : Int) = c ∧ ((k.n : Nat) : Int) = d), ⟨rfl, by simp⟩, ?_, ?_⟩
 ·obtain ⟨c, _, rfl⟩ := List.mem_map.1 hx
  rfl
 ·rintro n1 n2 n3 n4 cs cs1 m5 q hm5 hget ⟨hcss, hno⟩ b5
  have hget : (t.cuts.map cutV)[q]? = some [.agg #[.int .i64 n1, .int .i64 n2, .int .i64 n3, .int .i64 n4]] := hget
  rw [List.getElem?_map] at hget
  obtain ⟨k, hk, he⟩ := Option.map_eq_some_iff.1 hget
  simp only [cutV, C4.v, List.cons.injEq, Value.agg.injEq, Array.mk.injEq, Value.int.injEq, true_and, and_true] at he
  obtain ⟨rfl, rfl, rfl, rfl⟩ := he
  have hkm := List.mem_of_getElem? hk
  simp only [List.cons.injEq, and_true] at hcss
  obtain ⟨rfl, rfl⟩ := hcss
  refine ⟨_, eq_cut _ _ _ _ _ _ _ _, br_intro (fun hy => ?_) (fun hn => ?_)⟩
  ·simp only [Bool.and_eq_true, beq_iff_eq] at hy
   obtain ⟨⟨⟨rfl, rfl⟩, rfl⟩, rfl⟩ := hy
   refine call_any (cx_made t k m5 (hr4.mono hm5) hg hcp hz (cuts_fit hkm)) tree_fits (tree_k fun t' m6 hm6 hr' ⟨ht', hcp'⟩ => ?_)
   refine ⟨by trivial, m6, Mem.le_trans h04 (Mem.le_trans hm5 hm6), Mem.le_refl _, ?_⟩
   unfold MakeR
   rw [if_neg hnf]
   exact .inl ⟨k, hkm, rfl, rfl, rfl, rfl, t', rfl, hr', ht', hcp'⟩
  ·refine ⟨by trivial, rfl, fun k' hk' => ?_⟩
   rw [take_at hk] at hk'
   rcases List.mem_append.1 hk' with hk' | hk'
   ·exact hno k' hk'
   ·rw [List.mem_singleton] at hk'; subst hk'
    rintro ⟨h1, h2, h3, h4⟩
    rw [h1, h2, h3, h4] at hn
    simp at hn
 ·rintro cs cs1 m5 hm5 ⟨hcss, hno⟩
  rw [List.length_map, List.take_length] at hno
  refine ⟨m5, Mem.le_trans h04 hm5, Mem.le_refl _, ?_⟩
  unfold MakeR
  rw [if_neg hnf]
  exact .inr ⟨hno, T0, rfl, rep_T0 _, rfl, caps_T0⟩
theorem makeR_fits {t : T} {a b c d : Int} : ∀ (v : Value) (m' : Mem) (css : List (List Value)), MakeR t a b c d v m' css → Shape.fits (.tup [.agg [.int .u8, .int .u64, .int .u64, .int .u64, .int .u64, .int .i64, .int .i64, .slice], .int .i64]) v = true := by
 intro v m' css h
 have key : ∀ e φ, TreeE e φ v m' css → Shape.fits (.tup [.agg [.int .u8, .int .u64, .int .u64, .int .u64, .int .u64, .int .i64, .int .i64, .slice], .int .i64]) v = true := fun e φ ⟨t', h, _⟩ => by rw [h]; rfl
 unfold MakeR at h
 split at h
 ·exact key _ _ h
 ·rcases h with ⟨_, _, _, _, _, _, h⟩ | ⟨_, h⟩
  ·exact key _ _ h
  ·exact key _ _ h
end Go.Proofs.Ytmggihkjgbnhbaa

