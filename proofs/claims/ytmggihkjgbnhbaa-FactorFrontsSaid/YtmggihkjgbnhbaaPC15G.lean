/- Part of the proof: conditions and contracts of functions of this program. No condition of its own. -/
import Derived.Test.YtmggihkjgbnhbaaPC15F
set_option linter.unusedVariables false
set_option linter.unusedSimpArgs false
set_option linter.unusedSectionVars false
namespace Go.Proofs.Ytmggihkjgbnhbaa
open Go Go.Eng Go.Rx Go.Proofs Go.RowKit
set_option maxRecDepth 100000
def GainP (t : T) (a b c d : Int) (g e : Int) : Prop :=
 (T.rgt t = false ∧ g = 0 ∧ e = 2) ∨
 (T.rgt t = true ∧ ∃ k ∈ t.cuts, ((k.a : Nat) : Int) = a ∧ ((k.f : Nat) : Int) = b ∧ ((k.t : Nat) : Int) = c ∧ ((k.n : Nat) : Int) = d ∧ g = gainE t k ∧ e = 0) ∨
 (T.rgt t = true ∧ (∀ k ∈ t.cuts, ¬ (((k.a : Nat) : Int) = a ∧ ((k.f : Nat) : Int) = b ∧ ((k.t : Nat) : Int) = c ∧ ((k.n : Nat) : Int) = d)) ∧ g = 0 ∧ e = 150)
def GainR (t : T) (a b c d : Int) : Value → Mem → List (List Value) → Prop := fun v _ _ => ∃ g e, v = .tuple #[.int .i64 g, .int .i64 e] ∧ GainP t a b c d g e
theorem cx_Gain (t : T) (a b c d : Int) (m : Mem) (hr : Rep m t) (hcp : t.caps) : CX Try.prog 25 #[t.v, .agg #[.int .i64 a, .int .i64 b, .int .i64 c, .int .i64 d]] m [] (GainR t a b c d) := by
 apply cx_factor_Gain
 unfold VC_factor_Gain
 intro b0 m1 hm1 _ b1 m2 hm2 _
 have h02 := Mem.le_trans hm1 hm2
 refine call_any (cx_Make t a b c d m2 (hr.mono h02) hcp) makeR_fits ?_
 rintro n1 n2 n3 n4 n5 n6 n7 a1 n8 c1 n9 m3 hm3 hmk b3
 have h03 := Mem.le_trans h02 hm3
 unfold MakeR at hmk
 have tk : ∀ {e : Int} {φ : T → Prop}, TreeE e φ (.tuple #[.agg #[.int .u8 n1, .int .u64 n2, .int .u64 n3, .int .u64 n4, .int .u64 n5, .int .i64 n6, .int .i64 n7, .slice a1 n8 c1], .int .i64 n9]) m3 [] → n9 = e ∧ ∃ t' : T, .agg #[.int .u8 n1, .int .u64 n2, .int .u64 n3, .int .u64 n4, .int .u64 n5, .int .i64 n6, .int .i64 n7, .slice a1 n8 c1] = t'.v ∧ Rep m3 t' ∧ φ t' := by
  rintro e φ ⟨t', hv, hr', hp, _⟩
  simp only [Value.tuple.injEq, Array.mk.injEq, List.cons.injEq, Value.int.injEq, true_and, and_true] at hv
  exact ⟨hv.2, t', hv.1, hr', hp⟩
 by_cases ht : T.rgt t = false
 ·rw [if_pos ht] at hmk
  obtain ⟨rfl, -⟩ := tk hmk
  exact br_t rfl (ret_pure h03 ⟨_, _, rfl, .inl ⟨ht, rfl, rfl⟩⟩)
 rw [if_neg ht] at hmk
 have ht' : T.rgt t = true := by simpa using ht
 obtain ⟨hg, hz⟩ := rgt_iff.1 ht'
 rcases hmk with ⟨k, hk, e1, e2, e3, e4, hmk⟩ | ⟨hno, hmk⟩
 ·obtain ⟨rfl, t', hv, hr', hp⟩ := tk hmk
  have ho := cutAt_ok (c := k) t 0 hg (cuts_fit hk)
  have hz' : t'.nodes.length = (t.cutAt k 0).1.nodes.length := by rw [← sz_er t', hp]
  have hsz := ho.sz
  refine br_f rfl ⟨fun i _ _ => if i = 1 then Ret (.int .i64 t.size) else Ret (.int .i64 t'.size), _, (if_pos rfl).symm, cx_Size t m3 (hr.mono h03), fun v _ _ e => by rw [e]; rfl, ?_⟩
  rintro n m4 hm4 hn
  obtain rfl : n = t.size := by simpa [Ret] using hn
  refine ⟨_, (if_neg (by omega)).symm, by rw [hv]; exact cx_Size t' m4 (hr'.mono hm4), fun v _ _ e => by rw [e]; rfl, ?_⟩
  rintro n m5 hm5 hn M _ _ hM
  obtain rfl : n = t'.size := by simpa [Ret] using hn
  refine ⟨M, Mem.le_trans h03 (Mem.le_trans hm4 (Mem.le_trans hm5 hM)), Mem.le_refl _, _, _, rfl, .inr (.inl ⟨ht', k, hk, e1, e2, e3, e4, ?_, rfl⟩)⟩
  rw [size_nodes (by omega), size_nodes (by omega), wrap64 (by omega) (by omega)]
  unfold gainE
  omega
 ·obtain ⟨rfl, -⟩ := tk hmk
  exact br_t rfl (ret_pure h03 ⟨_, _, rfl, .inr (.inr ⟨ht', hno, rfl, rfl⟩)⟩)
theorem cutsE_fits {e : Int} {L : List C4} : ∀ (v : Value) (m' : Mem) (css : List (List Value)), CutsE e L v m' css → Shape.fits (.tup [.slice, .int .i64]) v = true := fun v _ _ ⟨a, c, e, _⟩ => by rw [e]; rfl
def CutsC (L : List C4) : Value → Mem → List (List Value) → Prop := fun v m' _ => ∃ a c, v = .slice a L.length c ∧ rowRd m' a (cutsCells L) ∧ L.length ≤ c
theorem cutsC_fits {L : List C4} : ∀ (v : Value) (m' : Mem) (css : List (List Value)), CutsC L v m' css → Shape.fits .slice v = true := fun v _ _ ⟨a, c, e, _⟩ => by rw [e]; rfl
theorem cx_AppendSeq (L : List C4) (g : Nat) (fi ca : List Value) (m : Mem) (hx : IX Try.prog g fi ca m (L.map cutV)) (hl : L.length ≤ 1000000) : CX Try.prog 71 #[.slice none 0 0, .func (.func g) fi.toArray ca.toArray] m [] (CutsC L) := by
 apply cx_slices_AppendSeq_factor_Cut_factor_Cut
 unfold VC_slices_AppendSeq_factor_Cut_factor_Cut
 intro b1
 refine ⟨_, hx, fun x hx => ?_, fun xs css tvs m' q => ∃ a' c', css = [[.slice a' q c']] ∧ tvs = [.slice a' q c'] ∧ rowRd m' a' (cutsCells (L.take q)) ∧ q ≤ c', ⟨none, 0, rfl, rfl, .inl rfl, Nat.le_refl _⟩, ?_, ?_⟩
 ·obtain ⟨c, _, rfl⟩ := List.mem_map.1 hx
  rfl
 ·rintro z1 z2 z3 z4 cs a1 n1 c1 m7 q hm7 hq ⟨a', c', hcs, htv, hrow, hqc⟩
  obtain rfl : cs = [.slice a' q c'] := by simpa using hcs
  obtain ⟨rfl, rfl, rfl⟩ : a1 = a' ∧ n1 = q ∧ c1 = c' := by simpa using htv
  have hq : (L.map cutV)[n1]? = some [.agg #[.int .i64 z1, .int .i64 z2, .int .i64 z3, .int .i64 z4]] := hq
  rw [List.getElem?_map] at hq
  obtain ⟨k, hk, he⟩ := Option.map_eq_some_iff.1 hq
  simp only [cutV, C4.v, List.cons.injEq, Value.agg.injEq, Array.mk.injEq, Value.int.injEq, true_and, and_true] at he
  obtain ⟨rfl, rfl, rfl, rfl⟩ := he
  have hlt := (List.getElem?_eq_some_iff.1 hk).1
  intro b2
  refine look_intro rfl ?_
  intro b3 hfree
  refine chk_intro rfl ⟨.inl rfl, cutsCells (L.take n1), c4cells k, ?_, rfl, hrow.mono (Mem.le_add hfree _), .inr ⟨b3, 0, rfl, ?_⟩, c4_one k, ?_, ?_, ?_⟩
  ·rw [cutsCells_len, List.length_take, Nat.min_eq_left (by omega)]; rfl
  ·intro j v hj; rw [Nat.zero_add, Mem.add_same]; exact hj
  ·simp only [slN]; omega
  ·simp only [slN]; omega
  ·intro a2 c2 m8 hm8 hrow2 hcap
   refine ⟨by trivial, a2, c2, rfl, rfl, ?_, hcap⟩
   rw [take_at hk, cutsCells_snoc]
   exact hrow2
 ·rintro cs a1 n1 c1 m7 hm7 ⟨a', c', hcs, htv, hrow, hqc⟩
  obtain rfl : cs = _ := by simpa using hcs
  refine look_intro rfl ⟨m7, hm7, Mem.le_refl _, a', c', ?_, ?_, ?_⟩
  ·simp only [List.length_map]
  ·rw [List.length_map, List.take_length] at hrow
   exact hrow
  ·rw [List.length_map] at hqc
   exact hqc
theorem cx_Collect (L : List C4) (g : Nat) (fi ca : List Value) (m : Mem) (hx : IX Try.prog g fi ca m (L.map cutV)) (hl : L.length ≤ 1000000) : CX Try.prog 53 #[.func (.func g) fi.toArray ca.toArray] m [] (CutsC L) := by
 apply cx_slices_Collect_factor_Cut
 unfold VC_slices_Collect_factor_Cut
 refine call_any (cx_AppendSeq L g fi ca m hx hl) cutsC_fits ?_
 rintro a n c m1 hm1 ⟨a', c', hv, hrow, hcap⟩
 cases hv
 exact ⟨m1, hm1, Mem.le_refl _, _, _, rfl, hrow, hcap⟩
def OrE (t : T) (L : List C4) : Value → Mem → List (List Value) → Prop := fun v m' css => if T.rgt t = false then v = .tuple #[.slice none 0 0, .int .i64 2] else CutsE 0 L v m' css
def OrC (t : T) : Value → Mem → List (List Value) → Prop := fun v m' css => if T.rgt t = false then v = .tuple #[.slice none 0 0, .int .i64 2] else ∃ a c, v = .tuple #[.slice a t.cuts.length c, .int .i64 0] ∧ rowRd m' a (cutsCells t.cuts) ∧ t.cuts.length ≤ c
theorem cx_CutsC (t : T) (m : Mem) (hr : Rep m t) (hcp : t.caps) (hl : t.cuts.length ≤ 1000000) : CX Try.prog 27 #[t.v] m [] (OrC t) := by
 apply cx_factor_Cuts
 unfold VC_factor_Cuts
 intro b m1 hm1 _
 refine call_bool (cx_fright t m1 (hr.mono hm1)) fun m2 hm2 => br_intro (fun h => ?_) (fun h => ?_)
 ·have hf : T.rgt t = false := by rw [Bool.not_eq_true'] at h; exact h
  refine ret_pure (Mem.le_trans hm1 hm2) ?_
  unfold OrC
  rw [if_pos hf]
 have ht : T.rgt t = true := by rw [Bool.not_eq_false'] at h; exact h
 obtain ⟨hg, hz⟩ := rgt_iff.1 ht
 have h02 := Mem.le_trans hm1 hm2
 refine call_any (cx_cuts t m2) FnR_fits ?_
 rintro g fi ca m3 hm3 ⟨nb, hv, hnb⟩
 obtain ⟨rfl, rfl, rfl⟩ := func_inj hv
 have h03 := Mem.le_trans h02 hm3
 refine call_any (cx_Collect t.cuts _ _ _ m3 (ix_cuts t m3 nb hnb (hr.mono h03) hcp (by omega)) hl) cutsC_fits ?_
 rintro a n c m4 hm4 ⟨a', c', hv, hrow, hcap⟩
 cases hv
 refine ⟨m4, Mem.le_trans h03 hm4, Mem.le_refl _, ?_⟩
 unfold OrC
 rw [if_neg (by rw [ht]; simp)]
 exact ⟨_, _, rfl, hrow, hcap⟩
theorem cx_Cuts (t : T) (m : Mem) (hr : Rep m t) (hcp : t.caps) (hl : t.cuts.length ≤ 1000000) : CX Try.prog 27 #[t.v] m [] (OrE t t.cuts) :=
 (cx_CutsC t m hr hcp hl).mono fun v m' css _ h => by
  unfold OrC at h
  unfold OrE
  split at h
  ·rename_i hf; rw [if_pos hf]; exact h
  ·rename_i hf
   obtain ⟨a, c, hv, hrow, _⟩ := h
   rw [if_neg hf]; exact ⟨a, c, hv, hrow⟩
def setCs (t : T) : List Value := [.int .u64 t.s0, .int .u64 t.s1, .int .u64 t.s2, .int .u64 t.s3]
def setsCells (L : List T) : List Value := (L.map setCs).flatten
theorem setsCells_len (L : List T) : (setsCells L).length = L.length * 4 := by
 induction L with
 | nil => rfl
 | cons c L ih => simp [setsCells, setCs] at ih ⊢; omega
theorem setsCells_snoc (L : List T) (c : T) : setsCells (L ++ [c]) = setsCells L ++ setCs c := by simp [setsCells]
def SetsE (t : T) : Value → Mem → List (List Value) → Prop := fun v m' _ => if T.rgt t = false then v = .tuple #[.slice none 0 0, .int .i64 2] else ∃ a c, v = .tuple #[.slice a (headT t).length c, .int .i64 0] ∧ rowRd m' a (setsCells (headT t))
theorem setsE_fits {t : T} : ∀ (v : Value) (m' : Mem) (css : List (List Value)), SetsE t v m' css → Shape.fits (.tup [.slice, .int .i64]) v = true := by
 intro v m' css h
 unfold SetsE at h
 split at h
 ·rw [h]; rfl
 ·obtain ⟨_, _, h, _⟩ := h
  rw [h]; rfl
theorem cx_Head (t : T) (m : Mem) (hr : Rep m t) (hcp : t.caps) : CX Try.prog 14 #[t.v] m [] (SetsE t) := by
 apply cx_factor_Head
 unfold VC_factor_Head
 intro b m1 hm1 _
 refine call_bool (cx_fright t m1 (hr.mono hm1)) fun m2 hm2 => br_intro (fun h => ?_) (fun h => ?_)
 ·have hf : T.rgt t = false := by rw [Bool.not_eq_true'] at h; exact h
  refine ret_pure (Mem.le_trans hm1 hm2) ?_
  unfold SetsE
  rw [if_pos hf]
 have ht : T.rgt t = true := by rw [Bool.not_eq_false'] at h; exact h
 obtain ⟨hg, hz⟩ := rgt_iff.1 ht
 have h02 := Mem.le_trans hm1 hm2
 refine call_any (cx_head t m2 (hr.mono h02) (caps_len hcp)) ListT_fits ?_
 rintro a n c m3 hm3 ⟨a', c', hv, hL, hlc⟩
 cases hv
 have hrow := row_of_repL hL
 have hhl : (headT t).length ≤ 120 := by
  have := headT_len t
  omega
 refine ⟨fun xs css tvs m' q => ∃ (i : Nat) (a : Option Addr) (c : Nat), i ≤ (headT t).length ∧ css = [] ∧ xs = [.slice a i c, .int .i64 i] ∧ tvs = [.slice a i c] ∧ rowRd m' a (setsCells ((headT t).take i)) ∧ q = (headT t).length - i, ⟨_, 0, none, 0, by omega, rfl, rfl, rfl, .inl rfl, rfl⟩, ?_⟩
 rintro a3 n1 c3 n2 a4 n3 c4 m4 q hm4 ⟨i, a5, c5, hi, -, hxs, htv, hrw, hq⟩
 simp only [List.cons.injEq, Value.slice.injEq, Value.int.injEq, true_and, and_true] at hxs htv
 obtain ⟨⟨rfl, rfl, rfl⟩, rfl⟩ := hxs
 obtain ⟨rfl, rfl, rfl⟩ := htv
 refine br_intro (fun hlt => ?_) (fun hge => ?_)
 ·have hlt' : n3 < (headT t).length := by have := of_decide_eq_true hlt; omega
  obtain ⟨x, hx⟩ := at_some hlt'
  obtain ⟨b0, o0, ha0, hrd0⟩ := row_get (hrow.mono hm4) hx
  refine ⟨b0, o0, ha0, ⟨by omega, by omega⟩, _, _, _, _, _, _, _, _, hrd0, ?_⟩
  intro b6
  refine chk_intro rfl ?_
  intro b7 hfree
  refine ⟨.inl rfl, setsCells ((headT t).take n3), setCs x, ?_, rfl, hrw.mono (Mem.le_add hfree _), .inr ⟨b7, 0, rfl, ?_⟩, ?_, by omega, by omega, ?_⟩
  ·rw [setsCells_len, List.length_take, Nat.min_eq_left hi]
  ·intro j v hj; rw [Nat.zero_add, Mem.add_same]; exact hj
  ·intro u hu
   simp only [setCs, List.mem_cons, List.not_mem_nil, or_false] at hu
   rcases hu with rfl | rfl | rfl | rfl <;> rfl
  intro a8 c8 m8 hm8 hrow8
  refine ⟨by trivial, (headT t).length - (n3 + 1), by omega, n3 + 1, a8, c8, by omega, rfl, ?_, rfl, ?_, rfl⟩
  ·rw [wrap64 (by omega) (by omega)]; rfl
  ·rw [take_at hx, setsCells_snoc]; exact hrow8
 ·have hnn : n3 = (headT t).length := by have := of_decide_eq_false hge; omega
  subst hnn
  rw [List.take_length] at hrw
  refine ⟨m4, Mem.le_trans h02 (Mem.le_trans hm3 hm4), Mem.le_refl _, ?_⟩
  unfold SetsE
  rw [if_neg (by rw [ht]; simp)]
  exact ⟨_, _, rfl, hrw⟩
end Go.Proofs.Ytmggihkjgbnhbaa

