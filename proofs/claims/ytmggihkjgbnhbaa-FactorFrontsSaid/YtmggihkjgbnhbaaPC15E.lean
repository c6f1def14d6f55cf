/- Part of the proof: conditions and contracts of functions of this program. No condition of its own. -/
import Derived.Test.YtmggihkjgbnhbaaPC15D
import Derived.Test.YtmggihkjgbnhbaaPVFD
import Derived.Test.YtmggihkjgbnhbaaMr
set_option linter.unusedVariables false
set_option linter.unusedSimpArgs false
set_option linter.unusedSectionVars false
namespace Go.Proofs.Ytmggihkjgbnhbaa
open Go Go.Eng Go.Rx Go.Proofs Go.RowKit
set_option maxRecDepth 100000
def c4cells (c : C4) : List Value := [.int .i64 (c.a : Nat), .int .i64 (c.f : Nat), .int .i64 (c.t : Nat), .int .i64 (c.n : Nat)]
theorem cx_made (t : T) (c : C4) (m : Mem) (hr : Rep m t) (hg : t.good = true) (hcp : t.caps) (hz : t.nodes.length ≤ 120) (hf : FitAt c t.alts 0) : CX Try.prog 52 #[t.v, c.v] m [] (TreeR fun t' => t'.er = (t.cutAt c 0).1 ∧ t'.caps) := by
 apply cx_factor_made
 unfold VC_factor_made
 intro b m1 hm1 _ b' m2 hm2 _ b1 b2 b3 m3 hm3 hw hc
 have h03 := Mem.le_trans hm1 (Mem.le_trans hm2 hm3)
 have hwk := cx_walk_at c m3 b2 b' b3 hc (by have := hw 0 _ rfl; rw [Nat.zero_add] at this; exact this) t 0 (by omega) (hr.mono h03) hg hcp hz hf
 refine ⟨_, trivial, hwk, WalkR_fits, ?_⟩
 rintro k' s0' s1' s2' s3' mn' mx' a6 n6 c6 m4 hm4 cs6 ⟨t', hv, hr', ht', hcp', hcs6⟩
 simp only [T.v, Value.agg.injEq, Array.mk.injEq, List.cons.injEq, Value.int.injEq, Value.slice.injEq, true_and, and_true] at hv
 obtain ⟨rfl, rfl, rfl, rfl, rfl, rfl, rfl, rfl, rfl, rfl⟩ := hv
 exact ⟨m4, Mem.le_trans h03 hm4, Mem.le_refl _, t', rfl, hr', ht', hcp'⟩
theorem cx_better (c top : C4) (gain most : Int) (b0 b1 : Nat) (m : Mem) : CX Try.prog 57 #[c.v, .int .i64 gain, ptrV b0, ptrV b1] m [⟨b0, [.int .i64 most], 3, 1, false, true⟩, ⟨b1, c4cells top, 51, 4, false, true⟩] (fun v _ css => v = .bool (betterB top c most gain) ∧ css = [[.int .i64 most], c4cells top]) := by
 apply cx_factor_best_1 (c.a : Nat) (c.f : Nat) (c.t : Nat) (c.n : Nat) gain b0 most b1 (top.a : Nat) (top.f : Nat) (top.t : Nat) (top.n : Nat)
 unfold VC_factor_best_1
 intro b m1 hm1 _
 have e1 : (((c.a : Nat) : Int) == ((top.a : Nat) : Int)) = (c.a == top.a) := by rw [Bool.eq_iff_iff]; simp only [beq_iff_eq]; omega
 have e2 : (((c.f : Nat) : Int) == ((top.f : Nat) : Int)) = (c.f == top.f) := by rw [Bool.eq_iff_iff]; simp only [beq_iff_eq]; omega
 have e3 : decide (((c.t : Nat) : Int) > ((top.t : Nat) : Int)) = decide (c.t > top.t) := decide_eq_decide.2 (by omega)
 rw [e1, e2, e3]
 refine ⟨betterB top c most gain, ?_, rfl, rfl, m1, hm1, Mem.le_refl _, rfl, rfl⟩
 unfold betterB
 generalize decide (gain > most) = x1
 generalize (gain == most) = x2
 generalize decide (gain > 0) = x3
 generalize (c.a == top.a) = x4
 generalize (c.f == top.f) = x5
 generalize decide (c.t > top.t) = x6
 cases x1
 ·cases x2
  ·exact ⟨rfl, rfl⟩
  ·cases x3
   ·exact ⟨rfl, rfl⟩
   ·cases x4
    ·exact ⟨rfl, rfl⟩
    ·cases x5
     ·exact ⟨rfl, rfl⟩
     ·exact ⟨rfl, rfl⟩
 ·exact ⟨rfl, rfl⟩
def BestR (t : T) : Value → Mem → List (List Value) → Prop := fun v m' _ => ∃ t' : T, v = .tuple #[(bestE t).c.v, .int .i64 (bestE t).g, t'.v] ∧ Rep m' t' ∧ t'.er = (bestE t).t ∧ t'.caps
theorem size_nodes {t : T} (h : t.nodes.length ≤ 10000) : t.size = (t.nodes.length : Nat) := by
 unfold T.size T.light
 rw [decide_eq_true h, if_pos rfl]
theorem cx_best (t : T) (m : Mem) (hr : Rep m t) (hg : t.good = true) (hcp : t.caps) (hz : t.nodes.length ≤ 120) : CX Try.prog 37 #[t.v] m [] (BestR t) := by
 apply cx_factor_best
 unfold VC_factor_best
 intro b m1 hm1 hrd b1 b2 b3
 have hr1 := hr.mono hm1
 have hsz := size_nodes (t := t) (by omega)
 refine ⟨fun _ _ _ => Ret (.int .i64 t.size), _, rfl, cx_Size t m1 hr1, (fun v _ _ e => by rw [e]; rfl), ?_⟩
 intro n m2 hm2 hn b4 b5 b6 M hM1 hM2 b7
 obtain rfl : n = t.size := by unfold Ret at hn; simpa using hn
 refine call_any (cx_cuts t M) FnR_fits ?_
 rintro g fi ca m3 hm3 ⟨nb, hv, hnb⟩
 obtain ⟨rfl, rfl, rfl⟩ := func_inj hv
 have h03 := Mem.le_trans hm1 (Mem.le_trans hM1 hm3)
 have hr3 := hr.mono h03
 refine ⟨_, ix_cuts t m3 nb hnb hr3 hcp (by omega), fun x hx => ?_, fun xs css tvs m' q => ∃ tt : T, css = [c4cells ((t.cuts.take q).foldl (topStep t) ⟨C4.zero, 0, t.er⟩).c, [.int .i64 ((t.cuts.take q).foldl (topStep t) ⟨C4.zero, 0, t.er⟩).g], tt.cs] ∧ Rep m' tt ∧ tt.er = ((t.cuts.take q).foldl (topStep t) ⟨C4.zero, 0, t.er⟩).t ∧ tt.caps, ⟨t, rfl, hr3, rfl, hcp⟩, ?_, ?_⟩
 ·obtain ⟨c, _, rfl⟩ := List.mem_map.1 hx
  rfl
 ·rintro n1 n2 n3 n4 cs cs1 cs2 m4 q hm4 hget ⟨tt, hcss, htr, hte, htc⟩ b8
  have hget : (t.cuts.map cutV)[q]? = some [.agg #[.int .i64 n1, .int .i64 n2, .int .i64 n3, .int .i64 n4]] := hget
  rw [List.getElem?_map] at hget
  obtain ⟨c, hc, he⟩ := Option.map_eq_some_iff.1 hget
  simp only [cutV, C4.v, List.cons.injEq, Value.agg.injEq, Array.mk.injEq, Value.int.injEq, true_and, and_true] at he
  obtain ⟨rfl, rfl, rfl, rfl⟩ := he
  have hcm := List.mem_of_getElem? hc
  have hstep : (t.cuts.take (q + 1)).foldl (topStep t) ⟨C4.zero, 0, t.er⟩ = topStep t ((t.cuts.take q).foldl (topStep t) ⟨C4.zero, 0, t.er⟩) c := by
   rw [take_at hc, List.foldl_append]; rfl
  have hao := cutAt_ok (c := c) t 0 hg (cuts_fit hcm)
  refine call_any (cx_made t c m4 (hr3.mono hm4) hg hcp hz (cuts_fit hcm)) tree_fits (tree_k fun t' m5 hm5 hr' ⟨ht', hcp'⟩ b9 => ?_)
  have hz' : t'.nodes.length = (t.cutAt c 0).1.nodes.length := sz_of_er ht'
  have hsz' := size_nodes (t := t') (by have := hao.sz; omega)
  refine ⟨fun _ _ _ => Ret (.int .i64 t'.size), _, rfl, cx_Size t' m5 hr', (fun v _ _ e => by rw [e]; rfl), ?_⟩
  intro n14 m6 hm6 hn14 M2 hM21 hM22
  obtain rfl : n14 = t'.size := by unfold Ret at hn14; simpa using hn14
  have hgain : IntKind.i64.wrap (t.size - t'.size) = gainE t c := by
   rw [hsz, hsz']
   unfold gainE
   have := hao.sz
   rw [hz', wrap64 (by omega) (by omega)]
  rw [hgain]
  generalize hB : (t.cuts.take q).foldl (topStep t) ⟨C4.zero, 0, t.er⟩ = B at *
  simp only [List.cons.injEq, and_true] at hcss
  obtain ⟨rfl, rfl, rfl⟩ := hcss
  refine ⟨_, trivial, cx_better c B.c (gainE t c) B.g b4 b3 M2, (fun v _ _ e => by rw [e.1]; rfl), ?_⟩
  rintro bb m7 hm7 cs' cs3 ⟨hbb, hcs⟩
  obtain rfl : bb = betterB B.c c B.g (gainE t c) := by simpa using hbb
  simp only [List.cons.injEq, and_true] at hcs
  obtain ⟨rfl, rfl⟩ := hcs
  have h67 := Mem.le_trans hM21 hm7
  refine br_intro (fun hy => ?_) (fun hn => ?_)
  ·refine ⟨by trivial, t', ?_, hr'.mono h67, ?_, hcp'⟩
   ·rw [hstep]; unfold topStep; rw [hy, if_pos rfl]; rfl
   ·rw [hstep]; unfold topStep; rw [hy, if_pos rfl]; exact ht'
  ·refine ⟨by trivial, tt, ?_, htr.mono (Mem.le_trans hm5 h67), ?_, htc⟩
   ·rw [hstep]; unfold topStep; rw [hn]; rfl
   ·rw [hstep]; unfold topStep; rw [hn]; exact hte
 ·rintro cs cs1 cs2 m4 hm4 ⟨tt, hcss, htr, hte, htc⟩
  rw [List.length_map, List.take_length] at hcss hte
  simp only [List.cons.injEq, and_true] at hcss
  obtain ⟨rfl, rfl, rfl⟩ := hcss
  refine look_intro (v := .int .i64 (bestE t).g) rfl (chk_intro rfl (chk_intro rfl ⟨m4, Mem.le_trans h03 hm4, Mem.le_refl _, tt, rfl, htr, hte, htc⟩))
end Go.Proofs.Ytmggihkjgbnhbaa

