/- Part of the proof: conditions and contracts of functions of this program. No condition of its own. -/
import Derived.Test.YtmggihkjgbnhbaaPC15U
import Derived.Test.YtmggihkjgbnhbaaPVLE
/- Contract: FactorLess. -/
set_option linter.unusedVariables false
set_option linter.unusedSimpArgs false
set_option linter.unusedSectionVars false
namespace Go.Proofs.Ytmggihkjgbnhbaa
open Go Go.Eng Go.Rx Go.Proofs Go.RowKit
set_option maxRecDepth 100000

theorem cx_FactorLess (l : List Nat) (a : Option Addr) (c : Nat) (m : Mem) (hl : Byt m a l) (hc : l.length ≤ c) : CX Try.prog 4 #[.slice a l.length c] m [] (Ret (.bool true)) := by
  apply cx_law15_FactorLess
  unfold VC_law15_FactorLess
  refine call_bool (cx_awake15 m) fun m1 hm1 => br_f rfl ?_
  refine call_any (cx_law_made l a c m1 (hl.mono hm1) hc) tree_fits (tree_k fun t m2 hm2 hr ho => ?_)
  intro b
  refine ⟨_, trivial, cx_FactorOk t m2 hr ho, treeE_fits, ?_⟩
  rintro n1 n2 n3 n4 n5 n6 n7 fa nf fc n8 m3 hm3 ⟨f, hv, hfr, hfe, hfc⟩
  simp only [T.v, Value.tuple.injEq, Value.agg.injEq, Array.mk.injEq, List.cons.injEq, Value.int.injEq, Value.slice.injEq, true_and, and_true] at hv
  obtain ⟨⟨rfl, rfl, rfl, rfl, rfl, rfl, rfl, rfl, rfl, rfl⟩, rfl⟩ := hv
  intro b1
  have hpos := ok_pos ho
  have hz := (fits_iff ho.fits).2.2
  have hmade := factorE_made _ t (Nat.le_refl _) ho.good (by omega)
  have hfz : f.nodes.length = (factorE t).1.nodes.length := by rw [← sz_er f, hfe]
  have hfl : f.nodes.length ≤ t.nodes.length := by
    rcases hmade.less with h | h
    · omega
    · rw [hfz, h, sz_er]; exact Nat.le_refl _
  have hfg : f.good = true := by rw [← good_er, hfe]; exact hmade.good
  have hfcl : f.clean = true := good_clean hfg (by omega)
  have hgr : f.groups = t.groups := by
    rw [groups_gr (by omega), groups_gr (by omega), ← gr_er f, hfe, hmade.gr]
  have hps : f.positions ≤ t.positions := by
    rw [positions_pos (by omega), positions_pos (by omega), ← pos_er f, hfe]
    exact hmade.pos
  have hr3 := hr.mono hm3
  have hsame : f.size < t.size ∨ (f.light && (t.light && f.same t)) = true := by
    rcases hmade.less with h | h
    · left; rw [size_nodes (by omega), size_nodes (by omega)]; omega
    · right
      rw [sz_small (by omega), sz_small (by omega), same_of_er (by rw [hfe, h])]; rfl
  refine ⟨false, ⟨fun i _ _ => if i = 4 then Ret (.bool f.clean) else if i = 9 then Ret (.int .i64 f.groups) else if i = 11 then Ret (.int .i64 t.groups) else if i = 16 then Ret (.int .i64 f.positions) else Ret (.int .i64 t.positions), br_f rfl ?_⟩, br_f rfl ⟨true, ⟨fun i _ _ => if i = 1 then Ret (.int .i64 f.size) else if i = 3 then Ret (.int .i64 t.size) else Ret (.bool (f.light && (t.light && f.same t))), ?_⟩, ?_⟩⟩
  · refine ⟨_, rfl, cx_Clean f m3 hfr, (fun v _ _ e => by rw [e]; rfl), ?_⟩
    rintro x1 m4 hm4 hx1
    obtain rfl : x1 = f.clean := by simpa [Ret] using hx1
    rw [hfcl]
    refine br_f rfl ⟨_, rfl, cx_Groups f m4 (hfr.mono hm4), (fun v _ _ e => by rw [e]; rfl), ?_⟩
    rintro x2 m5 hm5 hx2
    obtain rfl : x2 = f.groups := by simpa [Ret] using hx2
    refine ⟨_, rfl, cx_Groups t m5 (hr3.mono (Mem.le_trans hm4 hm5)), (fun v _ _ e => by rw [e]; rfl), ?_⟩
    rintro x3 m6 hm6 hx3
    obtain rfl : x3 = t.groups := by simpa [Ret] using hx3
    have hm36 := Mem.le_trans hm4 (Mem.le_trans hm5 hm6)
    rw [hgr]
    refine br_f (by simp) ⟨_, rfl, cx_Positions f m6 (hfr.mono hm36), (fun v _ _ e => by rw [e]; rfl), ?_⟩
    rintro x4 m7 hm7 hx4
    obtain rfl : x4 = f.positions := by simpa [Ret] using hx4
    refine ⟨_, rfl, cx_Positions t m7 (hr3.mono (Mem.le_trans hm36 hm7)), (fun v _ _ e => by rw [e]; rfl), ?_⟩
    rintro x5 m8 hm8 hx5
    obtain rfl : x5 = t.positions := by simpa [Ret] using hx5
    intro M _ _ _ _ _ _
    exact ⟨by trivial, one_bool (decide_eq_false (by omega))⟩
  · refine ⟨_, rfl, cx_Size f m3 hfr, (fun v _ _ e => by rw [e]; rfl), ?_⟩
    rintro x1 m4 hm4 hx1
    obtain rfl : x1 = f.size := by simpa [Ret] using hx1
    refine ⟨_, rfl, cx_Size t m4 (hr3.mono hm4), (fun v _ _ e => by rw [e]; rfl), ?_⟩
    rintro x2 m5 hm5 hx2
    obtain rfl : x2 = t.size := by simpa [Ret] using hx2
    have hm35 := Mem.le_trans hm4 hm5
    refine br_intro (fun h => ?_) (fun h => ?_)
    · intro M _ _ _ _; exact ⟨by trivial, rfl⟩
    · refine ⟨_, rfl, cx_Same f t m5 (hfr.mono hm35) (hr3.mono hm35), (fun v _ _ e => by rw [e]; rfl), ?_⟩
      rintro x3 m6 hm6 hx3 M _ _ _ _
      obtain rfl : x3 = (f.light && (t.light && f.same t)) := by simpa [Ret] using hx3
      rcases hsame with hs | hs
      · exact absurd hs (of_decide_eq_false h)
      · rw [hs]; exact ⟨by trivial, rfl⟩
  · exact ret_pure (Mem.le_trans hm1 (Mem.le_trans hm2 hm3)) rfl
end Go.Proofs.Ytmggihkjgbnhbaa

