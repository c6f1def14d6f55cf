/- Part of the proof: conditions and contracts of functions of this program. No condition of its own. -/
import Derived.Test.YtmggihkjgbnhbaaPC15U
import Derived.Test.YtmggihkjgbnhbaaPVLF
import Derived.Test.YtmggihkjgbnhbaaMr
/- Contract: FactorSteps. -/
set_option linter.unusedVariables false
set_option linter.unusedSimpArgs false
set_option linter.unusedSectionVars false
namespace Go.Proofs.Ytmggihkjgbnhbaa
open Go Go.Eng Go.Rx Go.Proofs Go.RowKit
set_option maxRecDepth 100000

theorem cx_FactorSteps (l : List Nat) (a : Option Addr) (c : Nat) (m : Mem) (hl : Byt m a l) (hc : l.length ≤ c) : CX Try.prog 5 #[.slice a l.length c] m [] (Ret (.bool true)) := by
  apply cx_law15_FactorSteps
  unfold VC_law15_FactorSteps
  refine call_bool (cx_awake15 m) fun m1 hm1 => br_f rfl ?_
  refine call_any (cx_law_made l a c m1 (hl.mono hm1) hc) tree_fits (tree_k fun t m2 hm2 hr ho => ?_)
  intro b
  have hrg := ok_rgt ho
  refine ⟨_, trivial, cx_FactorR t m2 hr hrg ho.caps, treeE_fits, ?_⟩
  rintro n1 n2 n3 n4 n5 n6 n7 fa nf fc n8 m3 hm3 ⟨f, hv, hfr, hfe, hfc⟩
  simp only [T.v, Value.tuple.injEq, Value.agg.injEq, Array.mk.injEq, List.cons.injEq, Value.int.injEq, Value.slice.injEq, true_and, and_true] at hv
  obtain ⟨⟨rfl, rfl, rfl, rfl, rfl, rfl, rfl, rfl, rfl, rfl⟩, rfl⟩ := hv
  intro b1
  have hr3 := hr.mono hm3
  refine ⟨_, trivial, cx_StepsOk t m3 hr3 hrg ho.caps, cutsE_fits, ?_⟩
  rintro sa sn sc n9 m4 hm4 ⟨sa', sc', hv, hrow⟩
  cases hv
  have hr4 := hr3.mono hm4
  have hz := (fits_iff ho.fits).2.2
  have hsz := factorE_sz _ t (Nat.le_refl _) ho.good
  have hless := steps_less ho.good
  have hfz : f.nodes.length = (factorE t).1.nodes.length := by rw [← sz_er f, hfe]
  have hfg : f.good = true := by rw [← good_er, hfe]; exact factorE_good _ t (Nat.le_refl _) ho.good
  have hfrg : T.rgt f = true := rgt_iff.2 ⟨hfg, by omega⟩
  have hm14 := Mem.le_trans hm1 (Mem.le_trans hm2 (Mem.le_trans hm3 hm4))
  refine ⟨false, br_f rfl ⟨_, trivial, cx_Size t m4 hr4, (fun v _ _ e => by rw [e]; rfl), ?_⟩, br_f rfl ?_⟩
  · rintro n m5 hm5 hn
    obtain rfl : n = t.size := by simpa [Ret] using hn
    exact ⟨by trivial, one_bool (decide_eq_false (by rw [size_nodes (by omega)]; omega))⟩
  refine ⟨fun xs css tvs m' q => ∃ (x : T) (i : Nat), i ≤ (factorE t).2.length ∧ xs = [.int .i64 i] ∧ css = [x.cs] ∧ Rep m' x ∧ x.caps ∧ x.good = true ∧ x.nodes.length ≤ 60 ∧ (factorE t).2.drop i = (factorE x).2 ∧ (factorE t).1 = (factorE x).1 ∧ q = (factorE t).2.length - i, ⟨_, t, 0, by omega, rfl, rfl, hr4, ho.caps, ho.good, hz, rfl, rfl, rfl⟩, ?_⟩
  rintro z cs m5 q hm5 ⟨x, i, hi, hxs, hcss, hxr, hxc, hxg, hxz, hxe, hxf, hq⟩
  obtain rfl : z = i := by simpa using hxs
  obtain rfl : cs = x.cs := by simpa using hcss
  have hxrg : T.rgt x = true := rgt_iff.2 ⟨hxg, by omega⟩
  refine br_intro (fun hlt => ?_) (fun hge => ?_)
  · have hlt' : i < (factorE t).2.length := by have := of_decide_eq_true hlt; omega
    obtain ⟨k, hk⟩ := at_some hlt'
    obtain ⟨b0, o0, ha0, hrd⟩ := row_getC (hrow.mono hm5) hk
    have hdr := List.drop_eq_getElem_cons hlt'
    rw [(List.getElem?_eq_some_iff.1 hk).2, hxe] at hdr
    obtain ⟨hgp, rfl, hnx, hnf⟩ := steps_cons hxg hdr
    rcases (bestE_ok x).or with ⟨h0, _⟩ | ⟨_, hmem, hgain, htree⟩
    · omega
    have hbn := bestE_next hxg hgp
    have hw : IntKind.i64.wrap ((i : Int) + 1) = ((i + 1 : Nat) : Int) := by rw [wrap64 (by omega) (by omega)]; rfl
    simp only [Int.toNat_natCast]
    refine ⟨b0, o0, ha0, ⟨by omega, by omega⟩, _, _, _, _, hrd, fun b4 => chk_intro rfl ⟨_, trivial, cx_BestOk x m5 hxr hxrg hxc, bestOk_fits, ?_⟩⟩
    rintro k1 k2 k3 k4 k5 b5 k6 m6 hm6 hv
    simp only [BestOk, C4.v, Value.tuple.injEq, Value.agg.injEq, Array.mk.injEq, List.cons.injEq, Value.int.injEq, Value.bool.injEq, true_and, and_true] at hv
    obtain ⟨⟨rfl, rfl, rfl, rfl⟩, rfl, rfl, rfl⟩ := hv
    intro b6
    refine ⟨_, trivial, cx_GainOk x (bestE x).c m6 (hxr.mono hm6) hxrg hxc hmem, gainOk_fits, ?_⟩
    rintro g e m7 hm7 hv
    simp only [GainOk, Value.tuple.injEq, Array.mk.injEq, List.cons.injEq, Value.int.injEq, true_and, and_true] at hv
    obtain ⟨rfl, rfl⟩ := hv
    have hm57 := Mem.le_trans hm6 hm7
    refine ⟨_, trivial, cx_MakeOk x (bestE x).c m7 (hxr.mono hm57) hxrg hxc hmem, treeE_fits, ?_⟩
    rintro n1 n2 n3 n4 n5 n6 n7 fa nf fc n8 m8 hm8 ⟨y, hv, hyr, hye, hyc⟩
    simp only [T.v, Value.tuple.injEq, Value.agg.injEq, Array.mk.injEq, List.cons.injEq, Value.int.injEq, Value.slice.injEq, true_and, and_true] at hv
    obtain ⟨⟨rfl, rfl, rfl, rfl, rfl, rfl, rfl, rfl, rfl, rfl⟩, rfl⟩ := hv
    have hye' : y.er = (bestE x).t := by rw [hye, htree]
    have hyz : y.nodes.length = (bestE x).t.nodes.length := by rw [← sz_er y, hye']
    have hyg : y.good = true := by rw [← good_er, hye']; exact hbn.1
    have hyf : factorE y = factorE (bestE x).t := factorE_er (by rw [hye', hbn.2.2.1])
    intro b7
    refine ⟨false, ⟨fun i _ _ => if i = 26 then Ret (.int .i64 x.size) else Ret (.int .i64 y.size), br_f rfl (br_f (by rw [decide_eq_true hgp]; rfl) ⟨_, eq_cut _ _ _ _ _ _ _ _, br_f (by simp) (br_f (by simp [hgain]) (br_f (decide_eq_false (by omega)) ⟨_, (if_pos rfl).symm, cx_Size x m8 (hxr.mono (Mem.le_trans hm57 hm8)), (fun v _ _ e => by rw [e]; rfl), ?_⟩))⟩)⟩, br_f rfl ?_⟩
    · rintro n m9 hm9 hn
      obtain rfl : n = x.size := by simpa [Ret] using hn
      refine ⟨_, (if_neg (by omega)).symm, cx_Size y m9 (hyr.mono hm9), (fun v _ _ e => by rw [e]; rfl), ?_⟩
      rintro n m10 hm10 hn
      obtain rfl : n = y.size := by simpa [Ret] using hn
      intro M _ _ _
      refine ⟨by trivial, one_bool ?_⟩
      rw [size_nodes (by omega), size_nodes (by omega), wrap64 (by omega) (by omega)]
      simp only [Bool.not_eq_false', beq_iff_eq]
      omega
    · refine ⟨by trivial, (factorE t).2.length - (i + 1), by omega, y, i + 1, by omega, by rw [hw], rfl, hyr, hyc, hyg, by omega, ?_, ?_, rfl⟩
      · rw [hyf, hnx]
      · rw [hyf, hxf, hnf]
  · have hii : i = (factorE t).2.length := by have := of_decide_eq_false hge; omega
    subst hii
    rw [List.drop_length] at hxe
    have hg0 := steps_nil hxg hxe.symm
    rcases (bestE_ok x).or with ⟨h0, hz0, _⟩ | ⟨h0, _⟩
    case inr => omega
    have hfx : f.er = x.er := by rw [hfe, hxf, factorE_stop hg0]
    have hff : factorE f = (x.er, []) := by rw [factorE_er hfx, factorE_stop hg0]
    have hfr5 := hfr.mono (Mem.le_trans hm4 hm5)
    refine ⟨_, trivial, cx_BestOk x m5 hxr hxrg hxc, bestOk_fits, ?_⟩
    rintro k1 k2 k3 k4 k5 b5 k6 m6 hm6 hv
    simp only [BestOk, h0, hz0, C4.zero, C4.v, Value.tuple.injEq, Value.agg.injEq, Array.mk.injEq, List.cons.injEq, Value.int.injEq, Value.bool.injEq, true_and, and_true] at hv
    obtain ⟨⟨rfl, rfl, rfl, rfl⟩, rfl, rfl, rfl⟩ := hv
    intro b6
    refine ⟨_, trivial, cx_FactorR f m6 (hfr5.mono hm6) hfrg hfc, treeE_fits, ?_⟩
    rintro n1 n2 n3 n4 n5 n6 n7 fa nf fc n8 m7 hm7 ⟨y, hv, hyr, hye, hyc⟩
    simp only [T.v, Value.tuple.injEq, Value.agg.injEq, Array.mk.injEq, List.cons.injEq, Value.int.injEq, Value.slice.injEq, true_and, and_true] at hv
    obtain ⟨⟨rfl, rfl, rfl, rfl, rfl, rfl, rfl, rfl, rfl, rfl⟩, rfl⟩ := hv
    intro b7
    refine ⟨_, trivial, cx_StepsOk f m7 (hfr5.mono (Mem.le_trans hm6 hm7)) hfrg hfc, cutsE_fits, ?_⟩
    rintro qa qn qc n9 m8 hm8 ⟨qa', qc', hv, hrow2⟩
    cases hv
    rw [hff] at hye hrow2 ⊢
    have hm58 := Mem.le_trans hm6 (Mem.le_trans hm7 hm8)
    have hyz : y.nodes.length = x.nodes.length := by rw [← sz_er y, hye, sz_er]
    refine ⟨true, br_t rfl (br_t rfl (br_t rfl ⟨_, eq_cut _ _ _ _ _ _ _ _, br_t rfl ⟨_, trivial, cx_Same x f m8 (hxr.mono hm58) (hfr5.mono hm58), (fun v _ _ e => by rw [e]; rfl), ?_⟩⟩)), m8, Mem.le_trans hm14 (Mem.le_trans hm5 hm58), Mem.le_refl _, rfl⟩
    rintro b8 m9 hm9 hb8
    obtain rfl : b8 = (x.light && (f.light && x.same f)) := by simpa [Ret] using hb8
    refine br_t (by rw [sz_small (by omega), sz_small (by omega), same_of_er hfx.symm]; rfl) ⟨_, trivial, cx_Same y f m9 (hyr.mono (Mem.le_trans hm8 hm9)) (hfr5.mono (Mem.le_trans hm58 hm9)), (fun v _ _ e => by rw [e]; rfl), ?_⟩
    rintro b9 m10 hm10 hb9
    obtain rfl : b9 = (y.light && (f.light && y.same f)) := by simpa [Ret] using hb9
    exact br_t (by rw [sz_small (by omega), sz_small (by omega), same_of_er (by rw [hye, hfx])]; rfl) ⟨by trivial, rfl⟩
end Go.Proofs.Ytmggihkjgbnhbaa

