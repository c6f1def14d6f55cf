/- Part of the proof: conditions and contracts of functions of this program. No condition of its own. -/
import Derived.Test.YtplacemlpkhmfaaPVNT
import Derived.Test.YtplacemlpkhmfaaPC17P
import Derived.Test.YtplacemlpkhmfaaPC17R
import Derived.Test.YtplacemlpkhmfaaPC13J
import Derived.Test.YtplacemlpkhmfaaMr
set_option linter.unusedVariables false
set_option linter.unusedSimpArgs false
namespace Go.Proofs.Ytplacemlpkhmfaa
open Go Go.Eng Go.Rx Go.Proofs Go.RowKit
set_option maxRecDepth 100000
theorem live_turn {A : Nf} (hA : A.Ok) : liveL A.turn = liveL A := by
 unfold liveL
 rw [turn_turn hA]
 congr 1
 apply List.filter_congr
 intro i _
 rw [Bool.eq_iff_iff]
 simp only [decide_eq_true_eq]
 exact And.comm
theorem byt_take {m : Mem} {a : Option Addr} {s : List Nat} (h : Byt m a s) (k : Nat) : Byt m a (s.take k) := by
 refine ⟨?_, fun c hc => h.2 c (List.mem_of_mem_take hc)⟩
 rcases h.1 with h1 | ⟨b, o, h1, h2⟩
 ·left; rw [h1]; simp
 ·exact .inr ⟨b, o, h1, fun j v hj => h2 j v (by
   rw [List.map_take, List.getElem?_take] at hj
   split at hj
   ·exact hj
   ·cases hj)⟩
theorem cx_Turns (l : List (Nat × Nat × Nat)) (a : Option Addr) (c : Nat) (s : List Nat) (sa : Option Addr) (sc : Nat) (m : Mem) (hl : Sm m a l) (hc : l.length ≤ c) (hs : Byt m sa s) (hsc : s.length ≤ sc) : CX Try.prog 5 #[.slice a l.length c, .slice sa s.length sc] m [] (Ret (.bool true)) := by
 apply cx_law17_NfaTurns
 unfold VC_law17_NfaTurns
 refine call_bool (cx_awake17 m) fun m1 hm1 => br_false rfl ?_
 refine call_any (cx_Made l a c m1 (hl.mono hm1) hc) tree_fits (tree_k fun t m2 hm2 hr ht => ?_)
 have hof := cx_Of t m2 hr
 rw [(ofN_check ht).1, (ofN_check ht).2] at hof
 have hfit := (nfit_check ht).1
 have hA := auto_ok hfit
 have hAr := auto_right hfit
 have hq := auto_q hr
 generalize hAA : t.auto = A at *
 refine call_any hof nfE_fits (nfE_k fun a1 a2 a3 a4 c1 c2 c3 c4 m3 hm3 hN b1 => ?_)
 refine call_any (cx_Turn_ok A _ m3 hN hAr) nfE_fits (nfE_k fun a5 a6 a7 a8 c5 c6 c7 c8 m4 hm4 hT b3 => ?_)
 have hTr := right_ok.2 (turn_ok hA)
 refine call_any (cx_Turn_ok A.turn _ m4 hT hTr) nfE_fits (nfE_k fun a9 a10 a11 a12 c9 c10 c11 c12 m5 hm5 hTT b5 => ?_)
 have hm : (if (60 : Int) < (s.length : Int) then (60 : Int) else (s.length : Int)) = ((s.take 60).length : Nat) := by
  rw [List.length_take]; split <;> omega
 have hsb : slBase sa 0 sc 1 = sa := rfl
 simp only [hm, hsb, Int.toNat_natCast, Nat.sub_zero]
 have hlen60 : (s.take 60).length ≤ 60 := by rw [List.length_take]; omega
 have h15 := Mem.le_trans hm1 (Mem.le_trans hm2 (Mem.le_trans hm3 (Mem.le_trans hm4 hm5)))
 have hbyt := (byt_take hs 60).mono h15
 generalize hbb : s.take 60 = bs at *
 refine ⟨⟨by omega, by rw [← hbb, List.length_take]; omega⟩, _, cxt_CloneB bs sa sc m5 hbyt (by omega), (by rintro v m' css ⟨a, c, rfl, _⟩; rfl), ?_⟩
 rintro a20 n22 c20 m6 hm6 ⟨a', c', hv, hby, hfree⟩
 simp only [Value.slice.injEq] at hv
 obtain ⟨rfl, rfl, rfl⟩ := hv
 have hma := cx_MatchesN A hq _ bs a20 c20 m6 (hN.mono (Mem.le_trans hm4 (Mem.le_trans hm5 hm6))) hby (by omega)
 rw [hAr, if_pos rfl, Bool.true_and] at hma
 refine call_any hma (by rintro v m' css rfl; rfl) ?_
 rintro b6 n23 m7 hm7 hv
 simp only [Ret, Value.tuple.injEq, Array.mk.injEq, List.cons.injEq, Value.bool.injEq, Value.int.injEq, true_and, and_true] at hv
 obtain ⟨rfl, rfl⟩ := hv
 have hrow : rowRd m7 a20 (byVs bs) := by
  rcases (hby.mono hm7).1 with h1 | h1
  ·exact .inl (by rw [h1]; rfl)
  ·exact .inr h1
 refine lentC1 (cxy_Reverse bs a20 c20 m7 hrow (by omega)) (by rintro v m' css tvs ⟨rfl, _⟩; rfl) ?_
 rintro m8 hle8 _ aa nn cc ⟨_, _, htv, hrow8⟩
 have h58 : m5.le m8 := fun k o v hv => hle8 _ _ _ (by
  rw [Mem.off_at (fun hk => by
   have := hfree k hk o
   rw [hv] at this; cases this)]
  exact Mem.le_trans hm6 hm7 _ _ _ hv)
 have hby8 : Byt m8 a20 bs.reverse := by
  refine ⟨?_, fun c hc => hby.2 c (by simpa using hc)⟩
  rcases hrow8 with h1 | h1
  ·left
   have := congrArg List.length h1
   simp [byVs] at this
   simp [this]
  ·exact .inr h1
 have hqT : ∀ q ∈ A.turn.sets, QOk q := hq
 have hma2 := cx_MatchesN A.turn hqT _ bs.reverse a20 c20 m8 ((hT.mono hm5).mono h58) hby8 (by rw [List.length_reverse]; omega)
 rw [hTr, if_pos rfl, Bool.true_and, matches_turn hA, List.length_reverse] at hma2
 refine call_any hma2 (by rintro v m' css rfl; rfl) ?_
 rintro b7 n24 m9 hm9 hv
 simp only [Ret, Value.tuple.injEq, Array.mk.injEq, List.cons.injEq, Value.bool.injEq, Value.int.injEq, true_and, and_true] at hv
 obtain ⟨rfl, rfl⟩ := hv
 have h39 : m3.le m9 := Mem.le_trans hm4 (Mem.le_trans hm5 (Mem.le_trans h58 hm9))
 have h49 : m4.le m9 := Mem.le_trans hm5 (Mem.le_trans h58 hm9)
 refine call_any (cx_Live_ok A _ m9 (hN.mono h39) hAr) lstE_fits (lstE_k fun a29 c13 m10 hm10 hrow10 hl10 => ?_)
 have hlive2 := cx_Live_ok A.turn _ m10 (hT.mono (Mem.le_trans h49 hm10)) hTr
 rw [live_turn hA] at hlive2
 refine call_any hlive2 lstE_fits (lstE_k fun a32 c14 m11 hm11 hrow11 hl11 => ?_)
 have h911 := Mem.le_trans hm10 hm11
 have h5_11 : m5.le m11 := Mem.le_trans h58 (Mem.le_trans hm9 h911)
 refine ⟨true, br_true rfl ?_, ret_pure (Mem.le_trans h15 h5_11) rfl⟩
 refine call_bool (cx_Right A.turn _ m11 (hT.mono (Mem.le_trans h49 h911))) fun m12 hm12 => br_true hTr ?_
 have hTT' := (hTT.mono h5_11).mono hm12
 have hN' := (hN.mono (Mem.le_trans h39 h911)).mono hm12
 refine call_bool (cx_SameN A.turn.turn A _ _ m12 hTT' hN') fun m13 hm13 => br_true (by rw [turn_turn hA]; simp) (br_true (by simp) ?_)
 refine call_bool (cx_EqI (liveL A) (liveL A) a29 a32 c13 c14 m13 (hrow10.mono (Mem.le_trans hm11 (Mem.le_trans hm12 hm13))) (hrow11.mono (Mem.le_trans hm12 hm13)) hl10) fun m14 hm14 => ?_
 first | exact ⟨rfl, by simp⟩ | exact ⟨by trivial, by simp⟩
end Go.Proofs.Ytplacemlpkhmfaa

