/- Part of the proof: conditions and contracts of functions of this program. No condition of its own. -/
import Derived.Test.YtplacemlpkhmfaaPC17Q
import Derived.Test.YtplacemlpkhmfaaPC13H
set_option linter.unusedVariables false
set_option linter.unusedSimpArgs false
namespace Go.Proofs.Ytplacemlpkhmfaa
open Go Go.Eng Go.Rx Go.Proofs Go.RowKit
set_option maxRecDepth 100000
theorem cx_awake17 (m : Mem) : CX Try.prog 12 #[] m [] (Ret (.bool true)) := by
 apply cx_law17_awake
 unfold VC_law17_awake
 refine call_any (cx_lbyte 97 (by omega) m) letter_fits (letter_k fun m1 hm1 => ?_)
 refine call_any (cx_lbyte 98 (by omega) m1) letter_fits (letter_k fun m2 hm2 => ?_)
 intro b hfb b1
 refine ⟨fun _ _ _ => Ret (letterT 99).v, _, rfl, cx_lbyte 99 (by omega) _, letter_fits, letter_k fun m3 hm3 b2 hfb2 b3 hfb3 b4 M hM1 hM2 hM3 hM4 => ?_⟩
 have hcat : ∀ M' : Mem, M.le M' → Rep M' (catT (some ⟨b, 0, none⟩) 2) := fun M' h =>
  rep_node_mk (repL_of_add (l := [letterT 97, letterT 98]) (Mem.le_trans hM1 h) (by intro x hx; simp at hx; rcases hx with rfl | rfl <;> exact rep_letter _ _) (by simp)) (by omega) (by omega) (by omega)
 have halt : Rep M (nodeT 4 0 0 (some ⟨b2, 0, none⟩) 2 [catT (some ⟨b, 0, none⟩) 2, letterT 99]) :=
  rep_node_mk (repL_of_add (l := [catT (some ⟨b, 0, none⟩) 2, letterT 99]) hM3 (by intro x hx; simp at hx; rcases hx with rfl | rfl; exact hcat M (Mem.le_refl _); exact rep_letter _ _) (by simp)) (by omega) (by omega) (by omega)
 have hstar : Rep M (starT (some ⟨b3, 0, none⟩) (some ⟨b2, 0, none⟩) (some ⟨b, 0, none⟩) 1 2 2) :=
  rep_node_mk (repL_of_add (l := [nodeT 4 0 0 (some ⟨b2, 0, none⟩) 2 [catT (some ⟨b, 0, none⟩) 2, letterT 99]]) hM4 (by intro x hx; simp at hx; subst hx; exact halt) (by simp)) (by omega) (by omega) (by omega)
 have hof := cx_Of _ M hstar
 rw [(star_of _ _ _ _ _ _).1, (star_of _ _ _ _ _ _).2] at hof
 refine call_any hof nfE_fits (nfE_k fun sa fa xa ya sc fc xc yc m4 hm4 hA b6 => ?_)
 refine call_any (cx_lone 97 (by omega) m4) one_fits (one_k fun m5 hm5 => ?_)
 refine call_any (cx_lone 98 (by omega) m5) one_fits (one_k fun m6 hm6 => ?_)
 refine call_any (cx_lone 99 (by omega) m6) one_fits (one_k fun m7 hm7 => ?_)
 intro b7 hf7 b8 hf8 b9 hf9 b10 hf10 b11 hf11 b12 hf12 b13 hf13 b14
 have g7 := Mem.le_add hf7 (setCs [q1 97, q1 98, q1 99])
 have g8 := Mem.le_add hf8 (intVs [0, 2])
 have g9 := Mem.le_add hf9 (intVs [1, 2])
 have g10 := Mem.le_add hf10 (intVs [1])
 have g11 := Mem.le_add hf11 (intVs [0, 2])
 have g12 := Mem.le_add hf12 (intVs [0, 2])
 have g13 := Mem.le_add hf13 [Value.slice (some ⟨b10, 0, none⟩) 1 1, Value.slice (some ⟨b11, 0, none⟩) 2 2, Value.slice (some ⟨b12, 0, none⟩) 2 2]
 have hk : m7.le _ := Mem.le_trans g7 (Mem.le_trans g8 (Mem.le_trans g9 (Mem.le_trans g10 (Mem.le_trans g11 (Mem.le_trans g12 g13)))))
 have hwant : NfR false nfS (.agg #[.slice (some ⟨b7, 0, none⟩) 3 3, .slice (some ⟨b13, 0, none⟩) 3 3, .slice (some ⟨b8, 0, none⟩) 2 2, .slice (some ⟨b9, 0, none⟩) 2 2, .bool true]) _ :=
  ⟨_, _, _, _, rfl, ⟨_, 3, rfl, row_of_add (cs := setCs [q1 97, q1 98, q1 99]) (Mem.le_trans g8 (Mem.le_trans g9 (Mem.le_trans g10 (Mem.le_trans g11 (Mem.le_trans g12 g13))))), by decide, fun h => by cases h⟩,
   folR_lit (fol := [[1], [0, 2], [0, 2]]) (row_of_add (Mem.le_refl _)) rfl (by decide) (fun i v l hv hl => by
    match i with
    | 0 => simp at hv hl; subst hv hl; exact sli_lit (l := [1]) (row_of_add (cs := intVs [1]) (Mem.le_trans g11 (Mem.le_trans g12 g13))) (by decide)
    | 1 => simp at hv hl; subst hv hl; exact sli_lit (l := [0, 2]) (row_of_add (cs := intVs [0, 2]) (Mem.le_trans g12 g13)) (by decide)
    | 2 => simp at hv hl; subst hv hl; exact sli_lit (l := [0, 2]) (row_of_add (cs := intVs [0, 2]) g13) (by decide)
    | i + 3 => simp at hv),
   sli_lit (l := [0, 2]) (row_of_add (cs := intVs [0, 2]) (Mem.le_trans g9 (Mem.le_trans g10 (Mem.le_trans g11 (Mem.le_trans g12 g13))))) (by decide),
   sli_lit (l := [1, 2]) (row_of_add (cs := intVs [1, 2]) (Mem.le_trans g10 (Mem.le_trans g11 (Mem.le_trans g12 g13)))) (by decide)⟩
 refine call_any (cx_lbyte 97 (by omega) _) letter_fits (letter_k fun m8 hm8 b15 hf15 => ?_)
 have g15 := Mem.le_add hf15 (Rx.cellsL [letterT 97])
 have hfew : Rep (m8.add b15 (Rx.cellsL [letterT 97])) (timesT 2 3 (some ⟨b15, 0, none⟩) 1) := rep_node_mk (repL_of_add (l := [letterT 97]) (Mem.le_refl _) (by intro x hx; simp at hx; subst hx; exact rep_letter _ _) (by simp)) (by omega) (by omega) (by omega)
 have hof2 := cx_Of _ _ hfew
 rw [(few_of _ _).1, (few_of _ _).2] at hof2
 refine call_any hof2 nfE_fits (nfE_k fun sa2 fa2 xa2 ya2 sc2 fc2 xc2 yc2 m9 hm9 hF b17 => ?_)
 refine call_any (cx_lbyte 97 (by omega) _) letter_fits (letter_k fun m10 hm10 b18 hf18 => ?_)
 have g18 := Mem.le_add hf18 (Rx.cellsL [letterT 97])
 have hmany : Rep (m10.add b18 (Rx.cellsL [letterT 97])) (timesT 2 (-1) (some ⟨b18, 0, none⟩) 1) := rep_node_mk (repL_of_add (l := [letterT 97]) (Mem.le_refl _) (by intro x hx; simp at hx; subst hx; exact rep_letter _ _) (by simp)) (by omega) (by omega) (by omega)
 have hof3 := cx_Of _ _ hmany
 rw [(many_of _ _).1, (many_of _ _).2] at hof3
 refine call_any hof3 nfE_fits (nfE_k fun sa3 fa3 xa3 ya3 sc3 fc3 xc3 yc3 m11 hm11 hMn b20 => ?_)
 refine call_any (cx_lone 97 (by omega) m11) one_fits (one_k fun m12 hm12 b21 => br_false rfl ?_)
 have hm8' : m7.le m8 := Mem.le_trans hk hm8
 have hm12' : m8.le m12 := Mem.le_trans g15 (Mem.le_trans hm9 (Mem.le_trans hm10 (Mem.le_trans g18 (Mem.le_trans hm11 hm12))))
 have h4_12 : m4.le m12 := Mem.le_trans hm5 (Mem.le_trans hm6 (Mem.le_trans hm7 (Mem.le_trans hm8' hm12')))
 refine call_bool (cx_SameN nfS nfS _ _ m12 (hA.mono h4_12) (hwant.mono (Mem.le_trans hm8 hm12'))) fun m13 hm13 => br_false (by decide) ?_
 intro b23 hf23 b24 hf24 b25 hf25 b26 hf26 b27 hf27 b28 hf28
 have k23 := Mem.le_add hf23 (setCs [q1 97, q1 97, q1 97])
 have k24 := Mem.le_add hf24 (intVs [0])
 have k25 := Mem.le_add hf25 (intVs [1, 2])
 have k26 := Mem.le_add hf26 (intVs [1])
 have k27 := Mem.le_add hf27 (intVs [2])
 have k28 := Mem.le_add hf28 [Value.slice (some ⟨b26, 0, none⟩) 1 1, Value.slice (some ⟨b27, 0, none⟩) 1 1, Value.slice none 0 0]
 have hkk : m13.le _ := Mem.le_trans k23 (Mem.le_trans k24 (Mem.le_trans k25 (Mem.le_trans k26 (Mem.le_trans k27 k28))))
 have hwantF : NfR false nfF (.agg #[.slice (some ⟨b23, 0, none⟩) 3 3, .slice (some ⟨b28, 0, none⟩) 3 3, .slice (some ⟨b24, 0, none⟩) 1 1, .slice (some ⟨b25, 0, none⟩) 2 2, .bool false]) _ :=
  ⟨_, _, _, _, rfl, ⟨_, 3, rfl, row_of_add (cs := setCs [q1 97, q1 97, q1 97]) (Mem.le_trans k24 (Mem.le_trans k25 (Mem.le_trans k26 (Mem.le_trans k27 k28)))), by decide, fun h => by cases h⟩,
   folR_lit (fol := [[1], [2], []]) (row_of_add (Mem.le_refl _)) rfl (by decide) (fun i v l hv hl => by
    match i with
    | 0 => simp at hv hl; subst hv hl; exact sli_lit (l := [1]) (row_of_add (cs := intVs [1]) (Mem.le_trans k27 k28)) (by decide)
    | 1 => simp at hv hl; subst hv hl; exact sli_lit (l := [2]) (row_of_add (cs := intVs [2]) k28) (by decide)
    | 2 => simp at hv hl; subst hv hl; exact sli_lit (l := []) (.inl rfl) (by decide)
    | i + 3 => simp at hv),
   sli_lit (l := [0]) (row_of_add (cs := intVs [0]) (Mem.le_trans k25 (Mem.le_trans k26 (Mem.le_trans k27 k28)))) (by decide),
   sli_lit (l := [1, 2]) (row_of_add (cs := intVs [1, 2]) (Mem.le_trans k26 (Mem.le_trans k27 k28))) (by decide)⟩
 have h9_13 : m9.le m13 := Mem.le_trans hm10 (Mem.le_trans g18 (Mem.le_trans hm11 (Mem.le_trans hm12 hm13)))
 refine call_bool (cx_SameN nfF nfF _ _ _ ((hF.mono h9_13).mono hkk) hwantF) fun m14 hm14 => br_false (by decide) ?_
 intro b30 hf30 b31 hf31 b32 hf32 b33 hf33 b34 hf34 b35 hf35
 have l30 := Mem.le_add hf30 (setCs [q1 97, q1 97])
 have l31 := Mem.le_add hf31 (intVs [0])
 have l32 := Mem.le_add hf32 (intVs [1])
 have l33 := Mem.le_add hf33 (intVs [1])
 have l34 := Mem.le_add hf34 (intVs [1])
 have l35 := Mem.le_add hf35 [Value.slice (some ⟨b33, 0, none⟩) 1 1, Value.slice (some ⟨b34, 0, none⟩) 1 1]
 have hll : m14.le _ := Mem.le_trans l30 (Mem.le_trans l31 (Mem.le_trans l32 (Mem.le_trans l33 (Mem.le_trans l34 l35))))
 have hwantM : NfR false nfM (.agg #[.slice (some ⟨b30, 0, none⟩) 2 2, .slice (some ⟨b35, 0, none⟩) 2 2, .slice (some ⟨b31, 0, none⟩) 1 1, .slice (some ⟨b32, 0, none⟩) 1 1, .bool false]) _ :=
  ⟨_, _, _, _, rfl, ⟨_, 2, rfl, row_of_add (cs := setCs [q1 97, q1 97]) (Mem.le_trans l31 (Mem.le_trans l32 (Mem.le_trans l33 (Mem.le_trans l34 l35)))), by decide, fun h => by cases h⟩,
   folR_lit (fol := [[1], [1]]) (row_of_add (Mem.le_refl _)) rfl (by decide) (fun i v l hv hl => by
    match i with
    | 0 => simp at hv hl; subst hv hl; exact sli_lit (l := [1]) (row_of_add (cs := intVs [1]) (Mem.le_trans l34 l35)) (by decide)
    | 1 => simp at hv hl; subst hv hl; exact sli_lit (l := [1]) (row_of_add (cs := intVs [1]) l35) (by decide)
    | i + 2 => simp at hv),
   sli_lit (l := [0]) (row_of_add (cs := intVs [0]) (Mem.le_trans l32 (Mem.le_trans l33 (Mem.le_trans l34 l35)))) (by decide),
   sli_lit (l := [1]) (row_of_add (cs := intVs [1]) (Mem.le_trans l33 (Mem.le_trans l34 l35))) (by decide)⟩
 have h11_14 : m11.le m14 := Mem.le_trans hm12 (Mem.le_trans hm13 (Mem.le_trans hkk hm14))
 refine call_bool (cx_SameN nfM nfM _ _ _ ((hMn.mono h11_14).mono hll) hwantM) fun m15 hm15 => br_false (by decide) ?_
 have h4_15 : m4.le m15 := Mem.le_trans h4_12 (Mem.le_trans hm13 (Mem.le_trans hkk (Mem.le_trans hm14 (Mem.le_trans hll hm15))))
 have hqS : ∀ q ∈ nfS.sets, QOk q := by
  intro q hq
  simp only [nfS, List.mem_cons, List.not_mem_nil, or_false] at hq
  rcases hq with rfl | rfl | rfl <;> exact q1_ok (by omega)
 have hqC : ∀ q ∈ nfC.sets, QOk q := by
  intro q hq
  simp only [nfC, List.mem_cons, List.not_mem_nil, or_false] at hq
  rcases hq with rfl | rfl <;> exact q1_ok (by omega)
 intro b37 hf37
 have j37 := Mem.le_add hf37 (intVs [-1])
 have hs1 := cx_Step nfS hqS _ [-1] (some ⟨b37, 0, none⟩) 1 97 (by omega) _ ((hA.mono h4_15).mono j37) (row_of_add (cs := intVs [-1]) (Mem.le_refl _)) (by decide)
 rw [star_steps.1, if_pos rfl, star_steps.2.1] at hs1
 refine call_any hs1 (by rintro v m' css ⟨w, rfl, a, c, rfl, _⟩; rfl) ?_
 rintro a71 n70 c16 n71 m16 hm16 ⟨w, hv, a, c, rfl, hrow1, _⟩
 simp only [Value.tuple.injEq, Array.mk.injEq, List.cons.injEq, Value.slice.injEq, Value.int.injEq, true_and, and_true] at hv
 obtain ⟨⟨rfl, rfl, rfl⟩, rfl⟩ := hv
 intro b38 hf38
 have j38 := Mem.le_add hf38 (intVs [-1])
 have hs2 := cx_Step nfS hqS _ [-1] (some ⟨b38, 0, none⟩) 1 98 (by omega) _ ((hA.mono (Mem.le_trans h4_15 (Mem.le_trans j37 hm16))).mono j38) (row_of_add (cs := intVs [-1]) (Mem.le_refl _)) (by decide)
 rw [star_steps.1, if_pos rfl, star_steps.2.2] at hs2
 refine call_any hs2 (by rintro v m' css ⟨w, rfl, a, c, rfl, _⟩; rfl) ?_
 rintro a72 n72 c17 n73 m17 hm17 ⟨w, hv, a, c, rfl, hrow2, _⟩
 simp only [Value.tuple.injEq, Array.mk.injEq, List.cons.injEq, Value.slice.injEq, Value.int.injEq, true_and, and_true] at hv
 obtain ⟨⟨rfl, rfl, rfl⟩, rfl⟩ := hv
 have h15_17 : m15.le m17 := Mem.le_trans j37 (Mem.le_trans hm16 (Mem.le_trans j38 hm17))
 have hM17 : M.le m17 := Mem.le_trans hm4 (Mem.le_trans h4_15 h15_17)
 have hof4 := cx_Of _ _ (hcat m17 hM17)
 rw [(cat_of _ _).1, (cat_of _ _).2] at hof4
 refine call_any hof4 nfE_fits (nfE_k fun sa4 fa4 xa4 ya4 sc4 fc4 xc4 yc4 m18 hm18 hC b39 b40 hf40 => ?_)
 have j40 := Mem.le_add hf40 ([97, 98, 97, 98].map fun c : Nat => Value.int .u8 c)
 have hsea := cx_Search_ok nfC cat_runs.1 hqC _ [97, 98, 97, 98] (some ⟨b40, 0, none⟩) 4 _ (hC.mono j40) (byt_add _ (by decide))
 have hrunE : nfC.runE [97, 98, 97, 98].length = 0 := by kernel_rfl
 rw [hrunE, if_pos rfl, cat_runs.2.1] at hsea
 refine call_any hsea lstE_fits (lstE_k fun a82 c20 m19 hm19 hrow3 _ => ?_)
 refine call_any (cx_Turn_ok nfC _ m19 (hC.mono (Mem.le_trans j40 hm19)) cat_runs.1) nfE_fits (nfE_k fun sa5 fa5 xa5 ya5 sc5 fc5 xc5 yc5 m20 hm20 hT b41 b42 hf42 => ?_)
 have j42 := Mem.le_add hf42 ([98, 97].map fun c : Nat => Value.int .u8 c)
 have hma := cx_MatchesN nfC.turn hqC _ [98, 97] (some ⟨b42, 0, none⟩) 2 _ (hT.mono j42) (byt_add _ (by decide)) (by decide)
 rw [cat_runs.2.2.1, cat_runs.2.2.2, if_pos rfl] at hma
 refine call_any hma (by rintro v m' css rfl; rfl) ?_
 rintro bb n85 m21 hm21 hv
 simp only [Ret, Value.tuple.injEq, Array.mk.injEq, List.cons.injEq, Value.bool.injEq, Value.int.injEq, true_and, and_true] at hv
 obtain ⟨rfl, rfl⟩ := hv
 have h16_21 : m16.le m21 := Mem.le_trans j38 (Mem.le_trans hm17 (Mem.le_trans hm18 (Mem.le_trans j40 (Mem.le_trans hm19 (Mem.le_trans hm20 (Mem.le_trans j42 hm21))))))
 have h19_21 : m19.le m21 := Mem.le_trans hm20 (Mem.le_trans j42 hm21)
 have h0_1 : m.le M := Mem.le_trans hm1 (Mem.le_trans hm2 (Mem.le_trans (Mem.le_add hfb _) hM1))
 have h0_21 : m.le m21 := Mem.le_trans h0_1 (Mem.le_trans hM17 (Mem.le_trans hm18 (Mem.le_trans j40 (Mem.le_trans hm19 h19_21))))
 refine br_true rfl fun b43 hf43 => ?_
 have j43 := Mem.le_add hf43 (intVs [0])
 refine call_bool (cx_EqI [0] [0] a71 (some ⟨b43, 0, none⟩) c16 1 _ ((hrow1.mono h16_21).mono j43) (row_of_add (cs := intVs [0]) (Mem.le_refl _)) (by decide)) fun m22 hm22 => br_true (by decide) (br_true rfl fun b45 hf45 => ?_)
 have j45 := Mem.le_add hf45 (intVs [2, 4])
 refine call_bool (cx_EqI [2, 4] [2, 4] a82 (some ⟨b45, 0, none⟩) c20 2 _ ((hrow3.mono (Mem.le_trans h19_21 (Mem.le_trans j43 hm22))).mono j45) (row_of_add (cs := intVs [2, 4]) (Mem.le_refl _)) (by decide)) fun m23 hm23 => br_true (by decide) ?_
 exact ret_pure (Mem.le_trans h0_21 (Mem.le_trans j43 (Mem.le_trans hm22 (Mem.le_trans j45 hm23)))) rfl
end Go.Proofs.Ytplacemlpkhmfaa

