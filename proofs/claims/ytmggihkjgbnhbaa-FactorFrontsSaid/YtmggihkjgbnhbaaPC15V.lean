/- Part of the proof: conditions and contracts of functions of this program. No condition of its own. -/
import Derived.Test.YtmggihkjgbnhbaaPC15X
set_option linter.unusedVariables false
set_option linter.unusedSimpArgs false
set_option linter.unusedSectionVars false
namespace Go.Proofs.Ytmggihkjgbnhbaa
open Go Go.Eng Go.Rx Go.Proofs Go.RowKit
set_option maxRecDepth 100000
abbrev TreeIs (u : T) := TreeR fun t => t.er = u ∧ t.caps
theorem cx_SeqG (L : List T) (a : Option Addr) (c : Nat) (m : Mem) (hL : RepL m a L) (hg : ∀ x ∈ L, x.good = true) (hs : szL L ≤ 200) (hn : L.length ≤ 10) : CX Try.prog 11 #[.slice a L.length c] m [] (TreeIs (catE (L.map T.er))) :=
 (cx_Seq L a c m hL (by omega) fun x hx => good_clean (hg x hx) (by have := szL_mem hx; omega)).mono fun v m' css _ ⟨t', h1, h2, a', c', h3⟩ => ⟨t', h1, h2, by rw [← catE_er]; exact seq_spec hg (by omega) h3, join_caps caps_T1 h3⟩
theorem cx_OrG (L : List T) (a : Option Addr) (c : Nat) (m : Mem) (hL : RepL m a L) (hg : ∀ x ∈ L, x.good = true) (hs : szL L ≤ 200) (hn : L.length ≤ 10) (hne : L ≠ []) : CX Try.prog 12 #[.slice a L.length c] m [] (TreeIs (altE (L.map T.er))) :=
 (cx_Or L a c m hL (by omega) fun x hx => good_clean (hg x hx) (by have := szL_mem hx; omega)).mono fun v m' css _ ⟨t', h1, h2, a', c', h3⟩ => ⟨t', h1, h2, by rw [← altE_er]; exact or_spec hg hne (by omega) h3, join_caps caps_T0 h3⟩
theorem szL_er : ∀ L : List T, szL (L.map T.er) = szL L
 | [] => rfl
 | t :: l => by rw [List.map_cons, szL_cons, szL_cons, sz_er, szL_er l]
theorem good_of {L : List T} {us : List T} (h : L.map T.er = us) (hu : ∀ u ∈ us, u.good = true) : ∀ x ∈ L, x.good = true := fun x hx => by
 rw [← good_er]
 exact hu _ (h ▸ List.mem_map.2 ⟨x, hx, rfl⟩)
set_option maxHeartbeats 3200000 in
theorem cx_FactorFronts (l1 l2 : List Nat) (a1 a2 : Option Addr) (c1 c2 : Nat) (m : Mem) (hl1 : Byt m a1 l1) (hc1 : l1.length ≤ c1) (hl2 : Byt m a2 l2) (hc2 : l2.length ≤ c2) :
  CX Try.prog 3 #[.slice a1 l1.length c1, .slice a2 l2.length c2] m [] (Ret (.bool true)) := by
 apply cx_law15_FactorFronts
 unfold VC_law15_FactorFronts
 refine call_bool (cx_awake15 m) fun m1 hm1 => br_f rfl ?_
 refine call_any (cx_word l1 a1 c1 m1 (hl1.mono hm1) hc1) byts_fits ?_
 rintro wa wn wc m2 hm2 ⟨wa', wc', hv, hbw⟩
 cases hv
 have hm12 := Mem.le_trans hm1 hm2
 obtain ⟨V, hV⟩ : ∃ V, V = (l1.take 8).map gB := ⟨_, rfl⟩
 rw [← hV] at hbw ⊢
 have hV8 : V.length ≤ 8 := by rw [hV, List.length_map, List.length_take]; omega
 have hVin : ∀ c ∈ V, 97 ≤ c ∧ c < 111 := fun c hc => by rw [hV] at hc; obtain ⟨y, _, rfl⟩ := List.mem_map.1 hc; exact gB_in y
 have hVb : bytesN (mkB V) = V := bytesN_mkB fun c hc => by have := hVin c hc; omega
 refine ⟨mkB V, by rw [← bytesN_len, hVb], by rw [strBytes_eq, hVb]; exact byt_row hbw, ?_⟩
 generalize hs2 : ByteArray.mk (Array.mk (List.append (strOf (Value.string (mkB V))).1.1 [(97 : UInt8), (98 : UInt8)])) = s2
 have hbs : bytesN s2 = V ++ [97, 98] := by
  rw [← hs2]
  show (List.append (mkB V).data.toList [(97 : UInt8), 98]).map _ = _
  rw [List.append_eq, List.map_append]
  exact congrArg (· ++ [97, 98]) hVb
 obtain ⟨W, hW⟩ : ∃ W, W = V ++ [97, 98] := ⟨_, rfl⟩
 rw [← hW] at hbs
 have hWl : 2 ≤ W.length ∧ W.length ≤ 10 := by rw [hW, List.length_append]; simp; omega
 have hWin : ∀ c ∈ W, c < 256 := fun c hc => by
  rw [hW] at hc
  rcases List.mem_append.1 hc with hc | hc
  ·have := hVin c hc; omega
  ·simp at hc; omega
 have hsz2 : s2.size = W.length := by rw [← bytesN_len, hbs]
 refine ⟨?_, ?_⟩
 ·have h63 : (2 : Int) ^ 63 = 9223372036854775808 := by decide
  have hb2 : (ByteArray.mk (Array.mk [(97 : UInt8), 98])).size = 2 := rfl
  have : (mkB V).size = V.length := by rw [← bytesN_len, hVb]
  rw [if_pos rfl, h63]
  omega
 have hmn := min_nat 4 l2.length
 simp only [show ((4 : Nat) : Int) = 4 from rfl] at hmn
 simp only [hmn, Int.toNat_natCast, Nat.sub_zero]
 have hk4 : min 4 l2.length ≤ 4 ∧ min 4 l2.length ≤ l2.length := ⟨Nat.min_le_left _ _, Nat.min_le_right _ _⟩
 generalize min 4 l2.length = K at *
 refine ⟨⟨by omega, by omega⟩, ⟨by omega, by omega⟩, fun b hf => ⟨.inr (by omega), ?_⟩⟩
 have hl2m := hl2.mono hm12
 have hK2 := byt_take hl2m K
 have hKl : (l2.take K).length = K := by rw [List.length_take]; omega
 refine ⟨(l2.take K).map fun c : Nat => Value.int .u8 c, [.int .u8 1, .int .u8 2], by rw [List.length_map, hKl, Nat.mul_one], rfl, (byt_row hK2).mono (Mem.le_add hf _), .inr ⟨b, 0, rfl, fun j v hj => by rw [Nat.zero_add, Mem.add_same]; exact hj⟩, fun u hu => by simp at hu; rcases hu with rfl | rfl <;> rfl, by omega, by omega, ?_⟩
 intro ba bc m3 hm3 hrowB
 obtain ⟨B, hB⟩ : ∃ B, B = l2.take K ++ [1, 2] := ⟨_, rfl⟩
 have hBl : B.length = K + 2 := by rw [hB, List.length_append, hKl]; rfl
 have hbB : Byt m3 ba B := row_byt (by rw [hB, List.map_append]; exact hrowB) (fun c hc => by
  rw [hB] at hc
  rcases List.mem_append.1 hc with hc | hc
  ·exact hK2.2 c hc
  ·simp at hc; omega)
 rw [← hBl]
 have hm23 : m2.le m3 := Mem.le_trans (Mem.le_add hf _) hm3
 have hPin := prs_in (B := B) (by omega)
 have hPl := prs_len B
 have hgood : ∀ p ∈ prs B, (frontT W p).good = true ∧ (backT p).good = true ∧ (cat3 (lets W)).good = true := fun p hp => by
  rcases front_good hWin (hPin p hp) with h | h
  ·exact h
  ·omega
 have htw : textE W = cat3 (lets W) := textE_two hWl.1
 have hszW : (cat3 (lets W)).nodes.length = 1 + W.length := by rw [sz_eq]; show 1 + szL (lets W) = _; rw [szL_lets]
 have mapG : ∀ k, ∀ u ∈ ((prs B).take k).map (frontT W), u.good = true := fun k u hu => by
  obtain ⟨p, hp, rfl⟩ := List.mem_map.1 hu
  exact (hgood p (List.mem_of_mem_take hp)).1
 have mapB : ∀ k, ∀ u ∈ ((prs B).take k).map backT, u.good = true := fun k u hu => by
  obtain ⟨p, hp, rfl⟩ := List.mem_map.1 hu
  exact (hgood p (List.mem_of_mem_take hp)).2.1
 refine ⟨fun xs css tvs m' q => ∃ (A R : List T) (aa ra : Option Addr) (ac rc : Nat), A.length ≤ B.length ∧ R.length = A.length ∧ xs = [.slice aa A.length ac, .slice ra R.length rc, .int .i64 (A.length : Nat)] ∧ tvs = [.slice aa A.length ac, .slice ra R.length rc] ∧
   RepL m' aa A ∧ RepL m' ra R ∧ A.map T.er = ((prs B).take A.length).map (frontT W) ∧ R.map T.er = ((prs B).take A.length).map backT ∧ q = B.length - A.length, ⟨_, [], [], _, _, _, _, by simp, rfl, rfl, rfl, ⟨by simp, .inl rfl⟩, ⟨by simp, .inl rfl⟩, rfl, rfl, rfl⟩, ?_⟩
 rintro xa xn xc ya yn yc z ta tn tc sa sn sc m4 q hm4 ⟨A, R, aa, ra, ac, rc, hA, hRA, hxs, htv, hLA, hLR, hAe, hRe, hq⟩
 simp only [List.cons.injEq, Value.slice.injEq, Value.int.injEq, true_and, and_true] at hxs htv
 obtain ⟨⟨rfl, rfl, rfl⟩, ⟨rfl, rfl, rfl⟩, rfl⟩ := hxs
 obtain ⟨⟨rfl, rfl, rfl⟩, rfl, rfl, rfl⟩ := htv
 refine br_intro (fun hlt => ?_) (fun hge => ?_)
 ·have hlt : A.length < B.length := by have := of_decide_eq_true hlt; omega
  obtain ⟨x, hx⟩ := at_some hlt
  obtain ⟨b0, o0, ha0, hrd⟩ := byt_get (hbB.mono hm4) hx
  have hx256 := hbB.2 x (List.mem_of_getElem? hx)
  have hpx := prs_at hx
  have hpm := List.mem_of_getElem? hpx
  have hpi := hPin _ hpm
  have hwi : IntKind.i64.wrap ((A.length : Int) + 1) = ((A.length + 1 : Nat) : Int) := by rw [wrap64 (by omega) (by omega)]; rfl
  have hwe := wrap_e ⟨A.length, by omega⟩
  have hwg := wrap_gB ⟨x, hx256⟩
  simp only at hwe hwg
  simp only [hwi, Int.toNat_natCast, Nat.mul_one]
  refine ⟨b0, o0, ha0, ⟨by omega, by omega⟩, _, hrd, chk_intro rfl ⟨by decide, fun b2 hf2 => ⟨mkB [101 + A.length, gB x], rfl, ?_, ?_⟩⟩⟩
  ·rw [strBytes_eq, bytesN_mkB (by intro c hc; simp at hc; unfold InR at hpi; omega), show intOf (.int .u8 (x : Nat)) = (x : Int) from rfl, hwe, hwg]; rfl
  have hbx : bytesN (mkB [101 + A.length, gB x]) = [101 + A.length, gB x] := bytesN_mkB (by intro c hc; simp at hc; unfold InR at hpi; omega)
  have htx := cx_Text (mkB [101 + A.length, gB x]) (by rw [hbx]; simp) (m4.add b2 [.int .u8 (IntKind.u8.wrap (101 + IntKind.u8.wrap (A.length : Int))), .int .u8 (IntKind.u8.wrap (97 + Int.tmod (intOf (.int .u8 (x : Nat))) 4))])
  rw [hbx] at htx
  refine call_any htx tree_fits (tree_k fun tx m5 hm5 hrx ⟨hxe, hxc⟩ => ?_)
  have hxe : tx.er = backT (101 + A.length, gB x) := hxe
  intro b3
  have hm45 : m4.le m5 := Mem.le_trans (Mem.le_add hf2 _) hm5
  have htw' := cx_Text s2 (by rw [hbs]; omega) m5
  rw [hbs, htw] at htw'
  refine ⟨fun i _ _ => if i = 2 then TreeIs (cat3 (lets W)) else TreeIs (frontT W (101 + A.length, gB x)), TreeIs (cat3 (lets W)), rfl, htw', tree_fits, tree_k fun tw m6 hm6 hrw ⟨hwe', hwc⟩ => ?_⟩
  intro b4 hf4
  have hL2 : RepL (m6.add b4 (Rx.cellsL [tw, tx])) (some ⟨b4, 0, none⟩) [tw, tx] := repL_add hf4 (fun t ht => by
   simp at ht; rcases ht with rfl | rfl
   ·exact hrw
   ·exact hrx.mono hm6) (by simp)
  have hg2 := hgood _ hpm
  have hsz2' : szL [tw, tx] ≤ 200 := by
   rw [← szL_er]
   show szL [tw.er, tx.er] ≤ 200
   rw [hwe', hxe, szL_cons, szL_cons, hszW, sz_back]
   show 1 + W.length + (3 + 0) ≤ 200
   omega
  have hsq := cx_SeqG [tw, tx] (some ⟨b4, 0, none⟩) 2 _ hL2 (good_of (us := [cat3 (lets W), backT (101 + A.length, gB x)]) (by simp [hwe', hxe]) (by intro u hu; simp at hu; rcases hu with rfl | rfl; exact hg2.2.2; exact hg2.2.1)) hsz2' (by simp)
  rw [show [tw, tx].map T.er = [cat3 (lets W), backT (101 + A.length, gB x)] by simp [hwe', hxe], cat_of_front] at hsq
  refine ⟨TreeIs (frontT W (101 + A.length, gB x)), rfl, hsq, tree_fits, tree_k fun tf m7 hm7 hrf ⟨hfe, hfc⟩ => ?_⟩
  have hm67 : m6.le m7 := Mem.le_trans (Mem.le_add hf4 _) hm7
  have hm47 : m4.le m7 := Mem.le_trans hm45 (Mem.le_trans hm6 hm67)
  intro b5 hf5
  have hle5 := Mem.le_add hf5 tf.cs
  refine ⟨.inl (by trivial), Rx.cellsL A, tf.cs, cellsL_len A, rfl, (row_of_repL hLA).mono (Mem.le_trans hm47 hle5), .inr ⟨b5, 0, rfl, fun j v hj => by rw [Nat.zero_add, Mem.add_same]; exact hj⟩, cs_one tf, by omega, by omega, fun aa' ac' m8 hm8 hrow8 => ?_⟩
  intro b6 hf6 V1 hV1 hV2 hV3
  refine ⟨.inl (by trivial), Rx.cellsL R, tx.cs, cellsL_len R, rfl, (row_of_repL hLR).mono (Mem.le_trans hm45 hV1), rowRd.mono (.inr ⟨b6, 0, rfl, fun j v hj => by rw [Nat.zero_add, Mem.add_same]; exact hj⟩) hV3, cs_one tx, by omega, by omega, fun ra' rc' m9 hm9 hrow9 => ?_⟩
  intro M hM1 hM2 hM3 hM4 hM5 hM6 hM7 hM8
  have hm4M : m4.le M := Mem.le_trans hm47 (Mem.le_trans (Mem.le_trans hle5 hm8) hM6)
  refine ⟨by trivial, by trivial, B.length - (A.length + 1), by omega, ?_⟩
  refine ⟨A ++ [tf], R ++ [tx], aa', ra', ac', rc', ?_, ?_, ?_, ?_, ?_, ?_, ?_, ?_, ?_⟩
  ·simp; omega
  ·simp [hRA]
  ·simp
  ·simp
  rotate_right
  ·simp
  ·refine repL_of ?_ ?_ (by rw [List.length_append]; simp; omega)
   ·rw [cellsL_append, cells_one]; exact hrow8.mono hM6
   ·intro t ht
    rcases List.mem_append.1 ht with ht | ht
    ·exact (repL_reps hLA t ht).mono hm4M
    ·rw [List.mem_singleton] at ht; subst ht; exact hrf.mono hM4
  ·refine repL_of ?_ ?_ (by rw [List.length_append]; simp; omega)
   ·rw [cellsL_append, cells_one]; exact hrow9.mono hM8
   ·intro t ht
    rcases List.mem_append.1 ht with ht | ht
    ·exact (repL_reps hLR t ht).mono hm4M
    ·rw [List.mem_singleton] at ht; subst ht; exact hrx.mono hM1
  ·rw [List.map_append, hAe, List.length_append, List.length_singleton, take_at hpx, List.map_append]
   simp [hfe]
  ·rw [List.map_append, hRe, List.length_append, List.length_singleton, take_at hpx, List.map_append]
   simp [hxe]
 have hAB : A.length = B.length := by have := of_decide_eq_false hge; omega
 rw [hAB, ← hPl, List.take_length] at hAe hRe
 have hP2 : 2 ≤ (prs B).length := by omega
 have hfa : ∀ z ∈ (prs B).map (frontT W), z.er = z := fun z hz => by obtain ⟨p, _, rfl⟩ := List.mem_map.1 hz; exact er_front W p
 have halt : altE (A.map T.er) = frontsT W (prs B) := by
  rw [hAe]
  exact altE_alt (by rw [List.length_map]; exact hP2) (fun z hz => by obtain ⟨p, _, rfl⟩ := List.mem_map.1 hz; exact ⟨show (3 : Int) ≠ 4 by omega, show (3 : Int) ≠ 0 by omega⟩) hfa
 have hralt : altE (R.map T.er) = alt4 ((prs B).map backT) := by
  rw [hRe]
  exact altE_alt (by rw [List.length_map]; exact hP2) (fun z hz => by obtain ⟨p, _, rfl⟩ := List.mem_map.1 hz; exact ⟨show (3 : Int) ≠ 4 by omega, show (3 : Int) ≠ 0 by omega⟩) (er_backs _)
 have hPk : (prs B).length ≤ 6 := by omega
 have hmul : (prs B).length * (W.length + 3) ≤ 6 * 13 := Nat.mul_le_mul hPk (by omega)
 have hAz : szL A ≤ 200 := by rw [← szL_er, hAe, szL_fronts]; omega
 have hRz : szL R ≤ 200 := by rw [← szL_er, hRe, szL_backs]; omega
 have hAg : ∀ x ∈ A, x.good = true := good_of hAe fun u hu => by obtain ⟨p, hp, rfl⟩ := List.mem_map.1 hu; exact (hgood p hp).1
 have hRg : ∀ x ∈ R, x.good = true := good_of hRe fun u hu => by obtain ⟨p, hp, rfl⟩ := List.mem_map.1 hu; exact (hgood p hp).2.1
 have hor := cx_OrG A ta tc m4 hLA hAg hAz (by omega) (by intro e; rw [e] at hAB; simp at hAB; omega)
 rw [halt] at hor
 refine call_any hor tree_fits (tree_k fun tn m5 hm5 hrn ⟨hne, hnc⟩ => ?_)
 intro b1
 have hnz : tn.nodes.length = 1 + (prs B).length * (W.length + 3) := by rw [← sz_er, hne, sz_fronts]
 have hng : (frontsT W (prs B)).good = true := by
  rw [← halt]
  exact (altE_made fun x hx => by obtain ⟨y, hy, rfl⟩ := List.mem_map.1 hx; rw [good_er]; exact hAg y hy).good
 have hng' : tn.good = true := by rw [← good_er, hne]; exact hng
 have hnr : T.rgt tn = true := rgt_iff.2 ⟨hng', by omega⟩
 have hfac := factor_fronts hWl.1 hPin (prs_nodup B) hP2 hng
 have hfe0 : (factorE tn).1 = factT W (prs B) := by rw [← hfac, factorE_er (show tn.er = (frontsT W (prs B)).er by rw [hne, er_fronts])]
 refine call_any (cx_FactorR tn m5 hrn hnr hnc) treeE_fits ?_
 rintro f1 f2 f3 f4 f5 f6 f7 fa fn fc e1 m6 hm6 ⟨tf, hv, hrf, hfe, hfc⟩
 simp only [T.v, Value.tuple.injEq, Value.agg.injEq, Array.mk.injEq, List.cons.injEq, Value.int.injEq, Value.slice.injEq, true_and, and_true] at hv
 obtain ⟨⟨rfl, rfl, rfl, rfl, rfl, rfl, rfl, rfl, rfl, rfl⟩, rfl⟩ := hv
 rw [hfe0] at hfe
 intro b2
 have htw' := cx_Text s2 (by rw [hbs]; omega) m6
 rw [hbs, htw] at htw'
 refine call_any htw' tree_fits (tree_k fun tw m7 hm7 hrw ⟨hwe, hwc⟩ => ?_)
 have hm47 : m4.le m7 := Mem.le_trans hm5 (Mem.le_trans hm6 hm7)
 have hor2 := cx_OrG R sa sc m7 (hLR.mono hm47) hRg hRz (by omega) (by intro e; rw [e] at hRA; simp at hRA; omega)
 rw [hralt] at hor2
 refine call_any hor2 tree_fits (tree_k fun tr m8 hm8 hrr ⟨hre, hrc⟩ => ?_)
 intro b3 hf3
 have hL2 : RepL (m8.add b3 (Rx.cellsL [tw, tr])) (some ⟨b3, 0, none⟩) [tw, tr] := repL_add hf3 (fun t ht => by
  simp at ht; rcases ht with rfl | rfl
  ·exact hrw.mono hm8
  ·exact hrr) (by simp)
 have hmap2 : [tw, tr].map T.er = [cat3 (lets W), alt4 ((prs B).map backT)] := by simp [hwe, hre]
 have hsz3 : szL [tw, tr] ≤ 200 := by
  rw [← szL_er, hmap2, szL_cons, szL_cons, hszW, sz_eq (alt4 _)]
  show 1 + W.length + (1 + szL ((prs B).map backT) + 0) ≤ 200
  rw [szL_backs]; omega
 have hWg : (cat3 (lets W)).good = true := by rw [← htw]; exact (textE_good hWin).1
 have hag : (alt4 ((prs B).map backT)).good = true := by
  rw [← hralt]
  exact (altE_made fun x hx => by obtain ⟨y, hy, rfl⟩ := List.mem_map.1 hx; rw [good_er]; exact hRg y hy).good
 have hg3 : ∀ x ∈ [tw, tr], x.good = true := good_of hmap2 (by intro u hu; simp at hu; rcases hu with rfl | rfl; exact hWg; exact hag)
 have hsq := cx_SeqG [tw, tr] (some ⟨b3, 0, none⟩) 2 _ hL2 hg3 hsz3 (by simp)
 rw [hmap2, cat_of_fact hWl.1] at hsq
 refine call_any hsq tree_fits (tree_k fun tq m9 hm9 hrq ⟨hqe, hqc⟩ => ?_)
 have hm89 : m8.le m9 := Mem.le_trans (Mem.le_add hf3 _) hm9
 intro b4
 have hqz : tq.nodes.length = W.length + 2 + 3 * (prs B).length := by rw [← sz_er, hqe, sz_fact]
 have hqg : tq.good = true := by
  rw [← good_er, hqe, ← cat_of_fact hWl.1]
  exact (catE_made (by intro u hu; simp at hu; rcases hu with rfl | rfl; exact hWg; exact hag)).good
 have hqr : T.rgt tq = true := rgt_iff.2 ⟨hqg, by omega⟩
 have hhd : (headT tq).map T.er = lets W := by rw [← headT_er, hqe, head_fact]
 have hhl : (headT tq).length = W.length := by rw [← List.length_map (f := T.er), hhd, lets_len]
 refine call_any (cx_Head tq m9 hrq hqc) setsE_fits ?_
 rintro ha hn hc e2 m10 hm10 hh
 unfold SetsE at hh; rw [if_neg (by rw [hqr]; simp)] at hh
 obtain ⟨ha', hc', hv, hrow⟩ := hh
 simp only [Value.tuple.injEq, Array.mk.injEq, List.cons.injEq, Value.slice.injEq, Value.int.injEq, true_and, and_true] at hv
 obtain ⟨⟨rfl, rfl, rfl⟩, rfl⟩ := hv
 have hfz : tf.nodes.length = W.length + 2 + 3 * (prs B).length := by rw [← sz_er, hfe, sz_fact]
 have hm710 : m7.le m10 := Mem.le_trans hm8 (Mem.le_trans hm89 hm10)
 have hcl := cx_Clean tq m10 (hrq.mono hm10)
 rw [good_clean hqg (by omega)] at hcl
 have hsm : ∀ M : Mem, m10.le M → CX Try.prog 16 #[tf.v, tq.v] M [] (Ret (.bool true)) := fun M hM => by
  have := cx_Same tf tq M (hrf.mono (Mem.le_trans hm7 (Mem.le_trans hm710 hM))) (hrq.mono (Mem.le_trans hm10 hM))
  rw [sz_small (by omega), sz_small (by omega), same_of_er (by rw [hfe, hqe])] at this
  exact this
 rw [hhl]
 refine ⟨false, br_f rfl (call_bool hcl fun m11 hm11 => br_f rfl (call_bool (hsm m11 hm11) fun m12 hm12 => br_f rfl ⟨by trivial, by trivial, one_bool (by rw [hsz2]; simp)⟩)), br_f rfl ?_⟩
 have hm07 : m.le m7 := Mem.le_trans hm12 (Mem.le_trans hm23 (Mem.le_trans hm4 hm47))
 refine ⟨fun xs css tvs m' q => ∃ i : Nat, i ≤ W.length ∧ xs = [.int .i64 i] ∧ q = W.length - i, ⟨_, 0, by omega, rfl, rfl⟩, ?_⟩
 rintro z m11 q hm11 ⟨i, hi, hxs, hq⟩
 obtain rfl : z = i := by simpa using hxs
 have hm011 : m.le m11 := Mem.le_trans hm07 (Mem.le_trans hm710 hm11)
 refine br_intro (fun hlt => ?_) (fun hge => ?_)
 ·have hlt : i < W.length := by have := of_decide_eq_true hlt; omega
  obtain ⟨c, hc⟩ := at_some hlt
  obtain ⟨x, hx⟩ := at_some (l := headT tq) (k := i) (by omega)
  have hxe : x.er = letterT c := by
   have h1 : ((headT tq).map T.er)[i]? = some x.er := by rw [List.getElem?_map, hx]; rfl
   rw [hhd] at h1
   unfold lets at h1
   rw [List.getElem?_map, hc] at h1
   exact (Option.some.inj h1).symm
  have hxs : setCs x = setCs (letterT c) := by
   unfold setCs
   rw [← er_s0, ← er_s1 x, ← er_s2 x, ← er_s3 x, hxe]
  have hc256 := hWin c (List.mem_of_getElem? hc)
  have hsl : (setsCells (headT tq)).length ≠ 0 := by rw [setsCells_len]; omega
  obtain ⟨b0, o0, ha0, hrd⟩ : ∃ b o, ha = some ⟨b, o, none⟩ ∧ m11.reads b (o + i * 4) (setCs (letterT c)) := by
   rcases hrow.mono hm11 with h | ⟨b, o, h1, h2⟩
   ·exact absurd (by rw [h]; rfl) hsl
   ·refine ⟨b, o, h1, fun j v hj => ?_⟩
    rw [Nat.add_assoc]
    refine h2 (i * 4 + j) v ?_
    have e : headT tq = (headT tq).take i ++ ([x] ++ (headT tq).drop (i + 1)) := by
     have h2 := List.drop_eq_getElem_cons (show i < (headT tq).length by omega)
     rw [(List.getElem?_eq_some_iff.1 hx).2] at h2
     rw [List.singleton_append, ← h2, List.take_append_drop]
    have hj4 := (List.getElem?_eq_some_iff.1 hj).1
    have hj4' : j < 4 := hj4
    have happ : ∀ l r : List T, setsCells (l ++ r) = setsCells l ++ setsCells r := fun l r => by simp [setsCells]
    rw [e, happ, List.getElem?_append_right (by rw [setsCells_len, List.length_take, Nat.min_eq_left (by omega)]; omega), setsCells_len, List.length_take, Nat.min_eq_left (by omega), show i * 4 + j - i * 4 = j by omega, happ, show setsCells [x] = setCs (letterT c) by simp [setsCells, hxs], List.getElem?_append_left hj4]
    exact hj
  have hw : IntKind.i64.wrap ((i : Int) + 1) = ((i + 1 : Nat) : Int) := by rw [wrap64 (by omega) (by omega)]; rfl
  have hat : strAt s2 i = (c : Int) := strAt_eq (by rw [hbs]; exact hc)
  simp only [hw, Int.toNat_natCast]
  refine ⟨b0, o0, ha0, ⟨by omega, by omega⟩, _, _, _, _, hrd, fun b7 => chk_intro rfl ⟨fun _ _ _ => Ret (setV (letterT c)), ⟨by omega, by rw [hsz2]; omega⟩, fun b8 hf8 => ?_⟩⟩
  refine ⟨Ret (setV (letterT c)), rfl, cx_setsOf1 c hc256 b8 0 1 _ (by rw [Mem.add_same, hat]; rfl), (fun v _ _ e => by rw [e]; rfl), ?_⟩
  rintro g1 g2 g3 g4 m12 hm12 hg
  simp only [Ret, setV, setCs, Value.agg.injEq, Array.mk.injEq, List.cons.injEq, Value.int.injEq, true_and, and_true] at hg
  obtain ⟨rfl, rfl, rfl, rfl⟩ := hg
  refine ⟨_, eq_set _ _ _ _ _ _ _ _, fun M hM1 hM2 hM3 => br_f (by simp) ⟨by trivial, by trivial, W.length - (i + 1), by omega, i + 1, by omega, rfl, rfl⟩⟩
 ·refine call_any (cx_Capture tq m11 (hrq.mono (Mem.le_trans hm10 hm11))) tree_fits (tree_k fun tc m12 hm12 hrc ⟨ca, cc, hch⟩ => ?_)
  have hcg : (nodeT 6 0 0 ca cc [tq]).good = true := by
   rw [good_eq, Bool.and_eq_true]
   refine ⟨rfl, ?_⟩
   show [tq].all T.good = true
   simp [hqg]
  have hcz : (nodeT 6 0 0 ca cc [tq]).nodes.length = 1 + (W.length + 2 + 3 * (prs B).length) := by
   rw [sz_eq]
   show 1 + szL [tq] = _
   rw [szL_cons, hqz]; rfl
  have hce : tc.er = (nodeT 6 0 0 ca cc [tq]).er := by
   rcases hch.1 with h | h
   ·exact h.2
   ·rw [good_clean hcg (by omega)] at h; cases h.1
  have htk : tc.k = 6 := by rw [← er_k, hce]; rfl
  have htr : T.rgt tc = true := rgt_iff.2 ⟨by rw [← good_er, hce, good_er]; exact hcg, by rw [← sz_er, hce, sz_er]; omega⟩
  have hth : headT tc = [] := by unfold headT; rw [htk, if_neg (by omega), if_neg (by omega)]
  refine call_any (cx_Head tc m12 hrc hch.2) setsE_fits ?_
  rintro ha2 hn2 hc2 e3 m13 hm13 hh
  unfold SetsE at hh; rw [if_neg (by rw [htr]; simp), hth] at hh
  obtain ⟨ha3, hc3, hv, _⟩ := hh
  simp only [List.length_nil, Value.tuple.injEq, Array.mk.injEq, List.cons.injEq, Value.slice.injEq, Value.int.injEq, true_and, and_true] at hv
  obtain ⟨⟨rfl, rfl, rfl⟩, rfl⟩ := hv
  exact ⟨true, br_t rfl ⟨by trivial, by trivial, rfl⟩, ret_pure (Mem.le_trans hm011 (Mem.le_trans hm12 hm13)) (by simp [Ret])⟩
end Go.Proofs.Ytmggihkjgbnhbaa

