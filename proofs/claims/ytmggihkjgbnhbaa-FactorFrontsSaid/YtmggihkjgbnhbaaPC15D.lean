/- Part of the proof: conditions and contracts of functions of this program. No condition of its own. -/
import Derived.Test.YtmggihkjgbnhbaaPC15C
set_option linter.unusedVariables false
set_option linter.unusedSimpArgs false
set_option linter.unusedSectionVars false
namespace Go.Proofs.Ytmggihkjgbnhbaa
open Go Go.Eng Go.Rx Go.Proofs Go.RowKit
set_option maxRecDepth 100000
theorem cx_Copy (t : T) (m : Mem) (hr : Rep m t) (hz : t.nodes.length ≤ 10000) : CX Try.prog 38 #[t.v] m [] (TreeR fun t' => t'.er = t.er ∧ t'.caps) := by
 apply cx_rx_Copy
 unfold VC_rx_Copy
 intro b m1 hm1 _ b1
 have hl : t.light = true := by unfold T.light; exact decide_eq_true hz
 have h := cx_Light t m1 (hr.mono hm1)
 rw [hl] at h
 refine call_bool h fun m2 hm2 => br_f rfl (call_any (cx_copied t m2 (hr.mono (Mem.le_trans hm1 hm2)) hz) tree_fits (tree_k fun t' m3 hm3 hr' ht' => ?_))
 exact ⟨m3, Mem.le_trans hm1 (Mem.le_trans hm2 hm3), Mem.le_refl _, t', rfl, hr', ht'⟩
def WalkR (r : T × Nat) : Value → Mem → List (List Value) → Prop := fun v m' css => ∃ t' : T, v = t'.v ∧ Rep m' t' ∧ t'.er = r.1 ∧ t'.caps ∧ css = [[.int .i64 (r.2 : Nat)]]
theorem WalkR_fits {r : T × Nat} : ∀ (v : Value) (m' : Mem) (css : List (List Value)), WalkR r v m' css → Shape.fits (.agg [.int .u8, .int .u64, .int .u64, .int .u64, .int .u64, .int .i64, .int .i64, .slice]) v = true := fun v _ _ ⟨t, e, _⟩ => by rw [e]; rfl
def cntB (b : Nat) (n : Nat) : Box := ⟨b, [.int .i64 (n : Nat)], 3, 1, false, true⟩
theorem rs_take {rs : Nat → T} {L : List T} {i : Nat} : (List.range (i + 1)).map rs = (List.range i).map rs ++ [rs i] := by rw [List.range_succ, List.map_append]; rfl
theorem cx_walk_gen (c : C4) (m : Mem) (nb cb wb : Nat) (hcb : m.reads cb 0 [.int .i64 (c.a : Nat), .int .i64 (c.f : Nat), .int .i64 (c.t : Nat), .int .i64 (c.n : Nat)]) (hwb : m wb 0 = some (.func (.func 69) #[] #[ptrV nb, ptrV cb, ptrV wb]))
  (t : T) (n : Nat) (hn : n ≤ 100000) (hr : Rep m t) (hg : t.good = true) (hcp : t.caps) (hz : t.nodes.length ≤ 300) (hfit : t.k = 4 → n = c.a → Fit t.subs c)
  (hrec : ∀ L : List T, L.length ≤ 300 → (∀ x ∈ L, x.caps) → (if t.k = 4 ∧ n = c.a then L.map T.er = (cutE t.subs c).map T.er else L = t.subs) → ∃ (rs : Nat → T) (cn : Nat → Nat), cn 0 = (if t.k = 4 then n + 1 else n) ∧
   (∀ i x, L[i]? = some x → ∀ m2, m.le m2 → Rep m2 x → CX Try.prog 69 #[x.v, ptrV nb, ptrV cb, ptrV wb] m2 [cntB nb (cn i)] (WalkR (rs i, cn (i + 1)))) ∧
   (∀ i, i < L.length → (rs i).good = true ∧ (rs i).er = rs i) ∧ szL ((List.range L.length).map rs) ≤ 900 ∧ t.built ((List.range L.length).map rs) = (t.cutAt c n).1 ∧ cn L.length = (t.cutAt c n).2 ∧ (t.k = 4 → L ≠ []) ∧ (t.k = 5 → L.length = 1 ∧ (rs 0).k ≠ 1) ∧ (t.k = 6 → L.length = 1)) :
  CX Try.prog 69 #[t.v, ptrV nb, ptrV cb, ptrV wb] m [cntB nb n] (WalkR (t.cutAt c n)) := by
 apply cx_factor_made_1 t.k t.s0 t.s1 t.s2 t.s3 t.mn t.mx t.a t.subs.length t.c nb n cb 0 wb 0
 unfold VC_factor_made_1
 intro b m1 hm1 _ b1
 have hw1 : IntKind.i64.wrap ((n : Int) + 1) = ((n + 1 : Nat) : Int) := by rw [wrap64 (by omega) (by omega)]; rfl
 have hszs : szL t.subs ≤ 300 := by rw [sz_eq] at hz; omega
 have hsubR := (hr.mono hm1).subs
 have hgs := (right_of_good hg).2
 have hca : m1 cb (0 + 0) = some (.int .i64 (c.a : Nat)) := hm1 _ _ _ (hcb 0 _ rfl)
 have hsubC : ∀ x ∈ t.subs, x.caps := fun x hx => caps_sub hcp hx
 simp only [hw1]
 refine ⟨fun xs css tvs m' => ∃ (L : List T) (a : Option Addr) (cc : Nat) (n1 : Nat), xs = [.slice a L.length cc] ∧ css = [[.int .i64 (n1 : Nat)]] ∧ n1 = (if t.k = 4 then n + 1 else n) ∧ RepL m' a L ∧ L.length ≤ 300 ∧ (∀ x ∈ L, x.caps) ∧ (if t.k = 4 ∧ n = c.a then L.map T.er = (cutE t.subs c).map T.er else L = t.subs), ?_, ?_⟩
 ·refine br_intro (fun hk => ⟨_, hca, chk_intro rfl (br_intro (fun hna => ?_) (fun hna => ?_))⟩) (fun hk => ?_)
  ·have hk' : t.k = 4 := by simpa using hk
   have hna' : n = c.a := by simp [RowKit.intOf] at hna; omega
   have hf := hfit hk' hna'
   refine ⟨_, _, _, _, fun j v hj => hm1 _ _ _ (hcb j v hj), call_any (cx_cut t.subs t.a t.c c m1 hsubR (caps_len hcp) hgs hsubC hszs hf) ListE_fits ?_⟩
   rintro a2 n2 c2 m2 hm2 ⟨L, a', c', hv, hL, hLe, hLc⟩
   simp only [Value.slice.injEq] at hv
   obtain ⟨rfl, rfl, rfl⟩ := hv
   refine ⟨by trivial, L, _, _, n + 1, rfl, rfl, by rw [if_pos hk'], hL, ?_, hLc, by rw [if_pos ⟨hk', hna'⟩]; exact hLe⟩
   have h1 := congrArg List.length hLe
   rw [List.length_map, List.length_map] at h1
   unfold cutE at h1
   rw [List.length_append, List.length_cons, List.length_take, List.length_drop] at h1
   have := len_szL t.subs
   have := hf.two
   have := hf.le
   omega
  ·have hk' : t.k = 4 := by simpa using hk
   have hna' : ¬ n = c.a := fun e => by subst e; simp [RowKit.intOf] at hna
   exact ⟨by trivial, t.subs, t.a, t.c, n + 1, rfl, rfl, by rw [if_pos hk'], hsubR, by have := len_szL t.subs; omega, hsubC, by rw [if_neg (fun h => hna' h.2)]⟩
  ·have hk' : ¬ t.k = 4 := by simpa using hk
   exact ⟨by trivial, t.subs, t.a, t.c, n, rfl, rfl, by rw [if_neg hk'], hsubR, by have := len_szL t.subs; omega, hsubC, by rw [if_neg (fun h => hk' h.1)]⟩
 rintro a2 n2 c2 cs m2 hm2 ⟨L, a', c', n1, hxs, hcss, hn1, hL, hLl, hLc, hLif⟩
 simp only [List.cons.injEq, Value.slice.injEq, and_true] at hxs hcss
 obtain ⟨rfl, rfl, rfl⟩ := hxs
 subst hcss
 obtain ⟨rs, cn, hcn0, hcall, hrsg, hrsz, hbuilt, hcnl, hne4, h5, h6⟩ := hrec L hLl hLc hLif
 rw [hn1, ← hcn0]
 have h02 := Mem.le_trans hm1 hm2
 have hrow := row_of_repL hL
 have hreps := repL_reps hL
 refine ⟨⟨by trivial, by omega, by omega, by omega⟩, fun b3 => ?_⟩
 refine ⟨fun xs css tvs m' q => ∃ (i : Nat) (O : List T) (a : Option Addr) (cc : Nat), i ≤ L.length ∧ O.length = i ∧ xs = [.slice a O.length cc, .int .i64 i] ∧ css = [[.int .i64 (cn i : Nat)]] ∧ tvs = [.slice a O.length cc] ∧ rowRd m' a (Rx.cellsL O) ∧ (∀ x ∈ O, Rep m' x ∧ x.caps) ∧ O.map T.er = (List.range i).map rs ∧ q = L.length - i, ⟨_, 0, [], some ⟨b3, 0, none⟩, _, by omega, rfl, rfl, rfl, rfl, .inl rfl, by simp, rfl, rfl⟩, ?_⟩
 rintro a4 n4 c4 z cs4 a5 n5 c5 m3 q hm3 ⟨i, O, a', cc, hi, hOl, hxs, hcss, htv, hrowO, hOr, hOe, hq⟩
 simp only [List.cons.injEq, Value.slice.injEq, Value.int.injEq, true_and, and_true] at hxs htv hcss
 obtain ⟨⟨rfl, rfl, rfl⟩, rfl⟩ := hxs
 obtain ⟨rfl, rfl, rfl⟩ := htv
 subst hcss
 have h03 := Mem.le_trans h02 hm3
 refine br_intro (fun hlt => ?_) (fun hge => ?_)
 ·have hlt' : i < L.length := by have := of_decide_eq_true hlt; omega
  obtain ⟨x, hx⟩ := at_some hlt'
  obtain ⟨b0, o0, ha0, hrd0⟩ := row_get (hrow.mono hm3) hx
  have hxr := (hreps x (List.mem_of_getElem? hx)).mono hm3
  have hw : IntKind.i64.wrap ((i : Int) + 1) = ((i + 1 : Nat) : Int) := by rw [wrap64 (by omega) (by omega)]; rfl
  simp only [hw]
  refine ⟨b0, o0, ha0, ⟨by omega, by omega⟩, _, _, _, _, _, _, _, _, hrd0, fun b6 => chk_intro rfl ⟨_, h03 _ _ _ hwb, _, [], [ptrV nb, ptrV cb, ptrV wb], rfl, _, trivial, hcall i x hx m3 h03 hxr, WalkR_fits, ?_⟩⟩
  rintro k' s0' s1' s2' s3' mn' mx' a6 n6 c6 m4 hm4 cs6 ⟨t', hv, hr', ht', hcp', hcs6⟩ b7 hf7
  simp only [T.v, Value.agg.injEq, Array.mk.injEq, List.cons.injEq, Value.int.injEq, Value.slice.injEq, true_and, and_true] at hv
  obtain ⟨rfl, rfl, rfl, rfl, rfl, rfl, rfl, rfl, rfl, rfl⟩ := hv
  obtain rfl : cs6 = [.int .i64 (cn (i + 1) : Nat)] := by simpa using hcs6
  have hle7 := Mem.le_add hf7 t'.cs
  refine ⟨.inl (by trivial), Rx.cellsL O, t'.cs, by rw [cellsL_len], rfl, (hrowO.mono hm4).mono hle7, .inr ⟨b7, 0, rfl, fun j v hj => by rw [Nat.zero_add, Mem.add_same]; exact hj⟩, by have := oneT [t']; simpa [Rx.cellsL] using this, by omega, by omega, fun a8 c8 m8 hm8 hrow8 => ?_⟩
  refine ⟨by trivial, by trivial, L.length - (i + 1), by omega, i + 1, O ++ [t'], a8, c8, by omega, by rw [List.length_append, hOl]; rfl, ?_, rfl, ?_, by rw [cellsL_snoc]; exact hrow8, ?_, ?_, rfl⟩
  ·rw [List.length_append]; rfl
  ·rw [List.length_append]; rfl
  ·have hle8 := Mem.le_trans hle7 hm8
   intro y hy
   rcases List.mem_append.1 hy with hy | hy
   ·exact ⟨(hOr y hy).1.mono (Mem.le_trans hm4 hle8), (hOr y hy).2⟩
   ·rw [List.mem_singleton] at hy; subst hy
    exact ⟨hr'.mono hle8, hcp'⟩
  ·rw [rs_take (L := L), List.map_append, hOe]
   simp only [List.map_cons, List.map_nil, ht']
 ·have hii : i = L.length := by have := of_decide_eq_false hge; omega
  subst hii
  have hs := right_subs hg
  have hkk := right_k (right_of_good hg).1
  have hOl' : O.length ≤ 300 := by omega
  have hOR := fun (M : Mem) (h : m3.le M) => (repL_of (hrowO.mono h) (fun x hx => (hOr x hx).1.mono h) (by omega) : RepL M _ O)
  have hOg : ∀ x ∈ O, x.good = true := by
   intro x hx
   obtain ⟨j, hj⟩ := List.getElem?_of_mem hx
   have h1 := congrArg (fun l => l[j]?) hOe
   simp only [List.getElem?_map, hj, Option.map_some] at h1
   have hjl := (List.getElem?_eq_some_iff.1 hj).1
   rw [List.getElem?_range (by omega)] at h1
   simp only [Option.map_some, Option.some.injEq] at h1
   exact good_of_er h1 (hrsg j (by omega)).1
  have hOe' : O.map T.er = ((List.range L.length).map rs).map T.er := by
   rw [hOe, map_er fun x hx => ?_]
   obtain ⟨j, hj, rfl⟩ := List.mem_map.1 hx
   exact (hrsg j (List.mem_range.1 hj)).2
  have hOsz : szL O ≤ 900 := by rw [szL_of_er hOe']; exact hrsz
  have hOc : ∀ x ∈ O, x.clean = true := fun x hx => good_clean (hOg x hx) (by have := szL_mem hx; omega)
  have fin : ∀ (t' : T) (M : Mem), m3.le M → Rep M t' → t'.er = t.built ((List.range L.length).map rs) → t'.caps → ∃ m'' : Mem, m.le m'' ∧ m''.le M ∧ WalkR (t.cutAt c n) t'.v m'' [[.int .i64 (cn L.length : Nat)]] := fun t' M hM hr' he hc => ⟨M, Mem.le_trans h03 hM, Mem.le_refl _, t', rfl, hr', by rw [he, hbuilt], hc, by rw [hcnl]⟩
  refine br_intro (fun h3 => ?_) (fun h3 => br_intro (fun h4 => ?_) (fun h4 => br_intro (fun h5' => ?_) (fun h5' => br_intro (fun h6' => ?_) (fun h6' => ?_))))
  ·have hk3 : t.k = 3 := by simpa using h3
   refine call_any (cx_Seq O _ _ m3 (hOR m3 (Mem.le_refl _)) (by omega) hOc) tree_fits (tree_k fun t' m4 hm4 hr' ⟨ja, jc, hj⟩ => ⟨by trivial, fin t' m4 hm4 hr' ?_ (join_caps caps_T1 hj)⟩)
   rw [seq_spec hOg (by omega) hj]
   unfold T.built
   rw [if_pos hk3]
   exact catE_congr hOe'
  ·have hk4 : t.k = 4 := by simpa using h4
   have hne : O ≠ [] := fun e => by
    have := hne4 hk4
    rw [e] at hOl
    exact this (List.eq_nil_of_length_eq_zero hOl.symm)
   refine call_any (cx_Or O _ _ m3 (hOR m3 (Mem.le_refl _)) (by omega) hOc) tree_fits (tree_k fun t' m4 hm4 hr' ⟨ja, jc, hj⟩ => ⟨by trivial, fin t' m4 hm4 hr' ?_ (join_caps caps_T0 hj)⟩)
   rw [or_spec hOg hne (by omega) hj]
   unfold T.built
   rw [if_neg (by omega), if_pos hk4]
   exact altE_congr hOe'
  ·have hk5 : t.k = 5 := by simpa using h5'
   obtain ⟨hl1, hk1⟩ := h5 hk5
   rw [hl1] at hOe
   match O, hOl, hOe, hrowO, hOr, hOc with
   | [], hOl, _, _, _, _ => simp at hOl; omega
   | _ :: _ :: _, hOl, _, _, _, _ => simp at hOl; omega
   | [o], _, hOe, hrowO, hOr, hOc =>
   have hoe : o.er = rs 0 := by simpa using hOe
   have hb := (hs.2.2.1 hk5).2
   obtain ⟨b0, o0, ha0, hrd0⟩ := row_get hrowO (i := 0) (t := o) rfl
   refine ⟨fun _ _ _ => TreeR (Timed o t.mn t.mx), b0, o0, ha0, ⟨by omega, by simp⟩, _, _, _, _, _, _, _, _, hrd0, _, rfl, cx_Times o t.mn t.mx m3 (hOr o (by simp)).1 (hOc o (by simp)), tree_fits, tree_k fun t' m4 hm4 hr' hj M hM1 hM2 => ⟨by trivial, ?_⟩⟩
   have hok : o.k ≠ 1 := by rw [← er_k, hoe]; exact hk1
   obtain ⟨ja, jc, hj⟩ := timed_chkd hj hb hok
   refine fin t' M hM1 (hr'.mono hM2) ?_ hj.2
   have hog : (nodeT 5 t.mn t.mx ja jc [o]).good = true := rep5_good hb hok (clean_good (hOc o (by simp))).1
   rw [chkd_clean hj (good_clean hog (by
    rw [sz_eq]
    show 1 + szL [o] ≤ _
    omega))]
   unfold T.built
   rw [if_neg (by omega), if_neg (by omega)]
   have hz5 := hs.2.2.2.2.2.1 (by omega)
   rw [hk5, hz5.1, hz5.2.1, hz5.2.2.1, hz5.2.2.2, hl1]
   show T.node 5 0 0 0 0 t.mn t.mx none 0 [o.er] = _
   rw [hoe]; rfl
  ·have hk6 : t.k = 6 := by simpa using h6'
   have hl1 := h6 hk6
   rw [hl1] at hOe
   match O, hOl, hOe, hrowO, hOr, hOc with
   | [], hOl, _, _, _, _ => simp at hOl; omega
   | _ :: _ :: _, hOl, _, _, _, _ => simp at hOl; omega
   | [o], _, hOe, hrowO, hOr, hOc =>
   have hoe : o.er = rs 0 := by simpa using hOe
   obtain ⟨b0, o0, ha0, hrd0⟩ := row_get hrowO (i := 0) (t := o) rfl
   refine ⟨b0, o0, ha0, ⟨by omega, by simp⟩, _, _, _, _, _, _, _, _, hrd0, call_any (cx_Capture o m3 (hOr o (by simp)).1) tree_fits (tree_k fun t' m4 hm4 hr' ⟨ja, jc, hj⟩ => ⟨by trivial, ?_⟩)⟩
   refine fin t' m4 hm4 hr' ?_ hj.2
   have hog : (nodeT 6 0 0 ja jc [o]).good = true := grp_good (clean_good (hOc o (by simp))).1
   rw [chkd_clean hj (good_clean hog (by
    rw [sz_eq]
    show 1 + szL [o] ≤ _
    omega))]
   unfold T.built
   rw [if_neg (by omega), if_neg (by omega)]
   have hz5 := hs.2.2.2.2.2.1 (by omega)
   have hm6 := hs.2.2.2.2.2.2 (by omega)
   rw [hk6, hz5.1, hz5.2.1, hz5.2.2.1, hz5.2.2.2, hm6.1, hm6.2, hl1]
   show T.node 6 0 0 0 0 0 0 none 0 [o.er] = _
   rw [hoe]; rfl
  ·have hk12 : t.k = 1 ∨ t.k = 2 := by
    have e3 : ¬ t.k = 3 := by simpa using h3
    have e4 : ¬ t.k = 4 := by simpa using h4
    have e5 : ¬ t.k = 5 := by simpa using h5'
    have e6 : ¬ t.k = 6 := by simpa using h6'
    rcases hkk with h | h | h | h | ⟨h, _⟩ | ⟨h, _⟩
    ·exact .inl h
    ·exact .inr h
    all_goals omega
   have hsub := hs.2.2.2.2.1 hk12
   refine call_any (cx_Copy t m3 (hr.mono h03) (by omega)) tree_fits (tree_k fun t' m4 hm4 hr' ht' => ⟨by trivial, fin t' m4 hm4 hr' ?_ ht'.2⟩)
   have hL0 : L.length = 0 := by
    rw [if_neg (by omega)] at hLif
    rw [hLif, hsub]; rfl
   rw [ht'.1, hL0, ← built_self hg, hsub]; rfl
theorem cx_walk_past (c : C4) (m : Mem) (nb cb wb : Nat) (hcb : m.reads cb 0 [.int .i64 (c.a : Nat), .int .i64 (c.f : Nat), .int .i64 (c.t : Nat), .int .i64 (c.n : Nat)]) (hwb : m wb 0 = some (.func (.func 69) #[] #[ptrV nb, ptrV cb, ptrV wb]))
  (t : T) (n : Nat) (hn : n + t.nodes.length ≤ 100000) (hr : Rep m t) (hg : t.good = true) (hcp : t.caps) (hz : t.nodes.length ≤ 300) (hpast : c.a < n) :
  CX Try.prog 69 #[t.v, ptrV nb, ptrV cb, ptrV wb] m [cntB nb n] (WalkR (t.cutAt c n)) := by
 refine cx_walk_gen c m nb cb wb hcb hwb t n (by omega) hr hg hcp hz (fun _ h => by omega) fun L hLl hLc hL => ?_
 rw [if_neg (by omega)] at hL
 subst hL
 have hgs := (right_of_good hg).2
 have hs := right_subs hg
 have hzt := sz_eq t
 have hmap : (List.range t.subs.length).map (fun i => ((t.subs[i]?).getD T0).er) = t.subs.map T.er := by
  have := range_map (l := t.subs.map T.er) (f := fun i => ((t.subs[i]?).getD T0).er) (fun i x hx => by
   rw [List.getElem?_map] at hx
   obtain ⟨y, hy, rfl⟩ := Option.map_eq_some_iff.1 hx
   rw [hy]; rfl)
  rwa [List.length_map] at this
 have hpt := cutAt_past t n hg hpast
 refine ⟨fun i => ((t.subs[i]?).getD T0).er, fun i => (if t.k = 4 then n + 1 else n) + (altsL (t.subs.take i)).length, rfl, fun i x hx m2 hm2 hxr => ?_, fun i hi => ?_, ?_, ?_, ?_, fun h4 e => ?_, fun h5 => ?_, fun h6 => ?_⟩
 ·have hxm := List.mem_of_getElem? hx
  have hxz := szL_mem hxm
  have htk : (altsL (t.subs.take (i + 1))).length = (altsL (t.subs.take i)).length + x.alts.length := by rw [take_at hx, altsL_append, List.length_append]; simp [altsL]
  have hal : (altsL (t.subs.take i)).length + x.nodes.length ≤ szL t.subs := by
   have h1 := altsL_len (t.subs.take i)
   have h2 := szL_take t.subs i
   have h3 : x.nodes.length ≤ szL (t.subs.drop i) := by
    refine szL_mem (List.mem_of_getElem? (i := 0) ?_)
    rw [List.getElem?_drop]; exact hx
   omega
  have hcn : (if t.k = 4 then n + 1 else n) ≤ n + 1 ∧ c.a < (if t.k = 4 then n + 1 else n) := by split <;> omega
  have ih := cx_walk_past c m2 nb cb wb (fun j v hj => hm2 _ _ _ (hcb j v hj)) (hm2 _ _ _ hwb) x ((if t.k = 4 then n + 1 else n) + (altsL (t.subs.take i)).length) (by omega) hxr (hgs x hxm) (caps_sub hcp hxm) (by omega) (by omega)
  rw [cutAt_past x _ (hgs x hxm) (by omega)] at ih
  dsimp only
  rw [hx, htk, ← Nat.add_assoc]
  exact ih
 ·obtain ⟨x, hx⟩ := at_some hi
  dsimp only
  rw [hx]
  exact ⟨by rw [good_er]; exact hgs x (List.mem_of_getElem? hx), er_er x⟩
 ·rw [hmap, szL_of_er (l' := t.subs) (by rw [List.map_map]; exact List.map_congr_left fun z _ => er_er z)]; omega
 ·rw [hmap, hpt, built_self hg]
 ·show (if t.k = 4 then n + 1 else n) + (altsL (t.subs.take t.subs.length)).length = _
  rw [List.take_length, hpt, alts_eq, List.length_append]
  split <;> simp <;> omega
 ·have := hs.2.1 h4
  rw [e] at this; simp at this
 ·obtain ⟨⟨x, hx, hx1⟩, _⟩ := hs.2.2.1 h5
  rw [hx]
  exact ⟨rfl, by show x.er.k ≠ 1; rw [er_k]; exact hx1⟩
 ·obtain ⟨x, hx⟩ := hs.2.2.2.1 h6
  rw [hx]; rfl
termination_by SizeOf.sizeOf t
decreasing_by exact sub_lt hxm
theorem cx_walk_at (c : C4) (m : Mem) (nb cb wb : Nat) (hcb : m.reads cb 0 [.int .i64 (c.a : Nat), .int .i64 (c.f : Nat), .int .i64 (c.t : Nat), .int .i64 (c.n : Nat)]) (hwb : m wb 0 = some (.func (.func 69) #[] #[ptrV nb, ptrV cb, ptrV wb]))
  (t : T) (n : Nat) (hn : n + 3 * t.nodes.length ≤ 90000) (hr : Rep m t) (hg : t.good = true) (hcp : t.caps) (hz : t.nodes.length ≤ 120) (hf : FitAt c t.alts n) :
  CX Try.prog 69 #[t.v, ptrV nb, ptrV cb, ptrV wb] m [cntB nb n] (WalkR (t.cutAt c n)) := by
 refine cx_walk_gen c m nb cb wb hcb hwb t n (by omega) hr hg hcp (by omega) (fun h4 h => fitAt_here hf h4 h) fun L hLl hLc hL => ?_
 have hgs := (right_of_good hg).2
 have hs := right_subs hg
 have hzt := sz_eq t
 by_cases hh : t.k = 4 ∧ n = c.a
 ·rw [if_pos hh] at hL
  have hfit := fitAt_here hf hh.1 hh.2
  have ho := cutE_ok hgs hfit
  have hLg : ∀ x ∈ L, x.good = true := fun x hx => by
   have : x.er ∈ (cutE t.subs c).map T.er := by rw [← hL]; exact List.mem_map.2 ⟨x, hx, rfl⟩
   obtain ⟨y, hy, e⟩ := List.mem_map.1 this
   rw [← good_er, ← e, good_er]; exact ho.good y hy
  have hLs : szL L ≤ 300 := by
   have := ho.sz
   rw [szL_of_er hL]; omega
  have hmap : (List.range L.length).map (fun i => ((L[i]?).getD T0).er) = L.map T.er := by
   have := range_map (l := L.map T.er) (f := fun i => ((L[i]?).getD T0).er) (fun i x hx => by
    rw [List.getElem?_map] at hx
    obtain ⟨y, hy, rfl⟩ := Option.map_eq_some_iff.1 hx
    rw [hy]; rfl)
   rwa [List.length_map] at this
  refine ⟨fun i => ((L[i]?).getD T0).er, fun i => n + 1 + (altsL (L.take i)).length, by rw [if_pos hh.1]; rfl, fun i x hx m2 hm2 hxr => ?_, fun i hi => ?_, ?_, ?_, ?_, fun h4 e => ?_, fun h5 => by omega, fun h6 => by omega⟩
  ·have hxm := List.mem_of_getElem? hx
   have hxz := szL_mem hxm
   have htk : (altsL (L.take (i + 1))).length = (altsL (L.take i)).length + x.alts.length := by rw [take_at hx, altsL_append, List.length_append]; simp [altsL]
   have hal : (altsL (L.take i)).length ≤ szL L := by
    have h1 := altsL_len (L.take i)
    have h2 := szL_take L i
    omega
   have ih := cx_walk_past c m2 nb cb wb (fun j v hj => hm2 _ _ _ (hcb j v hj)) (hm2 _ _ _ hwb) x (n + 1 + (altsL (L.take i)).length) (by omega) hxr (hLg x hxm) (hLc x hxm) (by omega) (by omega)
   rw [cutAt_past x _ (hLg x hxm) (by omega)] at ih
   dsimp only
   rw [hx, htk, ← Nat.add_assoc]
   exact ih
  ·obtain ⟨x, hx⟩ := at_some hi
   dsimp only
   rw [hx]
   exact ⟨by rw [good_er]; exact hLg x (List.mem_of_getElem? hx), er_er x⟩
  ·rw [hmap, szL_of_er (l' := L) (by rw [List.map_map]; exact List.map_congr_left fun z _ => er_er z)]; omega
  ·rw [hmap, hL, cutAt_here hh.1 hh.2]
   unfold T.built
   rw [if_neg (by omega), if_pos hh.1, ← altE_er]
  ·show n + 1 + (altsL (L.take L.length)).length = _
   rw [List.take_length, cutAt_here hh.1 hh.2, altsL_of_er hL]
  ·rw [e] at hL
   exact ho.ne (by simpa using hL.symm)
 ·rw [if_neg hh] at hL
  subst hL
  have hfs := fitAt_sub hf
  have hn1 : (if t.k = 4 then n + 1 else n) ≤ n + 1 := by split <;> omega
  generalize hne : (if t.k = 4 then n + 1 else n) = n1 at *
  have hl := cutAtL_ok (c := c) t.subs n1 hgs hfs
  have hmap : (List.range t.subs.length).map (fun i => ((cutAtL c t.subs n1).1[i]?).getD T0) = (cutAtL c t.subs n1).1 := by
   have := range_map (l := (cutAtL c t.subs n1).1) (f := fun i => ((cutAtL c t.subs n1).1[i]?).getD T0) (fun i x hx => by rw [hx]; rfl)
   rwa [hl.1] at this
  refine ⟨fun i => ((cutAtL c t.subs n1).1[i]?).getD T0, fun i => (cutAtL c (t.subs.take i) n1).2, rfl, fun i x hx m2 hm2 hxr => ?_, fun i hi => ?_, ?_, ?_, ?_, fun h4 e => ?_, fun h5 => ?_, fun h6 => ?_⟩
  ·have hxm := List.mem_of_getElem? hx
   have hxz := szL_mem hxm
   obtain ⟨g1, g2⟩ := cutAtL_get (c := c) (n := n1) hx
   have hle := cutAtL_le (c := c) (t.subs.take i) n1 (fun x hx => hgs x (List.mem_of_mem_take hx)) (fitAt_take i hfs)
   have h2 := szL_take t.subs i
   have h3 : x.nodes.length ≤ szL (t.subs.drop i) := by
    refine szL_mem (List.mem_of_getElem? (i := 0) ?_)
    rw [List.getElem?_drop]; exact hx
   have ih := cx_walk_at c m2 nb cb wb (fun j v hj => hm2 _ _ _ (hcb j v hj)) (hm2 _ _ _ hwb) x (cutAtL c (t.subs.take i) n1).2 (by omega) hxr (hgs x hxm) (caps_sub hcp hxm) (by omega) (fitAt_get hx hfs)
   show CX _ _ _ _ _ (WalkR (((cutAtL c t.subs n1).1[i]?).getD T0, (cutAtL c (t.subs.take (i + 1)) n1).2))
   rw [g1, g2]
   exact ih
  ·have hi' : i < (cutAtL c t.subs n1).1.length := by rw [hl.1]; exact hi
   obtain ⟨x, hx⟩ := at_some hi'
   dsimp only
   rw [hx]
   exact hl.2.1 x (List.mem_of_getElem? hx)
  ·rw [hmap]; have := hl.2.2.1; omega
  ·rw [hmap, cutAt_other hh, hne]
  ·show (cutAtL c (t.subs.take t.subs.length) n1).2 = _
   rw [List.take_length, cutAt_other hh, hne]
  ·have := hs.2.1 h4
   rw [e] at this; simp at this
  ·obtain ⟨⟨x, hx, hx1⟩, _⟩ := hs.2.2.1 h5
   refine ⟨by rw [hx]; rfl, ?_⟩
   have h1 := hl.2.2.2.2 (fun y hy => by rw [hx] at hy; simp at hy; subst hy; exact hx1)
   have h2 : 0 < (cutAtL c t.subs n1).1.length := by rw [hl.1, hx]; simp
   obtain ⟨y, hy⟩ := at_some h2
   show (((cutAtL c t.subs n1).1[0]?).getD T0).k ≠ 1
   rw [hy]
   exact h1 y (List.mem_of_getElem? hy)
  ·obtain ⟨x, hx⟩ := hs.2.2.2.1 h6
   rw [hx]; rfl
termination_by SizeOf.sizeOf t
decreasing_by exact sub_lt hxm
end Go.Proofs.Ytmggihkjgbnhbaa

