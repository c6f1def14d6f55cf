/- Part of the proof: conditions and contracts of functions of this program. No condition of its own. -/
import Derived.Test.YtplacemlpkhmfaaPC17L
set_option linter.unusedVariables false
set_option linter.unusedSimpArgs false
namespace Go.Proofs.Ytplacemlpkhmfaa
open Go Go.Eng Go.Rx Go.Proofs Go.RowKit
set_option maxRecDepth 100000
def RunI (_ : Nat) (s : List Int) (cell tok : Value) (m : Mem) : Prop := SlI false s cell m ∧ tok = .slice none 0 0
theorem cb_Run (A : Nf) (cb : Nat) (base : Mem) : CbOk A 81 [] [.pointer (some ⟨cb, 0, none⟩)] cb (fun _ _ l => l) RunI base := by
 rintro s n l la lc ca cn cc ta tn tc m hb ⟨_, ht⟩ hl hll _ hn
 simp only [Value.slice.injEq] at ht
 obtain ⟨rfl, rfl, rfl⟩ := ht
 apply cxy_nfa_Run_1
 unfold VC_nfa_Run_1
 exact ⟨rfl, rfl, Mem.le_refl _, _, _, _, _, _, _, rfl, rfl, ⟨la, lc, rfl, hl, hll, fun h => by cases h⟩, rfl⟩
def LstE (l : List Int) (e : Int) : Value → Mem → List (List Value) → Prop := fun v m' _ => ∃ w, v = .tuple #[w, .int .i64 e] ∧ SlI false l w m'
theorem lstE_fits {l : List Int} {e : Int} : ∀ (v : Value) (m' : Mem) (css : List (List Value)), LstE l e v m' css → Shape.fits (.tup [.slice, .int .i64]) v = true := by
 rintro v m' css ⟨w, rfl, a, c, rfl, _⟩; rfl
theorem cx_Run {stt : Bool} (A : Nf) (hq : ∀ q ∈ A.sets, QOk q) (v : Value) (bs : List Nat) (ba : Option Addr) (bc : Nat) (m : Mem) (h : NfR stt A v m) (hb : Byt m ba bs) :
  CX Try.prog 29 #[v, .slice ba bs.length bc] m [] (LstE (if A.runE bs.length = 0 then A.run bs [-1] else []) (A.runE bs.length)) := by
 have h' := h
 obtain ⟨s, f, x, y, rfl, ⟨sa, sc, rfl, hs', hsl, hsn⟩, ⟨fa, fc, vs, rfl, hf, hfn, hfl, hfv⟩, ⟨xa, xc, rfl, hx, hxl, hxn⟩, ⟨ya, yc, rfl, hy, hyl, hyn⟩⟩ := h
 apply cx_nfa_Run
 unfold VC_nfa_Run
 intro b m1 hm1 _ _ _ b1
 have hnil : SlI false [] (.slice none 0 0) m1 := ⟨none, 0, rfl, .inl rfl, by simp, fun _ _ => rfl⟩
 refine lentC1 (cxy_run A hq _ bs ba bc false 81 [] [.pointer (some ⟨b1, 0, none⟩)] b1 (fun _ _ l => l) RunI (fun j s a b m m' h hm => ⟨h.1.mono hm, h.2⟩) [] none 0 0 none 0 0 m1 (cb_Run A b1 m1) (h'.mono hm1) (hb.mono hm1) ⟨hnil, rfl⟩) (by rintro v m' css tvs ⟨rfl, _⟩; rfl) ?_
 rintro n m2 hle2 _ cs a c d ⟨hn, hm2, j, a1, n1, c1, a2, n2, c2, hcs, htv, hinv, _⟩
 simp only [Value.int.injEq, true_and] at hn
 subst hn
 obtain rfl : cs = [.slice a1 n1 c1] := by simpa using hcs
 refine look_intro (v := .slice a1 n1 c1) rfl ⟨m2, Mem.le_trans hm1 hm2, Mem.le_refl _, _, rfl, ?_⟩
 rw [runL_run] at hinv
 exact hinv
def SeaI (j : Nat) (s : List Int) (cell tok : Value) (m : Mem) : Prop := SlI false s cell m ∧ tok = cell ∧ s.length ≤ j ∧ j ≤ 4097
theorem cb_Search {stt : Bool} (A : Nf) (hA : A.Ok) (cb b : Nat) (v0 v1 v2 v3 : Value) (base : Mem) (hb : base.reads b 0 [v0, v1, v2, v3, .bool A.empty]) (h : NfR stt A (.agg #[v0, v1, v2, v3, .bool A.empty]) base) : CbOk A 82 [] [.pointer (some ⟨b, 0, none⟩), .pointer (some ⟨cb, 0, none⟩)] cb (fun s n l => if A.accepts l then s ++ [(n : Int)] else s) SeaI base := by
 rintro s n l la lc ca cn cc ta tn tc m hbm ⟨⟨sa, sc, hsv, hrow, hlen, _⟩, ht, hsn, hn2⟩ hl hll hls hn
 simp only [Value.slice.injEq] at ht hsv
 obtain ⟨rfl, rfl, rfl⟩ := ht
 obtain ⟨rfl, rfl, rfl⟩ := hsv
 apply cxy_nfa_Search_1
 unfold VC_nfa_Search_1
 refine ⟨v0, v1, v2, v3, .bool A.empty, hb.mono hbm, ?_⟩
 refine call_bool (cx_accepts A hA _ l la lc m (h.mono hbm) hl hll hls) fun m1 hm1 => br_intro (fun ha => ?_) (fun ha => ?_)
 ·intro b3 hb3
  have hle := Mem.le_add hb3 [Value.int .i64 (n : Int)]
  refine ⟨.inl rfl, intVs s, [.int .i64 (n : Int)], by rw [intVs_len, Nat.mul_one], rfl, (hrow.mono hm1).mono hle, row_one, by simp [Value.oneCell'], by omega, by omega, fun a' c' m2 hm2 hr2 _ => ⟨rfl, rfl, Mem.le_trans hm1 (Mem.le_trans hle hm2), _, _, _, _, _, _, rfl, rfl, ?_⟩⟩
  simp only [ha, if_true]
  refine ⟨⟨a', c', by simp, ?_, by rw [List.length_append, List.length_singleton]; omega, fun h => by cases h⟩, rfl, by rw [List.length_append, List.length_singleton]; omega, by omega⟩
  rw [intVs_app]; exact hr2
 ·refine ⟨rfl, rfl, hm1, _, _, _, _, _, _, rfl, rfl, ?_⟩
  simp only [ha]
  exact ⟨⟨_, _, rfl, hrow.mono hm1, hlen, fun h => by cases h⟩, rfl, by simp; omega, by omega⟩
theorem cx_Search_ok {stt : Bool} (A : Nf) (hA : A.right = true) (hq : ∀ q ∈ A.sets, QOk q) (v : Value) (bs : List Nat) (ba : Option Addr) (bc : Nat) (m : Mem) (h : NfR stt A v m) (hb : Byt m ba bs) :
  CX Try.prog 30 #[v, .slice ba bs.length bc] m [] (LstE (if A.runE bs.length = 0 then A.search bs else []) (A.runE bs.length)) := by
 have h' := h
 obtain ⟨s, f, x, y, rfl, ⟨sa, sc, rfl, hs', hsl, hsn⟩, ⟨fa, fc, vs, rfl, hf, hfn, hfl, hfv⟩, ⟨xa, xc, rfl, hx, hxl, hxn⟩, ⟨ya, yc, rfl, hy, hyl, hyn⟩⟩ := h
 apply cx_nfa_Search
 unfold VC_nfa_Search
 intro b m1 hm1 hrb _ _ b1
 have hnil : SlI false [] (.slice none 0 0) m1 := ⟨none, 0, rfl, .inl rfl, by simp, fun _ _ => rfl⟩
 refine lentC1 (cxy_run A hq _ bs ba bc true 82 [] [.pointer (some ⟨b, 0, none⟩), .pointer (some ⟨b1, 0, none⟩)] b1 (fun s n l => if A.accepts l then s ++ [(n : Int)] else s) SeaI (fun j s a b m m' h hm => ⟨h.1.mono hm, h.2⟩) [] none 0 0 none 0 0 m1 (cb_Search A (right_ok.1 hA) b1 b _ _ _ _ m1 hrb (h'.mono hm1)) (h'.mono hm1) (hb.mono hm1) ⟨hnil, rfl, by simp, by omega⟩) (by rintro v m' css tvs ⟨rfl, _⟩; rfl) ?_
 rintro n m2 hle2 _ cs a c d ⟨hn, hm2, j, a1, n1, c1, a2, n2, c2, hcs, htv, hinv, _⟩
 simp only [Value.int.injEq, true_and] at hn
 subst hn
 obtain rfl : cs = [.slice a1 n1 c1] := by simpa using hcs
 refine look_intro (v := .slice a1 n1 c1) rfl ⟨m2, Mem.le_trans hm1 hm2, Mem.le_refl _, _, rfl, ?_⟩
 exact hinv
theorem cx_MatchesN {stt : Bool} (A : Nf) (hq : ∀ q ∈ A.sets, QOk q) (v : Value) (bs : List Nat) (ba : Option Addr) (bc : Nat) (m : Mem) (h : NfR stt A v m) (hb : Byt m ba bs) (hlen : bs.length ≤ 4096) :
  CX Try.prog 18 #[v, .slice ba bs.length bc] m [] (Ret (.tuple #[.bool (A.right && A.matches bs), .int .i64 (if A.right then 0 else 171)])) := by
 have h' := h
 obtain ⟨s, f, x, y, rfl, ⟨sa, sc, rfl, hs', hsl, hsn⟩, ⟨fa, fc, vs, rfl, hf, hfn, hfl, hfv⟩, ⟨xa, xc, rfl, hx, hxl, hxn⟩, ⟨ya, yc, rfl, hy, hyl, hyn⟩⟩ := h
 apply cx_nfa_Matches
 unfold VC_nfa_Matches
 intro b m1 hm1 _
 refine call_any (cx_Run A hq _ bs ba bc m1 (h'.mono hm1) (hb.mono hm1)) lstE_fits ?_
 rintro a n c e m2 hm2 ⟨w, hv, a', c', rfl, hrow, hl, _⟩
 simp only [Value.tuple.injEq, Array.mk.injEq, List.cons.injEq, Value.slice.injEq, Value.int.injEq, true_and, and_true] at hv
 obtain ⟨⟨rfl, rfl, rfl⟩, rfl⟩ := hv
 have h12 := Mem.le_trans hm1 hm2
 by_cases hr : A.right = true
 ·have he : A.runE bs.length = 0 := by unfold Nf.runE; rw [if_neg (by rw [hr]; simp), if_neg (by omega)]
  simp only [he, if_true] at hrow hl ⊢
  have hA := right_ok.1 hr
  refine ⟨A.matches bs, 0, br_true rfl ?_, ret_pure h12 ?_⟩
  ·refine call_bool (cx_accepts A hA _ _ a c m2 (h'.mono h12) hrow hl (run_states hA bs _ (begin_states A))) fun m3 hm3 => ?_
   first | exact ⟨rfl, rfl⟩ | exact ⟨by trivial, rfl⟩
  ·rw [hr]; rfl
 ·have hr' : A.right = false := by simpa using hr
  have he : A.runE bs.length = 171 := by unfold Nf.runE; rw [if_pos hr']
  refine ⟨false, 171, br_false (by rw [he]; rfl) ?_, ret_pure h12 ?_⟩
  ·rw [he]; first | exact ⟨rfl, rfl⟩ | exact ⟨by trivial, rfl⟩
  ·rw [hr']; rfl
end Go.Proofs.Ytplacemlpkhmfaa

