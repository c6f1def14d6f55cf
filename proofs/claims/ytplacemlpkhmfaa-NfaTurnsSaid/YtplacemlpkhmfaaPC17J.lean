/- Part of the proof: conditions and contracts of functions of this program. No condition of its own. -/
import Derived.Test.YtplacemlpkhmfaaPC17I
import Derived.Test.YtplacemlpkhmfaaMr
set_option linter.unusedVariables false
set_option linter.unusedSimpArgs false
namespace Go.Proofs.Ytplacemlpkhmfaa
open Go Go.Eng Go.Rx Go.Proofs Go.RowKit
set_option maxRecDepth 100000
theorem nfr_fits {st : Bool} {A : Nf} : ∀ (v : Value) (m' : Mem) (css : List (List Value)), NfR st A v m' → Shape.fits (.agg [.slice, .slice, .slice, .slice, .bool]) v = true := by
 rintro v m' css ⟨s, f, x, y, rfl, ⟨_, _, rfl, _⟩, ⟨_, _, _, rfl, _⟩, ⟨_, _, rfl, _⟩, ⟨_, _, rfl, _⟩⟩; rfl
theorem cx_Turn_ok (A : Nf) (v : Value) (m : Mem) (h : NfR true A v m) (hr : A.right = true) : CX Try.prog 16 #[v] m [] (NfE A.turn 0) := by
 have h' := h
 have hok := right_ok.1 hr
 have hN0 := hok.n
 have hNl := hok.len
 obtain ⟨s, f, x, y, rfl, ⟨sa, sc, rfl, hs, hsl, hsn⟩, ⟨fa, fc, vs, rfl, hf, hfn, hfl, hfv⟩, ⟨xa, xc, rfl, hx, hxl, hxn⟩, ⟨ya, yc, rfl, hy, hyl, hyn⟩⟩ := h
 apply cx_nfa_Turn
 unfold VC_nfa_Turn
 intro b m1 hm1 hb1 hf0 hn1 b1
 refine call_bool (cx_Right A _ m1 (h'.mono hm1)) fun m2 hm2 => br_false (by rw [hr]; rfl) ?_
 refine call_any (cx_CopyN A _ m2 ((h'.mono hm1).mono hm2) (by omega)) nfr_fits ?_
 rintro a2 n2 c2 a3 n3 c3 a4 n4 c4 a5 n5 c5 e5 base hm3 ⟨s', f', x', y', hv, hs', hf', hx', hy'⟩
 simp only [Value.agg.injEq, Array.mk.injEq, List.cons.injEq, Value.bool.injEq, and_true] at hv
 obtain ⟨rfl, rfl, rfl, rfl, rfl⟩ := hv
 intro b4
 have h0b : m.le base := Mem.le_trans hm1 (Mem.le_trans hm2 hm3)
 have hbk : ∀ k, base.free k → b ≠ k := fun k hk e => by
  subst e
  have h1 := Mem.le_trans hm2 hm3 _ _ _ (hb1 0 _ rfl)
  rw [hk] at h1; cases h1
 refine ⟨⟨by omega, by omega, by show (A.fol.length : Int) * 24 ≤ _; omega, by omega⟩, fun b5 hb5 => ?_⟩
 simp only [Int.toNat_natCast]
 have hrep : ∀ N : Nat, (List.replicate N [Value.slice none 0 0]).flatten = List.replicate N (.slice none 0 0) := fun N => by
  induction N with
  | zero => rfl
  | succ N ih => rw [List.replicate_succ, List.flatten_cons, ih]; rfl
 rw [hrep]
 have start : TurnI base (base.add b5 (List.replicate A.fol.length (.slice none 0 0))) b5 (fun _ => none) (List.replicate A.fol.length []) := by
  refine ⟨Mem.le_add hb5 _, hb5, fun q l hq => ?_, fun _ _ _ _ _ h => by simp at h, fun q x h => by simp at h⟩
  rw [List.getElem?_replicate] at hq
  split at hq
  ·rename_i hlt
   cases hq
   refine .inl ⟨rfl, rfl, ?_⟩
   rw [Mem.add_same, List.getElem?_replicate, if_pos hlt]
  ·cases hq
 refine ⟨fun xs _ _ m' q => ∃ (p : Nat) (F : Nat → Option (Nat × Nat)) (cur : List (List Int)), p ≤ A.fol.length ∧ xs = [.int .i64 p] ∧ TurnI base m' b5 F cur ∧ cur.length = A.fol.length ∧ turnRows (A.fol.drop p) p cur = turnF A.fol ∧ (∀ l ∈ cur, l.length ≤ p * 1000000) ∧ q = A.fol.length - p, ⟨_, 0, _, _, Nat.zero_le _, rfl, start, List.length_replicate, rfl, fun l hl => by obtain ⟨_, rfl⟩ := List.mem_replicate.1 hl; exact Nat.zero_le _, rfl⟩, ?_⟩
 rintro z m6 q _ ⟨p, F, cur, hp, hz, hT, hcl, hrest, hbd, hq⟩
 obtain rfl : z = p := by simpa using hz
 subst hq
 refine br_intro (fun hlt => ?_) (fun hge => ?_)
 ·have hlt' : p < A.fol.length := by have := of_decide_eq_true hlt; omega
  obtain ⟨l, hl⟩ := at_some' hlt'
  obtain ⟨u, hu⟩ := at_some' (l := vs) (k := p) (by omega)
  obtain ⟨la, lc, rfl, hlr, hll, _⟩ := (hfv p u l hu hl).mono (Mem.le_trans h0b hT.le)
  obtain ⟨fb, fo, hfa, hfrd⟩ := row1_get (hf.mono (Mem.le_trans h0b hT.le)) hu
  have hlr0 : rowRd base la (intVs l) := by
   obtain ⟨la', lc', e, hlr', _⟩ := (hfv p _ l hu hl).mono h0b
   simp only [Value.slice.injEq] at e
   rw [e.1]; exact hlr'
  have hlrow := hok.fol l (List.mem_of_getElem? hl)
  refine ⟨fb, fo, hfa, ⟨by omega, by omega⟩, _, (by rw [Int.toNat_natCast]; exact hfrd), chk_intro rfl ?_⟩
  refine ⟨fun xs _ _ m' q => ∃ (j : Nat) (F : Nat → Option (Nat × Nat)) (cur' : List (List Int)), j ≤ l.length ∧ xs = [.int .i64 j] ∧ TurnI base m' b5 F cur' ∧ cur'.length = A.fol.length ∧ (l.drop j).foldl (pushP p) cur' = turnRow p cur l ∧ (∀ x ∈ cur', x.length ≤ p * 1000000 + j) ∧ q = l.length - j, ⟨_, 0, F, cur, Nat.zero_le _, rfl, hT, hcl, by rw [List.drop_zero]; unfold turnRow; rfl, fun x hx => Nat.le_trans (hbd x hx) (Nat.le_add_right _ _), rfl⟩, ?_⟩
  rintro z m7 q _ ⟨j, F2, cur2, hj, hz, hT2, hcl2, hrest2, hbd2, hq⟩
  obtain rfl : z = j := by simpa using hz
  subst hq
  refine br_intro (fun hlt2 => ?_) (fun hge2 => ?_)
  ·have hlt2' : j < l.length := by have := of_decide_eq_true hlt2; simp only [slN] at this; omega
   obtain ⟨x, hx⟩ := at_some' hlt2'
   have hxb := hlrow.2 x (List.mem_of_getElem? hx)
   have hxn : x.toNat < A.fol.length := by have := hxb.2; unfold Nf.top at this; omega
   obtain ⟨lb, lo, hla, hxr⟩ := rowI_get (hlr0.mono hT2.le) hx
   obtain ⟨c, hc⟩ := at_some' (l := cur2) (k := x.toNat) (by omega)
   have hclen := hbd2 c (List.mem_of_getElem? hc)
   rw [drop_at hx, List.foldl_cons] at hrest2
   have hcell := hT2.cell _ _ hc
   obtain ⟨ga, gc, hga, hacq, hrow, hfree⟩ : ∃ (ga : Option Addr) (gc : Nat), m7 b5 x.toNat = some (.slice ga c.length gc) ∧ AcqM m7 m 1 ga c.length gc ∧ rowRd (m7.cutA ga (c.length * 1)) ga (intVs c) ∧ ∀ k, ga = some ⟨k, 0, none⟩ → base.free k ∧ k ≠ b5 := by
    rcases hcell with ⟨_, rfl, h3⟩ | ⟨bq, c0, _, h2, h3, h4, h5, h6, h7, h8⟩
    ·exact ⟨none, 0, h3, .inl ⟨rfl, rfl, rfl⟩, .inl rfl, fun k hk => by cases hk⟩
    ·have hpos : 0 < c.length := List.length_pos_iff.2 h2
     refine ⟨_, c0, h4, .inr ⟨bq, rfl, h3, by omega, fun o ho => h5 o (by omega), free_of' h0b h7⟩, .inr ⟨bq, 0, rfl, fun i v hv => ?_⟩, fun k hk => by cases hk; exact ⟨h7, h8⟩⟩
     have hil := (List.getElem?_eq_some_iff.1 hv).1
     rw [intVs_len] at hil
     simp only [Mem.cutA]
     rw [if_neg (by omega)]
     exact h6 i v hv
   have hcut5 : (m7.cutA ga (c.length * 1)) b5 x.toNat = some (.slice ga c.length gc) := by
    unfold Mem.cutA
    split
    ·rename_i k o sp
     have hk : k ≠ b5 := by
      rcases hacq with ⟨h1, _⟩ | ⟨k', h1, _⟩
      ·cases h1
      ·cases h1; exact (hfree _ rfl).2
     rw [if_neg (fun hc => hk hc.1.symm)]; exact hga
    ·exact hga
   have hcut5' : (m7.cutA ga (c.length * 1)) b5 (0 + (intOf (Value.int .i64 x)).toNat * 1) = some (.slice ga c.length gc) := by
    have e : 0 + (intOf (Value.int .i64 x)).toNat * 1 = x.toNat := by show 0 + x.toNat * 1 = _; omega
    rw [e]; exact hcut5
   refine chk_intro rfl ⟨lb, lo, hla, ⟨by omega, by show (j : Int) < (l.length : Nat); omega⟩, _, (by rw [Int.toNat_natCast]; exact hxr), ga, c.length, gc, hacq, fun k hk => ⟨hbk k ?_, trivial⟩, chk_intro rfl ⟨b5, 0, rfl, ⟨by show 0 ≤ x; omega, by show x < (A.fol.length : Nat); omega⟩, _, hcut5', fun b9 hb9 => chk_intro rfl ?_⟩⟩
   ·cases ga with
    | none => simp [Tok.blk] at hk
    | some ad =>
     obtain ⟨k', o, sp⟩ := ad
     rcases hacq with ⟨h1, _⟩ | ⟨k2, h1, _⟩
     ·cases h1
     ·cases h1
      simp [Tok.blk] at hk
      subst hk
      exact (hfree _ rfl).1
   refine ⟨.inl rfl, intVs c, [.int .i64 (p : Int)], by rw [intVs_len]; exact (Nat.mul_one _).symm, rfl, hrow.mono (Mem.le_add hb9 _), row_one, by simp [Value.oneCell'], by show (c.length + 1) * 8 ≤ _; omega, by show c.length + 1 ≤ _; omega, fun a' c' m8 hm8 hr8 htf M hM1 hM2 hM3 => chk_intro rfl ⟨b5, 0, rfl, ⟨by show 0 ≤ x; omega, by show x < (A.fol.length : Nat); omega⟩, ⟨[.slice ga c.length gc], rfl, fun i v hv => ?_⟩, free_of' h0b hb5, by trivial, fun e => ?_, hbk b5 hb5, fun zs hzs => ⟨by trivial, ?_⟩⟩⟩
   ·cases i with
    | zero =>
     simp at hv; subst hv
     show M b5 (0 + x.toNat * 1 + 0) = _
     rw [Nat.add_zero, Nat.zero_add, Nat.mul_one]
     exact hM1 _ _ _ hcut5
    | succ i => simp at hv
   ·subst e
    rw [hb9] at hcut5; cases hcut5
   ·obtain ⟨F3, hT3⟩ := hT2.push (p := p) (by omega : 0 ≤ x) hc hga (Mem.le_add hb9 _) hr8 htf hM1 hM3 zs hzs
    refine ⟨_, by omega, j + 1, F3, _, hlt2', by rw [wrap64 (by omega) (by omega)]; rfl, ?_, by rw [pushP_len]; exact hcl2, hrest2, fun y hy => ?_, rfl⟩
    ·have e : 0 + (intOf (Value.int .i64 x)).toNat * 1 = x.toNat := by show 0 + x.toNat * 1 = _; omega
     rw [e]; exact hT3
    ·obtain ⟨i, hi⟩ := List.getElem?_of_mem hy
     have hil := (List.getElem?_eq_some_iff.1 hi).1
     rw [pushP_len] at hil
     rw [pushP_get (List.getElem?_eq_getElem hil)] at hi
     have := hbd2 _ (List.getElem_mem hil)
     split at hi <;> cases hi
     ·rw [List.length_append, List.length_singleton]; omega
     ·omega
  ·have : j = l.length := by have := of_decide_eq_false hge2; simp only [slN] at this; omega
   subst this
   rw [List.drop_length, List.foldl_nil] at hrest2
   refine ⟨by trivial, _, by omega, p + 1, F2, cur2, hlt', by rw [wrap64 (by omega) (by omega)]; rfl, hT2, hcl2, ?_, fun y hy => by have := hbd2 y hy; omega, rfl⟩
   rw [hrest2, ← hrest, drop_at hl, turnRows]
 ·have : p = A.fol.length := by have := of_decide_eq_false hge; omega
  subst this
  rw [List.drop_length, turnRows] at hrest
  subst hrest
  have hfin : ∀ (q : Nat) (l : List Int), (turnF A.fol)[q]? = some l → ∃ w, m6 b5 q = some w ∧ SlI true l w m6 := fun q l hql => by
   have hlen := (turnF_sorted hql hok.rows).2
   rcases hT.cell _ _ hql with ⟨_, rfl, h3⟩ | ⟨bq, c0, _, h2, h3, h4, _, h6, _, _⟩
   ·exact ⟨_, h3, none, 0, rfl, .inl rfl, by simp, fun _ _ => rfl⟩
   ·exact ⟨_, h4, _, c0, rfl, .inr ⟨bq, 0, rfl, h6⟩, by omega, fun _ e => absurd e h2⟩
  have hvs : ∀ (i : Nat) (v : Value), ((List.range A.fol.length).map fun q => ((m6 b5 q).getD (.bool false)))[i]? = some v → i < A.fol.length ∧ ∃ l, (turnF A.fol)[i]? = some l ∧ m6 b5 i = some v ∧ SlI true l v m6 := fun i v hv => by
   have hil := (List.getElem?_eq_some_iff.1 hv).1
   rw [List.length_map, List.length_range] at hil
   rw [List.getElem?_map, List.getElem?_range hil] at hv
   simp only [Option.map_some, Option.some.injEq] at hv
   obtain ⟨l, hl⟩ := at_some' (l := turnF A.fol) (k := i) (by rw [turnF_len]; exact hil)
   obtain ⟨w, hw1, hw2⟩ := hfin i l hl
   rw [hw1] at hv
   have : w = v := hv
   subst this
   exact ⟨hil, l, hl, hw1, hw2⟩
  refine ⟨m6, Mem.le_trans h0b hT.le, Mem.le_refl _, _, rfl, _, _, _, _, rfl, hs'.mono hT.le, ⟨some ⟨b5, 0, none⟩, A.fol.length, (List.range A.fol.length).map fun q => ((m6 b5 q).getD (.bool false)), ?_, .inr ⟨b5, 0, rfl, fun i v hv => ?_⟩, ?_, ?_, fun i v l hv hl => ?_⟩, hy'.mono hT.le, hx'.mono hT.le⟩
  ·show _ = Value.slice _ (turnF A.fol).length _
   rw [turnF_len]
  ·rw [Nat.zero_add]
   obtain ⟨_, l, _, h2, _⟩ := hvs i v hv
   exact h2
  ·show _ = (turnF A.fol).length
   rw [turnF_len, List.length_map, List.length_range]
  ·show (turnF A.fol).length ≤ _
   rw [turnF_len]; exact hfl
  ·obtain ⟨_, l2, h1, _, h3⟩ := hvs i v hv
   rw [show A.turn.fol = turnF A.fol from rfl, h1] at hl
   cases hl; exact h3
end Go.Proofs.Ytplacemlpkhmfaa

