/- Part of the proof: conditions and contracts of functions of this program. No condition of its own. -/
import Derived.Test.YtplacemlpkhmfaaPVND
import Derived.Test.YtplacemlpkhmfaaPC17J
import Derived.Test.YtplacemlpkhmfaaPC13C
import Derived.Test.YtplacemlpkhmfaaMr
set_option linter.unusedVariables false
set_option linter.unusedSimpArgs false
namespace Go.Proofs.Ytplacemlpkhmfaa
open Go Go.Eng Go.Rx Go.Proofs Go.RowKit
set_option maxRecDepth 100000
theorem cx_hasQ (q : QS) (hq : QOk q) (c : Nat) (hc : c < 256) (m : Mem) : CX Try.prog 117 #[.agg #[.int .u64 q.1, .int .u64 q.2.1, .int .u64 q.2.2.1, .int .u64 q.2.2.2], .int .u8 c] m [] (Ret (.bool (hasQ q c))) :=
 cx_sHas (qNode q) c hc m (rep_q hq m)
theorem cx_setI (l : List Int) (a : Option Addr) (c : Nat) (m : Mem) (h : rowRd m a (intVs l)) (hl : l.length ≤ 1000000) (hin : ∀ p ∈ l, 0 ≤ p ∧ p < 448) : CX Try.prog 112 #[.slice a l.length c] m [] (Ret (bwV (setM l 0))) := by
 apply cx_nfa_set
 unfold VC_nfa_set
 intro b b1
 refine ⟨fun xs css _ m' q => ∃ (k f : Nat), k ≤ l.length ∧ xs = [.int .i64 k] ∧ css = [bwL f] ∧ setM (l.drop k) f = setM l 0 ∧ m.le m' ∧ q = l.length - k, ⟨_, 0, 0, Nat.zero_le _, rfl, by rw [bw_zero], rfl, Mem.le_refl _, rfl⟩, ?_⟩
 rintro z cs m1 q hm1 ⟨k, f, hk, hz, hcs, he, _, hq⟩
 obtain rfl : z = k := by simpa using hz
 obtain rfl : cs = bwL f := by simpa using hcs
 subst hq
 refine br_intro (fun hlt => ?_) (fun hge => ?_)
 ·have hlt' : k < l.length := by have := of_decide_eq_true hlt; omega
  obtain ⟨x, hx⟩ := at_some' hlt'
  obtain ⟨b2, o, hab, hrd⟩ := rowI_get (h.mono hm1) hx
  have hxi := hin x (List.mem_of_getElem? hx)
  obtain ⟨i, rfl⟩ : ∃ i : Nat, x = i := ⟨x.toNat, by omega⟩
  rw [drop_at hx] at he
  refine ⟨b2, o, hab, ⟨by omega, by omega⟩, _, (by rw [Int.toNat_natCast]; exact hrd), _, trivial, cx_bput f i (by omega) b1 100 7 [] [] m1 (by omega), fun v _ _ h => by rw [h.1]; rfl, fun m2 hm2 cs2 hcs2 => ⟨by trivial, _, by omega, k + 1, f ||| 2 ^ i, hlt', by rw [wrap64 (by omega) (by omega)]; rfl, ?_, he, Mem.le_trans hm1 hm2, rfl⟩⟩
  have := hcs2.2
  simp only [List.nil_append, List.append_nil] at this
  exact this
 ·have : k = l.length := by have := of_decide_eq_false hge; omega
  subst this
  rw [List.drop_length] at he
  refine chk_intro rfl (ret_pure hm1 ?_)
  rw [← he]; rfl
theorem cx_acc1 (A : Nf) (f : Nat) (p : Int) (hp : -1 ≤ p ∧ p < 448) (s0 s1 s2 s3 : Value) (b c : Nat) (m : Mem) (hb : m.reads b 0 [s0, s1, s2, s3, .bool A.empty]) (hc : m.reads c 0 (bwL f)) : CX Try.prog 114 #[.int .i64 p, .pointer (some ⟨b, 0, none⟩), .pointer (some ⟨c, 0, none⟩)] m [] (Ret (.bool (if p = -1 then A.empty else f.testBit p.toNat))) := by
 apply cx_nfa_accepts_1
 unfold VC_nfa_accepts_1
 by_cases h : p = -1
 ·subst h
  rw [if_pos rfl]
  refine ⟨A.empty, br_true (by decide) ⟨_, (by simpa using hb 4 _ rfl), ?_⟩, ret_pure (Mem.le_refl _) rfl⟩
  cases A.empty
  ·exact chk_intro rfl (br_false rfl (br_false (by decide) rfl))
  ·exact chk_intro rfl (br_true rfl rfl)
 ·rw [if_neg h]
  obtain ⟨i, rfl⟩ : ∃ i : Nat, p = i := ⟨p.toNat, by omega⟩
  refine ⟨f.testBit i, br_false (by simp) (br_true (by simp) ?_), ret_pure (Mem.le_refl _) (by rw [Int.toNat_natCast])⟩
  exact call_bool (cx_bhas f i (by omega) c 0 m hc) fun m1 hm1 => rfl
theorem cx_IndexI (l : List Int) (a : Option Addr) (c : Nat) (g : Nat) (ca : List Value) (p : Int → Bool) (m : Mem) (h : rowRd m a (intVs l)) (hl : l.length ≤ 1000000) (hg : ∀ x ∈ l, ∀ m', m.le m' → CX Try.prog g (([.int .i64 x] : List Value) ++ ca).toArray m' [] (Ret (.bool (p x)))) :
  CX Try.prog 113 #[.slice a l.length c, .func (.func g) #[] ca.toArray] m [] (Ret (.bool (l.any p))) := by
 have hidx : CX Try.prog 146 #[.slice a l.length c, .func (.func g) #[] ca.toArray] m [] (fun v _ _ => ∃ n : Int, v = .int .i64 n ∧ decide (n ≥ 0) = l.any p) := by
  apply cx_slices_IndexFunc_int_int a l.length c g [] ca
  unfold VC_slices_IndexFunc_int_int
  refine ⟨fun xs _ _ m' q => ∃ k : Nat, k ≤ l.length ∧ xs = [.int .i64 k] ∧ (l.drop k).any p = l.any p ∧ m.le m' ∧ q = l.length - k, ⟨_, 0, Nat.zero_le _, rfl, rfl, Mem.le_refl _, rfl⟩, ?_⟩
  rintro z m1 q hm1 ⟨k, hk, hz, he, _, hq⟩
  obtain rfl : z = k := by simpa using hz
  subst hq
  refine br_intro (fun hlt => ?_) (fun hge => ?_)
  ·have hlt' : k < l.length := by have := of_decide_eq_true hlt; omega
   obtain ⟨x, hx⟩ := at_some' hlt'
   obtain ⟨b2, o, hab, hrd⟩ := rowI_get (h.mono hm1) hx
   rw [drop_at hx, List.any_cons] at he
   refine ⟨b2, o, hab, ⟨by omega, by omega⟩, _, (by rw [Int.toNat_natCast]; exact hrd), call_bool (hg x (List.mem_of_getElem? hx) m1 hm1) fun m2 hm2 => br_intro (fun h2 => ?_) (fun h2 => ⟨_, by omega, k + 1, hlt', by rw [wrap64 (by omega) (by omega)]; rfl, ?_, Mem.le_trans hm1 hm2, rfl⟩)⟩
   ·refine ⟨_, Mem.le_trans hm1 hm2, Mem.le_refl _, _, rfl, ?_⟩
    rw [← he, h2]; simp
   ·rw [← he, h2]; rfl
  ·have : k = l.length := by have := of_decide_eq_false hge; omega
   subst this
   refine ⟨_, hm1, Mem.le_refl _, _, rfl, ?_⟩
   rw [← he, List.drop_length]; rfl
 apply cx_slices_ContainsFunc_int_int a l.length c g [] ca
 unfold VC_slices_ContainsFunc_int_int
 refine call_any hidx (by rintro v m' css ⟨n, rfl, _⟩; rfl) ?_
 rintro n m1 hm1 ⟨n', hn, he⟩
 cases hn
 exact ret_pure hm1 (by rw [← he])
theorem cx_accepts {st : Bool} (A : Nf) (hA : A.Ok) (v : Value) (l : List Int) (a : Option Addr) (c : Nat) (m : Mem) (h : NfR st A v m) (hl : rowRd m a (intVs l)) (hll : l.length ≤ 1000000) (hs : A.states l = true) : CX Try.prog 68 #[v, .slice a l.length c] m [] (Ret (.bool (A.accepts l))) := by
 obtain ⟨s, f, x, y, rfl, ⟨sa, sc, rfl, hs', hsl, hsn⟩, ⟨fa, fc, vs, rfl, hf, hfn, hfl, hfv⟩, ⟨xa, xc, rfl, hx, hxl, hxn⟩, ⟨ya, yc, rfl, hy, hyl, hyn⟩⟩ := h
 have hn := hA.n
 apply cx_nfa_accepts
 unfold VC_nfa_accepts
 intro b m1 hm1 hb
 refine call_any (cx_setI A.last ya yc m1 (hy.mono hm1) hyl (fun p hp => by have := hA.last.2 p hp; unfold Nf.top at this; omega)) (by rintro v m' css rfl; rfl) ?_
 intro n0 n1 n2 n3 n4 n5 n6 m2 hm2 hv
 simp only [Ret, bwV, Value.agg.injEq, Array.mk.injEq, List.cons.injEq, Value.int.injEq, true_and, and_true] at hv
 obtain ⟨rfl, rfl, rfl, rfl, rfl, rfl, rfl⟩ := hv
 intro b1 m3 hm3 hb1
 have h13 := Mem.le_trans hm2 hm3
 refine call_bool (cx_IndexI l a c _ [.pointer (some ⟨b, 0, none⟩), .pointer (some ⟨b1, 0, none⟩)] A.acc1 m3 ((hl.mono hm1).mono h13) hll fun p hp m4 hm4 => ?_) fun m5 hm5 => ret_pure (Mem.le_trans hm1 (Mem.le_trans h13 hm5)) rfl
 have := states_mem hs p hp
 exact cx_acc1 A (setM A.last 0) p ⟨by omega, by unfold Nf.top at this; omega⟩ _ _ _ _ b b1 m4 ((hb.mono h13).mono hm4) (Mem.reads.mono hb1 hm4)
theorem cx_check {st : Bool} (A : Nf) (v : Value) (l : List Int) (a : Option Addr) (c : Nat) (m : Mem) (h : NfR st A v m) (hl : rowRd m a (intVs l)) (hll : l.length ≤ 1000000) : CX Try.prog 78 #[v, .slice a l.length c] m [] (Ret (.int .i64 (A.err l))) := by
 have h' := h
 obtain ⟨s, f, x, y, rfl, ⟨sa, sc, rfl, hs', hsl, hsn⟩, ⟨fa, fc, vs, rfl, hf, hfn, hfl, hfv⟩, ⟨xa, xc, rfl, hx, hxl, hxn⟩, ⟨ya, yc, rfl, hy, hyl, hyn⟩⟩ := h
 apply cx_nfa_check
 unfold VC_nfa_check
 intro b m1 hm1 hb
 refine call_bool (cx_Right A _ m1 (h'.mono hm1)) fun m2 hm2 => br_intro (fun h1 => ret_pure (Mem.le_trans hm1 hm2) ?_) (fun h1 => ?_)
 ·unfold Nf.err; rw [if_pos (by simpa using h1)]
 have hr : A.right = true := by simpa using h1
 have hw : IntKind.i64.wrap ((A.sets.length : Int) - 1) = A.top := wrap64 (by omega) (by omega)
 simp only [hw]
 refine call_bool (cx_rising l (-1) A.top a c m2 ((hl.mono hm1).mono hm2) hll ⟨by omega, by omega⟩) fun m3 hm3 => br_intro (fun h2 => ret_pure (Mem.le_trans hm1 (Mem.le_trans hm2 hm3)) ?_) (fun h2 => ret_pure (Mem.le_trans hm1 (Mem.le_trans hm2 hm3)) ?_)
 ·have : A.states l = false := by unfold Nf.states; simpa using h2
  unfold Nf.err; rw [hr, this]; rfl
 ·have : A.states l = true := by unfold Nf.states; simpa using h2
  unfold Nf.err; rw [hr, this]; rfl
theorem cx_step {st : Bool} (A : Nf) (hA : A.Ok) (hq : ∀ q ∈ A.sets, QOk q) (v : Value) (l : List Int) (a : Option Addr) (c ch : Nat) (hch : ch < 256) (m : Mem) (h : NfR st A v m) (hl : rowRd m a (intVs l)) (hll : l.length ≤ 1000000) (hs : A.states l = true) : CX Try.prog 79 #[v, .slice a l.length c, .int .u8 ch] m [] (fun v m' _ => SlI true (A.step l ch) v m') := by
 obtain ⟨s, f, x, y, rfl, ⟨sa, sc, rfl, hs', hsl, hsn⟩, ⟨fa, fc, vs, rfl, hf, hfn, hfl, hfv⟩, ⟨xa, xc, rfl, hxf, hxl, hxn⟩, ⟨ya, yc, rfl, hy, hyl, hyn⟩⟩ := h
 have hn := hA.n
 have hlen := hA.len
 apply cx_nfa_step
 unfold VC_nfa_step
 intro b m1 hm1 hb b1
 refine ⟨fun xs css _ m' q => ∃ (k f : Nat), k ≤ l.length ∧ xs = [.int .i64 k] ∧ css = [bwL f] ∧ A.stepM (l.drop k) ch f = A.stepM l ch 0 ∧ m1.le m' ∧ q = l.length - k, ⟨_, 0, 0, Nat.zero_le _, rfl, by rw [bw_zero], rfl, Mem.le_refl _, rfl⟩, ?_⟩
 rintro z cs m2 q hm2 ⟨k, f, hk, hz, hcs, he, _, hq⟩
 obtain rfl : z = k := by simpa using hz
 obtain rfl : cs = bwL f := by simpa using hcs
 subst hq
 have h02 := Mem.le_trans hm1 hm2
 refine br_intro (fun hlt => ?_) (fun hge => ?_)
 ·have hlt' : k < l.length := by have := of_decide_eq_true hlt; omega
  obtain ⟨p, hp⟩ := at_some' hlt'
  obtain ⟨b2, o, hab, hrd⟩ := rowI_get (hl.mono h02) hp
  have hpb := states_mem hs p (List.mem_of_getElem? hp)
  rw [drop_at hp] at he
  have he' : A.stepM (l.drop (k + 1)) ch ((A.fromL p).foldl (A.step1 ch) f) = A.stepM l ch 0 := he
  have inner : ∀ (w : List Int), A.fromL p = w → w.length ≤ 1000000 → ∀ (wa : Option Addr), rowRd m2 wa (intVs w) → ∀ (k2 f2 : Nat) (m3 : Mem) (x : Int), m2.le m3 → w[k2]? = some x → ∃ (i : Nat) (bs os : Nat) (qq : QS), x = i ∧ i < 448 ∧ sa = some ⟨bs, os, none⟩ ∧ (0 ≤ x ∧ x < (A.sets.length : Nat)) ∧ m3.reads bs (os + x.toNat * 4) [.int .u64 qq.1, .int .u64 qq.2.1, .int .u64 qq.2.2.1, .int .u64 qq.2.2.2] ∧ QOk qq ∧ hasQ qq ch = A.hasAt x ch := by
   intro w hw _ wa _ k2 f2 m3 x hm3 hx
   have hb := (fromL_row hA p).2 x (by rw [hw]; exact List.mem_of_getElem? hx)
   unfold Nf.top at hb
   obtain ⟨qq, hqq⟩ := at_some' (l := A.sets) (k := x.toNat) (by omega)
   obtain ⟨bs, os, hsa, hsrd⟩ := rowQ_get ((hs'.mono h02).mono hm3) hqq
   refine ⟨x.toNat, bs, os, qq, by omega, by omega, hsa, ⟨by omega, by omega⟩, hsrd, hq qq (List.mem_of_getElem? hqq), ?_⟩
   unfold Nf.hasAt; rw [hqq]; rfl
  have hw1 : IntKind.i64.wrap ((k : Int) + 1) = ((k + 1 : Nat) : Int) := by rw [wrap64 (by omega) (by omega)]; rfl
  refine ⟨b2, o, hab, ⟨by omega, by omega⟩, _, (by rw [Int.toNat_natCast]; exact hrd), chk_intro rfl (br_intro (fun hne => ?_) (fun hne => ?_))⟩
  ·have hp1 : ¬ p = -1 := by simpa [intOf] using hne
   have hpn : p.toNat < A.fol.length := by unfold Nf.top at hpb; omega
   obtain ⟨w, hw⟩ := at_some' hpn
   obtain ⟨u, hu⟩ := at_some' (l := vs) (k := p.toNat) (by omega)
   obtain ⟨wa, wc, rfl, hwr, hwl, _⟩ := (hfv _ u w hu hw).mono h02
   obtain ⟨fb, fo, hfa, hfrd⟩ := row1_get (hf.mono h02) hu
   have hfrom : A.fromL p = w := by unfold Nf.fromL; rw [if_neg hp1, hw]; rfl
   refine chk_intro rfl ⟨fb, fo, hfa, ⟨by show 0 ≤ p; omega, by show p < (A.fol.length : Nat); omega⟩, _, (show m2 fb (fo + p.toNat * 1) = some _ from hfrd), chk_intro rfl ?_⟩
   refine ⟨fun xs css _ m' q => ∃ (j f2 : Nat), j ≤ w.length ∧ xs = [.int .i64 j] ∧ css = [bwL f2] ∧ (w.drop j).foldl (A.step1 ch) f2 = (A.fromL p).foldl (A.step1 ch) f ∧ m2.le m' ∧ q = w.length - j, ⟨_, 0, f, Nat.zero_le _, rfl, rfl, by rw [hfrom]; rfl, Mem.le_refl _, rfl⟩, ?_⟩
   rintro z cs m3 q hm3 ⟨j, f2, hj, hz, hcs, he2, _, hq⟩
   obtain rfl : z = j := by simpa using hz
   obtain rfl : cs = bwL f2 := by simpa using hcs
   subst hq
   refine br_intro (fun hlt2 => ?_) (fun hge2 => ?_)
   ·have hlt2' : j < w.length := by have := of_decide_eq_true hlt2; simp only [slN] at this; omega
    obtain ⟨x, hx⟩ := at_some' hlt2'
    obtain ⟨b3, o3, hab3, hrd3⟩ := rowI_get (hwr.mono hm3) hx
    obtain ⟨i, bs, os, qq, rfl, hi, hsa, hin, hsrd, hqo, hhas⟩ := inner w hfrom hwl wa hwr j f2 m3 x hm3 hx
    rw [drop_at hx, List.foldl_cons] at he2
    have hw2 : IntKind.i64.wrap ((j : Int) + 1) = ((j + 1 : Nat) : Int) := by rw [wrap64 (by omega) (by omega)]; rfl
    refine chk_intro rfl ⟨b3, o3, hab3, ⟨by omega, by show (j : Int) < (w.length : Nat); omega⟩, .int .i64 (i : Int), (by rw [Int.toNat_natCast]; exact hrd3), chk_intro rfl ⟨bs, os, hsa, hin, _, _, _, _, hsrd, ?_⟩⟩
    refine call_bool (cx_hasQ qq hqo ch hch m3) fun m4 hm4 => br_intro (fun hh => ?_) (fun hh => ?_)
    ·refine ⟨_, trivial, cx_bput f2 i hi b1 100 7 [] [] m4 (by omega), fun v _ _ h => by rw [h.1]; rfl, fun m5 hm5 cs5 hcs5 => ⟨by trivial, _, by omega, j + 1, f2 ||| 2 ^ i, hlt2', by rw [hw2], ?_, ?_, Mem.le_trans hm3 (Mem.le_trans hm4 hm5), rfl⟩⟩
     ·have := hcs5.2
      simp only [List.nil_append, List.append_nil] at this
      exact this
     ·rw [hhas] at hh
      rw [← he2]; unfold Nf.step1; rw [if_pos hh, Int.toNat_natCast]
    ·refine ⟨by trivial, _, by omega, j + 1, f2, hlt2', by rw [hw2], rfl, ?_, Mem.le_trans hm3 hm4, rfl⟩
     rw [hhas] at hh
     rw [← he2]; unfold Nf.step1; rw [if_neg (by simp [hh])]
   ·have : j = w.length := by have := of_decide_eq_false hge2; simp only [slN] at this; omega
    subst this
    rw [List.drop_length, List.foldl_nil] at he2
    exact ⟨by trivial, _, by omega, k + 1, f2, hlt', by rw [hw1], rfl, by rw [he2]; exact he', Mem.le_trans hm2 hm3, rfl⟩
  ·have hp1 : p = -1 := by simpa [intOf] using hne
   have hfrom : A.fromL p = A.first := by unfold Nf.fromL; rw [if_pos hp1]
   refine ⟨fun xs css _ m' q => ∃ (j f2 : Nat), j ≤ A.first.length ∧ xs = [.int .i64 j] ∧ css = [bwL f2] ∧ (A.first.drop j).foldl (A.step1 ch) f2 = (A.fromL p).foldl (A.step1 ch) f ∧ m2.le m' ∧ q = A.first.length - j, ⟨_, 0, f, Nat.zero_le _, rfl, rfl, by rw [hfrom]; rfl, Mem.le_refl _, rfl⟩, ?_⟩
   rintro z cs m3 q hm3 ⟨j, f2, hj, hz, hcs, he2, _, hq⟩
   obtain rfl : z = j := by simpa using hz
   obtain rfl : cs = bwL f2 := by simpa using hcs
   subst hq
   refine br_intro (fun hlt2 => ?_) (fun hge2 => ?_)
   ·have hlt2' : j < A.first.length := by have := of_decide_eq_true hlt2; omega
    obtain ⟨x, hx⟩ := at_some' hlt2'
    obtain ⟨b3, o3, hab3, hrd3⟩ := rowI_get ((hxf.mono h02).mono hm3) hx
    obtain ⟨i, bs, os, qq, rfl, hi, hsa, hin, hsrd, hqo, hhas⟩ := inner A.first hfrom hxl xa (hxf.mono h02) j f2 m3 x hm3 hx
    rw [drop_at hx, List.foldl_cons] at he2
    have hw2 : IntKind.i64.wrap ((j : Int) + 1) = ((j + 1 : Nat) : Int) := by rw [wrap64 (by omega) (by omega)]; rfl
    refine ⟨b3, o3, hab3, ⟨by omega, by omega⟩, .int .i64 (i : Int), (by rw [Int.toNat_natCast]; exact hrd3), chk_intro rfl ⟨bs, os, hsa, hin, _, _, _, _, hsrd, ?_⟩⟩
    refine call_bool (cx_hasQ qq hqo ch hch m3) fun m4 hm4 => br_intro (fun hh => ?_) (fun hh => ?_)
    ·refine ⟨_, trivial, cx_bput f2 i hi b1 100 7 [] [] m4 (by omega), fun v _ _ h => by rw [h.1]; rfl, fun m5 hm5 cs5 hcs5 => ⟨by trivial, _, by omega, j + 1, f2 ||| 2 ^ i, hlt2', by rw [hw2], ?_, ?_, Mem.le_trans hm3 (Mem.le_trans hm4 hm5), rfl⟩⟩
     ·have := hcs5.2
      simp only [List.nil_append, List.append_nil] at this
      exact this
     ·rw [hhas] at hh
      rw [← he2]; unfold Nf.step1; rw [if_pos hh, Int.toNat_natCast]
    ·refine ⟨by trivial, _, by omega, j + 1, f2, hlt2', by rw [hw2], rfl, ?_, Mem.le_trans hm3 hm4, rfl⟩
     rw [hhas] at hh
     rw [← he2]; unfold Nf.step1; rw [if_neg (by simp [hh])]
   ·have : j = A.first.length := by have := of_decide_eq_false hge2; omega
    subst this
    rw [List.drop_length, List.foldl_nil] at he2
    exact ⟨by trivial, _, by omega, k + 1, f2, hlt', by rw [hw1], rfl, by rw [he2]; exact he', Mem.le_trans hm2 hm3, rfl⟩
 ·have : k = l.length := by have := of_decide_eq_false hge; omega
  subst this
  rw [List.drop_length] at he
  intro m3 hm3 hb3
  refine call_any (cx_listI f b1 0 m3 hb3) sli_fits ?_
  intro a4 n4 c4 m4 hm4 hR
  refine ⟨m4, Mem.le_trans h02 (Mem.le_trans hm3 hm4), Mem.le_refl _, ?_⟩
  have : A.step l ch = bitsI f := by unfold Nf.step; rw [← he]; rfl
  rw [this]; exact hR
end Go.Proofs.Ytplacemlpkhmfaa

