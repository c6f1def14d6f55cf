/- Part of the proof: conditions and contracts of functions of this program. No condition of its own. -/
import Derived.Test.YtplacemlpkhmfaaPC17F
set_option linter.unusedVariables false
set_option linter.unusedSimpArgs false
namespace Go.Proofs.Ytplacemlpkhmfaa
open Go Go.Eng Go.Rx Go.Proofs Go.RowKit
set_option maxRecDepth 100000
theorem bounds_spec {mn mx : Int} (h : bounds mn mx = true) : 0 ≤ mn ∧ mn ≤ 16 ∧ (mx = -1 ∨ (1 ≤ mx ∧ mx ≤ 16)) := by
 unfold bounds at h
 simp only [Bool.and_eq_true, Bool.not_eq_true', Bool.or_eq_false_iff, Bool.or_eq_true, decide_eq_false_iff_not, decide_eq_true_eq, beq_iff_eq] at h
 omega
theorem mkHd_one {l : List T} {y : T} (h : l[0]? = some y) (s : Ms) : mkHd l s = mk y s := by
 cases l with
 | nil => simp at h
 | cons z l => simp at h; subst h; rw [mkHd]
theorem repM_step (f : Ms → Pt × Ms) (mn mx : Int) (N k : Nat) (hk : k < N) (out : Pt) (s : Ms) (s2 : Ms) (hs2 : s2 = if mx = -1 ∧ k + 1 = N then ⟨(f s).2.sets, loopF (f s).2.fol (f s).1.last (f s).1.first⟩ else (f s).2) (y : Pt) (hy : y = ⟨(f s).1.first, (f s).1.last, (f s).1.null || decide ((k : Int) ≥ mn)⟩) :
  repM f mn mx N (N - k) k out s = repM f mn mx N (N - (k + 1)) (k + 1) (thenM out y s2).1 (thenM out y s2).2 := by
 subst hs2 hy
 rw [show N - k = (N - (k + 1)) + 1 by omega, repM]
abbrev RepI (t : T) (s : Ms) (m : Mem) (v0 v1 : Value) (N : Nat) : List Value → List (List Value) → List Value → Mem → Nat → Prop := fun xs css tvs m' q => ∃ (k : Nat) (out : Pt) (s' : Ms) (a : Option Addr) (n c : Nat) (a1 : Option Addr) (n1 c1 : Nat), k ≤ N ∧ xs = [.int .i64 k] ∧ css = [out.cs, [.slice a n c, .slice a1 n1 c1]] ∧ tvs = [.slice a n c, .slice a1 n1 c1] ∧ q = N - k ∧ MkSt m v0 v1 m' (.slice a n c) (.slice a1 n1 c1) s' ∧ PtIn s'.sets.length out ∧ repM (fun s => mkHd t.subs s) t.mn t.mx N (N - k) k out s' = repM (fun s => mkHd t.subs s) t.mn t.mx N N 0 ⟨0, 0, true⟩ s
theorem cxy_repeat (t : T) (ht : t.subs.length = 1) (hb : bounds t.mn t.mx = true) (ih : ∀ x ∈ t.subs, MkC x) (s : Ms) (mkb : Nat) (t0a t1a : Option Addr) (t0n t0c t1n t1c : Nat) (m : Mem) (h : MkRow m (.slice t0a t0n t0c) (.slice t1a t1n t1c) s) (hs : MsOk s) (hr : Rep (m.off (Yof (.slice t0a t0n t0c) (.slice t1a t1n t1c))) t) (hN : (repM (fun s => mkHd t.subs s) t.mn t.mx (rndN t.mn t.mx) (rndN t.mn t.mx) 0 ⟨0, 0, true⟩ s).2.sets.length ≤ 448) :
  CXY Try.prog 142 #[.pointer (some ⟨mkb, 0, none⟩), t.v] m (Yof (.slice t0a t0n t0c) (.slice t1a t1n t1c)) [⟨mkb, [.slice t0a t0n t0c, .slice t1a t1n t1c], 98, 2, false, true⟩] [⟨.slice t0a t0n t0c, 4⟩, ⟨.slice t1a t1n t1c, 7⟩]
   (MkR (.slice t0a t0n t0c) (.slice t1a t1n t1c) m (repM (fun s => mkHd t.subs s) t.mn t.mx (rndN t.mn t.mx) (rndN t.mn t.mx) 0 ⟨0, 0, true⟩ s)) := by
 apply cxy_nfa_maker_repeat
 unfold VC_nfa_maker_repeat
 intro b0 m1 hm1 _ hf0 hn1 b1
 obtain ⟨hb1, hb2, hb3⟩ := bounds_spec hb
 obtain ⟨y, hy⟩ : ∃ y, t.subs[0]? = some y := ⟨t.subs[0], by simp [ht]⟩
 have hym := List.mem_of_getElem? hy
 rcases (Rep_iff hr).2 with he | ⟨bt, ot, hat, hrt⟩
 ·rw [he] at ht; simp at ht
 obtain ⟨hrd, hry⟩ := hrt.get hy
 rw [Nat.zero_mul] at hrd
 generalize hNN : rndN t.mn t.mx = N at hN ⊢
 have hN16 : N ≤ 16 := by
  rw [← hNN]; unfold rndN; split <;> omega
 have grow : ∀ (q k : Nat) (out : Pt) (s' : Ms), MsOk s' → PtIn s'.sets.length out → Grows s' (repM (fun s => mkHd t.subs s) t.mn t.mx N q k out s') := fun q k out s' h1 h2 => repM_grows (fun s h => mkHd_grows _ s h) _ _ _ _ _ _ _ h1 h2
 have round : ∀ (k : Nat) (out : Pt) (s' s2 : Ms) (z : Pt), k < N → MsOk s' → PtIn s'.sets.length out → s2 = (if t.mx = -1 ∧ k + 1 = N then ⟨(mk y s').2.sets, loopF (mk y s').2.fol (mk y s').1.last (mk y s').1.first⟩ else (mk y s').2) → z = ⟨(mk y s').1.first, (mk y s').1.last, (mk y s').1.null || decide ((k : Int) ≥ t.mn)⟩ →
   repM (fun s => mkHd t.subs s) t.mn t.mx N (N - k) k out s' = repM (fun s => mkHd t.subs s) t.mn t.mx N N 0 ⟨0, 0, true⟩ s → Grows s' (mk y s') ∧ (mk y s').2.sets.length ≤ 448 ∧ MsOk s2 ∧ s2.sets = (mk y s').2.sets ∧ PtIn s2.sets.length out ∧ PtIn s2.sets.length z ∧ Grows s2 (thenM out z s2) ∧
   repM (fun s => mkHd t.subs s) t.mn t.mx N (N - (k + 1)) (k + 1) (thenM out z s2).1 (thenM out z s2).2 = repM (fun s => mkHd t.subs s) t.mn t.mx N N 0 ⟨0, 0, true⟩ s := by
  intro k out s' s2 z hk hs' hp hs2 hz heq
  have hstep := repM_step (fun s => mkHd t.subs s) t.mn t.mx N k hk out s' s2 (by simp only [mkHd_one hy]; exact hs2) z (by simp only [mkHd_one hy]; exact hz)
  have hg1 := mk_grows y s' hs'
  have e : s2.sets = (mk y s').2.sets := by rw [hs2]; split <;> rfl
  have h2 : MsOk s2 := by
   rw [hs2]; split
   ·exact hg1.ok.loop _ _ hg1.pt.1
   ·exact hg1.ok
  have hp2 : PtIn s2.sets.length out := hp.mono (by rw [e]; exact hg1.le)
  have hz2 : PtIn s2.sets.length z := by rw [e, hz]; exact hg1.pt
  have h3 := thenM_grows h2 hp2 hz2
  have h4 := grow (N - (k + 1)) (k + 1) _ _ h3.ok h3.pt
  rw [← hstep, heq] at h4
  refine ⟨hg1, ?_, h2, e, hp2, hz2, h3, hstep.symm.trans heq⟩
  rw [← e]; exact Nat.le_trans h3.le (Nat.le_trans h4.le hN)
 have start : RepI t s m (.slice t0a t0n t0c) (.slice t1a t1n t1c) N [.int .i64 0] [X0_nfa_maker_repeat, [.slice t0a t0n t0c, .slice t1a t1n t1c]] [.slice t0a t0n t0c, .slice t1a t1n t1c] m1 N :=
  ⟨0, ⟨0, 0, true⟩, s, t0a, t0n, t0c, t1a, t1n, t1c, Nat.zero_le _, rfl, rfl, rfl, rfl, MkSt.refl h hs hm1, ptIn_zero _ _, rfl⟩
 refine br_intro (fun hmx => ?_) (fun hmx => ?_)
 ·have hmx' : t.mx = -1 := by simpa using hmx
  have hNb : (if (1 : Int) > t.mn then (1 : Int) else t.mn) = (N : Int) := by
   rw [← hNN]; unfold rndN; rw [if_pos hmx']; split <;> omega
  intro b2
  simp only [hNb]
  refine ⟨RepI t s m (.slice t0a t0n t0c) (.slice t1a t1n t1c) N, ⟨_, start⟩, ?_⟩
  rintro x cs cs1 a n c a1 n1 c1 m2 q _ ⟨k, out, s', a', n', c', a1', n1', c1', hk, hx, hcs, htv, hq, hst, hpt, heq⟩
  obtain rfl : x = k := by simpa using hx
  simp only [List.cons.injEq, and_true] at hcs
  obtain ⟨rfl, rfl⟩ := hcs
  simp only [List.cons.injEq, Value.slice.injEq, and_true] at htv
  obtain ⟨⟨rfl, rfl, rfl⟩, rfl, rfl, rfl⟩ := htv
  subst hq
  have hrd2 := (hrd.mono hst.base).mono (Mem.off_le m2 _)
  refine br_intro (fun hlt => ?_) (fun hge => ?_)
  ·have hlt' : k < N := by have := of_decide_eq_true hlt; omega
   obtain ⟨hg1, hN1, hok2, he2, hp2, hz2, hg3, hnext⟩ := round k out s' _ _ hlt' hst.ok hpt rfl rfl heq
   have hw1 : IntKind.i64.wrap ((N : Int) - 1) = (N : Int) - 1 := wrap64 (by omega) (by omega)
   refine ⟨bt, ot, hat, ⟨by omega, by omega⟩, _, _, _, _, _, _, _, _, hrd2, ?_⟩
   refine lentC (ih y hym s' mkb _ _ _ _ _ _ m2 hst.row hst.ok (Rep.mono hst.base y hry) hN1) mkr_fits (part_k hst hg1.ok fun m3 a3 n3 c3 a4 n4 c4 hst3 b5 => ?_)
   refine ⟨decide (k + 1 = N), br_true hmx ⟨by trivial, by trivial, by rw [hw1]; congr 2; rw [Bool.eq_iff_iff]; simp; omega⟩, ?_⟩
   have hw : IntKind.i64.wrap ((k : Int) + 1) = ((k + 1 : Nat) : Int) := by rw [wrap64 (by omega) (by omega)]; rfl
   by_cases hlast : k + 1 = N
   ·have ec : (if t.mx = -1 ∧ k + 1 = N then (⟨(mk y s').2.sets, loopF (mk y s').2.fol (mk y s').1.last (mk y s').1.first⟩ : Ms) else (mk y s').2) = ⟨(mk y s').2.sets, loopF (mk y s').2.fol (mk y s').1.last (mk y s').1.first⟩ := if_pos ⟨hmx', hlast⟩
    rw [ec] at hok2 he2 hp2 hz2 hg3 hnext
    refine br_true (by simp [hlast]) ?_
    refine lentC (cxy_loop (mk y s').2 (mk y s').1.last (mk y s').1.first mkb _ _ _ _ _ _ m3 hst3.row (by rw [hg1.ok.len]; exact hN1) (fun i hi => by rw [hg1.ok.len]; exact hg1.pt.2 i hi)) (by rintro v m' css tvs ⟨rfl, _⟩; rfl) ?_
    rintro m4 hle4 _ cs3 a5 n5 c5 a6 n6 c6 ⟨_, hcs3, htv3, hrow4⟩
    simp only [List.cons.injEq, Value.slice.injEq, and_true] at htv3
    obtain ⟨⟨rfl, rfl, rfl⟩, rfl, rfl, rfl⟩ := htv3
    obtain rfl : cs3 = [.slice a5 n5 c5, .slice a6 n6 c6] := by simpa using hcs3
    have hst4 := hst3.step hle4 hrow4 (fun b hb => .inl hb) hok2
    generalize hr1 : (mk y s').1 = r1 at *
    obtain ⟨rf, rl, rn⟩ := r1
    have ha : ∀ i, out.last.testBit i = true → i < (loopF (mk y s').2.fol rl rf).length := fun i hi => by rw [loopF_len, hg1.ok.len]; exact hp2.2 i hi
    have hl : (loopF (mk y s').2.fol rl rf).length ≤ 448 := by rw [loopF_len, hg1.ok.len]; exact hN1
    cases rn
    ·refine br_false rfl (lentC (cxy_then ⟨(mk y s').2.sets, loopF (mk y s').2.fol rl rf⟩ out ⟨rf, rl, false || decide ((k : Int) ≥ t.mn)⟩ mkb _ _ _ _ _ _ m4 hst4.row hl ha) same_fits (same_k hst4 hg3.ok fun m5 a7 n7 c7 a8 n8 c8 hst5 => ?_))
     exact ⟨by trivial, by trivial, _, by omega, k + 1, _, _, _, _, _, _, _, _, hlt', by rw [hw], rfl, rfl, rfl, hst5, hg3.pt, hnext⟩
    ·refine br_true rfl (lentC (cxy_then ⟨(mk y s').2.sets, loopF (mk y s').2.fol rl rf⟩ out ⟨rf, rl, true || decide ((k : Int) ≥ t.mn)⟩ mkb _ _ _ _ _ _ m4 hst4.row hl ha) same_fits (same_k hst4 hg3.ok fun m5 a7 n7 c7 a8 n8 c8 hst5 => ?_))
     exact ⟨by trivial, by trivial, _, by omega, k + 1, _, _, _, _, _, _, _, _, hlt', by rw [hw], rfl, rfl, rfl, hst5, hg3.pt, hnext⟩
   ·have ec : (if t.mx = -1 ∧ k + 1 = N then (⟨(mk y s').2.sets, loopF (mk y s').2.fol (mk y s').1.last (mk y s').1.first⟩ : Ms) else (mk y s').2) = (mk y s').2 := if_neg fun h => hlast h.2
    rw [ec] at hok2 he2 hp2 hz2 hg3 hnext
    refine br_false (by simp [hlast]) ?_
    generalize hr1 : (mk y s').1 = r1 at *
    obtain ⟨rf, rl, rn⟩ := r1
    have ha : ∀ i, out.last.testBit i = true → i < (mk y s').2.fol.length := fun i hi => by rw [hg1.ok.len]; exact hp2.2 i hi
    have hl : (mk y s').2.fol.length ≤ 448 := by rw [hg1.ok.len]; exact hN1
    cases rn
    ·refine br_false rfl (lentC (cxy_then (mk y s').2 out ⟨rf, rl, false || decide ((k : Int) ≥ t.mn)⟩ mkb _ _ _ _ _ _ m3 hst3.row hl ha) same_fits (same_k hst3 hg3.ok fun m5 a7 n7 c7 a8 n8 c8 hst5 => ?_))
     exact ⟨by trivial, by trivial, _, by omega, k + 1, _, _, _, _, _, _, _, _, hlt', by rw [hw], rfl, rfl, rfl, hst5, hg3.pt, hnext⟩
    ·refine br_true rfl (lentC (cxy_then (mk y s').2 out ⟨rf, rl, true || decide ((k : Int) ≥ t.mn)⟩ mkb _ _ _ _ _ _ m3 hst3.row hl ha) same_fits (same_k hst3 hg3.ok fun m5 a7 n7 c7 a8 n8 c8 hst5 => ?_))
     exact ⟨by trivial, by trivial, _, by omega, k + 1, _, _, _, _, _, _, _, _, hlt', by rw [hw], rfl, rfl, rfl, hst5, hg3.pt, hnext⟩
  ·have hk' : k = N := by have := of_decide_eq_false hge; omega
   subst hk'
   rw [Nat.sub_self, repM] at heq
   refine chk_intro rfl ⟨by trivial, hst.out ?_ ?_⟩
   ·rw [← heq]; rfl
   ·rw [← heq]
 ·have hmx' : ¬ t.mx = -1 := by simpa using hmx
  have hNb : t.mx = (N : Int) := by
   rw [← hNN]; unfold rndN; rw [if_neg hmx']; omega
  intro b2
  refine ⟨RepI t s m (.slice t0a t0n t0c) (.slice t1a t1n t1c) N, ⟨_, start⟩, ?_⟩
  rintro x cs cs1 a n c a1 n1 c1 m2 q _ ⟨k, out, s', a', n', c', a1', n1', c1', hk, hx, hcs, htv, hq, hst, hpt, heq⟩
  obtain rfl : x = k := by simpa using hx
  simp only [List.cons.injEq, and_true] at hcs
  obtain ⟨rfl, rfl⟩ := hcs
  simp only [List.cons.injEq, Value.slice.injEq, and_true] at htv
  obtain ⟨⟨rfl, rfl, rfl⟩, rfl, rfl, rfl⟩ := htv
  subst hq
  have hrd2 := (hrd.mono hst.base).mono (Mem.off_le m2 _)
  refine br_intro (fun hlt => ?_) (fun hge => ?_)
  ·have hlt' : k < N := by have := of_decide_eq_true hlt; omega
   obtain ⟨hg1, hN1, hok2, he2, hp2, hz2, hg3, hnext⟩ := round k out s' _ _ hlt' hst.ok hpt rfl rfl heq
   refine ⟨bt, ot, hat, ⟨by omega, by omega⟩, _, _, _, _, _, _, _, _, hrd2, ?_⟩
   refine lentC (ih y hym s' mkb _ _ _ _ _ _ m2 hst.row hst.ok (Rep.mono hst.base y hry) hN1) mkr_fits (part_k hst hg1.ok fun m3 a3 n3 c3 a4 n4 c4 hst3 b5 => ?_)
   refine ⟨false, br_false hmx ⟨by trivial, by trivial, rfl⟩, br_false rfl ?_⟩
   have hw : IntKind.i64.wrap ((k : Int) + 1) = ((k + 1 : Nat) : Int) := by rw [wrap64 (by omega) (by omega)]; rfl
   have ec : (if t.mx = -1 ∧ k + 1 = N then (⟨(mk y s').2.sets, loopF (mk y s').2.fol (mk y s').1.last (mk y s').1.first⟩ : Ms) else (mk y s').2) = (mk y s').2 := if_neg fun h => hmx' h.1
   rw [ec] at hok2 he2 hp2 hz2 hg3 hnext
   generalize hr1 : (mk y s').1 = r1 at *
   obtain ⟨rf, rl, rn⟩ := r1
   have ha : ∀ i, out.last.testBit i = true → i < (mk y s').2.fol.length := fun i hi => by rw [hg1.ok.len]; exact hp2.2 i hi
   have hl : (mk y s').2.fol.length ≤ 448 := by rw [hg1.ok.len]; exact hN1
   cases rn
   ·refine br_false rfl (lentC (cxy_then (mk y s').2 out ⟨rf, rl, false || decide ((k : Int) ≥ t.mn)⟩ mkb _ _ _ _ _ _ m3 hst3.row hl ha) same_fits (same_k hst3 hg3.ok fun m5 a7 n7 c7 a8 n8 c8 hst5 => ?_))
    exact ⟨by trivial, by trivial, _, by omega, k + 1, _, _, _, _, _, _, _, _, hlt', by rw [hw], rfl, rfl, rfl, hst5, hg3.pt, hnext⟩
   ·refine br_true rfl (lentC (cxy_then (mk y s').2 out ⟨rf, rl, true || decide ((k : Int) ≥ t.mn)⟩ mkb _ _ _ _ _ _ m3 hst3.row hl ha) same_fits (same_k hst3 hg3.ok fun m5 a7 n7 c7 a8 n8 c8 hst5 => ?_))
    exact ⟨by trivial, by trivial, _, by omega, k + 1, _, _, _, _, _, _, _, _, hlt', by rw [hw], rfl, rfl, rfl, hst5, hg3.pt, hnext⟩
  ·have hk' : k = N := by have := of_decide_eq_false hge; omega
   subst hk'
   rw [Nat.sub_self, repM] at heq
   refine chk_intro rfl ⟨by trivial, hst.out ?_ ?_⟩
   ·rw [← heq]; rfl
   ·rw [← heq]
def KindsR (b : Nat) : Value → Mem → List (List Value) → Prop := fun v m' _ => ∃ c, m'.reads c 0 [.pointer (some ⟨b, 0, none⟩)] ∧ v = .agg #[.func (.func 135) #[] #[], .func (.func 136) #[] #[], .func (.func 137) #[] #[.pointer (some ⟨c, 0, none⟩)], .func (.func 138) #[] #[.pointer (some ⟨c, 0, none⟩)], .func (.func 140) #[] #[.pointer (some ⟨c, 0, none⟩)], .func (.func 142) #[.pointer (some ⟨b, 0, none⟩)] #[], .func (.func 143) #[] #[.pointer (some ⟨c, 0, none⟩)]]
theorem cx_mkinds (b : Nat) (m : Mem) : CX Try.prog 109 #[.pointer (some ⟨b, 0, none⟩)] m [] (KindsR b) := by
 apply cx_nfa_maker_kinds
 unfold VC_nfa_maker_kinds
 intro c m1 hm1 hc b1
 exact ⟨m1, hm1, Mem.le_refl _, c, hc, rfl⟩
theorem mkinds_fits {b : Nat} : ∀ (v : Value) (m' : Mem) (css : List (List Value)), KindsR b v m' css → Shape.fits (.agg [.fn, .fn, .fn, .fn, .fn, .fn, .fn]) v = true := by
 rintro v m' css ⟨c, _, rfl⟩; rfl
theorem cx_knil (t : T) (m : Mem) : CX Try.prog 136 #[t.v] m [] (Ret (Pt.v ⟨0, 0, true⟩)) := by
 apply cx_nfa_maker_kinds_2
 unfold VC_nfa_maker_kinds_2
 intro c m1 hm1 hc b1
 exact ⟨m1, hm1, Mem.le_refl _, rfl⟩
theorem cxy_empty (t : T) (s : Ms) (mkb : Nat) (t0a t1a : Option Addr) (t0n t0c t1n t1c : Nat) (m : Mem) (h : MkRow m (.slice t0a t0n t0c) (.slice t1a t1n t1c) s) :
  CXY Try.prog 136 #[t.v] m (Yof (.slice t0a t0n t0c) (.slice t1a t1n t1c)) [⟨mkb, [.slice t0a t0n t0c, .slice t1a t1n t1c], 98, 2, false, true⟩] [⟨.slice t0a t0n t0c, 4⟩, ⟨.slice t1a t1n t1c, 7⟩]
   (MkR (.slice t0a t0n t0c) (.slice t1a t1n t1c) m (⟨0, 0, true⟩, s)) :=
 (CX.frameY (cx_knil t m) _ _ _).mono fun v m' css tvs _ h2 => ⟨_, _, _, _, _, _, h2.2.2.2, h2.2.1, h2.2.2.1, h.mono h2.1, fun b hb => .inl hb⟩
theorem notY {m m' : Mem} {v0 v1 : Value} {s : Ms} {c : Nat} {p : Option Addr} (h : MkRow m v0 v1 s) (hm : m.le m') (hc : m' c 0 = some (.pointer p)) : ¬ Yof v0 v1 c := by
 rintro (hY | hY)
 ·obtain ⟨c', _, h2, h3⟩ := rowOk_blk h.row0 hY
  cases hs : s.sets with
  | nil => rw [hs] at h3; simp at h3
  | cons q l =>
   rw [hs] at h2
   have := hm _ _ _ (h2 0 (.int .u64 q.1) rfl)
   rw [Nat.add_zero, hc] at this; cases this
 ·obtain ⟨c', _, h2, h3⟩ := rowOk_blk h.row1 hY
  obtain ⟨n, hn⟩ := folCs_first h3
  have := hm _ _ _ (h2 0 _ hn)
  rw [Nat.add_zero, hc] at this; cases this
theorem kind_eq {b : Nat} {m' : Mem} {css : List (List Value)} {g g1 g2 g3 g4 g5 g6 : FuncId} {fi ca fi1 ca1 fi2 ca2 fi3 ca3 fi4 ca4 fi5 ca5 fi6 ca6 : List Value} (h : KindsR b (.agg #[.func (.func g) fi.toArray ca.toArray, .func (.func g1) fi1.toArray ca1.toArray, .func (.func g2) fi2.toArray ca2.toArray, .func (.func g3) fi3.toArray ca3.toArray, .func (.func g4) fi4.toArray ca4.toArray, .func (.func g5) fi5.toArray ca5.toArray, .func (.func g6) fi6.toArray ca6.toArray]) m' css) :
  ∃ c, m' c 0 = some (.pointer (some ⟨b, 0, none⟩)) ∧ (g1 = 136 ∧ fi1 = [] ∧ ca1 = []) ∧ (g2 = 137 ∧ fi2 = [] ∧ ca2 = [.pointer (some ⟨c, 0, none⟩)]) ∧ (g3 = 138 ∧ fi3 = [] ∧ ca3 = [.pointer (some ⟨c, 0, none⟩)]) ∧ (g4 = 140 ∧ fi4 = [] ∧ ca4 = [.pointer (some ⟨c, 0, none⟩)]) ∧ (g5 = 142 ∧ fi5 = [.pointer (some ⟨b, 0, none⟩)] ∧ ca5 = []) ∧ (g6 = 143 ∧ fi6 = [] ∧ ca6 = [.pointer (some ⟨c, 0, none⟩)]) := by
 obtain ⟨c, hc, hv⟩ := h
 simp only [Value.agg.injEq, Array.mk.injEq, List.cons.injEq, Value.func.injEq, Fn.func.injEq, and_true, true_and] at hv
 obtain ⟨_, h1, h2, h3, h4, h5, h6⟩ := hv
 exact ⟨c, by simpa using hc 0 _ rfl, h1, h2, h3, h4, h5, h6⟩
theorem mkC_all : ∀ t : T, (∀ x ∈ t.nodes, x.right = true) → MkC t := by
 intro t hall
 have ih : ∀ x ∈ t.subs, MkC x := fun x hx => mkC_all x fun y hy => hall y (by
  rw [nodes_eq]
  obtain ⟨i, hi⟩ := List.getElem?_of_mem hx
  rw [nodesL_split hi]; simp [hy])
 have hright : t.right = true := hall t (by rw [nodes_eq]; simp)
 intro s mkb t0a t1a t0n t0c t1n t1c m hrow hs hr hN
 rw [mk_eq] at hN ⊢
 have hk : t.k = 1 ∨ t.k = 2 ∨ t.k = 3 ∨ t.k = 4 ∨ (t.k = 5 ∧ t.subs.length = 1 ∧ bounds t.mn t.mx = true) ∨ (t.k = 6 ∧ t.subs.length = 1) := by
  unfold T.right at hright
  rw [Bool.and_eq_true] at hright
  have h2 := hright.2
  by_cases h1 : t.k = 1; · exact .inl h1
  by_cases h3 : t.k = 2; · exact .inr (.inl h3)
  by_cases h4 : t.k = 3; · exact .inr (.inr (.inl h4))
  by_cases h5 : t.k = 4; · exact .inr (.inr (.inr (.inl h5)))
  by_cases h6 : t.k = 5
  ·rw [if_neg h1, if_neg h3, if_neg h4, if_neg h5, if_pos h6] at h2
   simp only [Bool.and_eq_true, beq_iff_eq] at h2
   exact .inr (.inr (.inr (.inr (.inl ⟨h6, h2.1, h2.2.1⟩))))
  ·rw [if_neg h1, if_neg h3, if_neg h4, if_neg h5, if_neg h6] at h2
   simp only [Bool.and_eq_true, beq_iff_eq] at h2
   exact .inr (.inr (.inr (.inr (.inr h2))))
 obtain ⟨k, s0, s1, s2, s3, mn, mx, a, c, l⟩ := t
 rcases hk with hk | hk | hk | hk | ⟨hk, h1, hb⟩ | ⟨hk, h1⟩
 ·obtain rfl : k = 1 := hk
  rw [if_neg (by simp [T.k]), if_pos (by rfl)] at hN ⊢
  apply cxy_nfa_maker_make_1
  unfold VC_nfa_maker_make_1
  intro b m1 hm1 _ hf _ b1
  refine ⟨fun _ _ _ => KindsR mkb, _, rfl, cx_mkinds mkb m1, mkinds_fits, ?_⟩
  intro g fi ca g1 fi1 ca1 g2 fi2 ca2 g3 fi3 ca3 g4 fi4 ca4 g5 fi5 ca5 g6 fi6 ca6 m2 hm2 hR
  obtain ⟨cc, hcc, ⟨rfl, rfl, rfl⟩, ⟨rfl, rfl, rfl⟩, ⟨rfl, rfl, rfl⟩, ⟨rfl, rfl, rfl⟩, ⟨rfl, rfl, rfl⟩, rfl, rfl, rfl⟩ := kind_eq hR
  refine ⟨⟨by omega, by omega⟩, fun M hM1 hM2 => ?_⟩
  have hst := MkSt.refl hrow hs (Mem.le_trans hm1 hM1)
  refine lentC (cxy_empty (.node 1 s0 s1 s2 s3 mn mx a c l) s mkb _ _ _ _ _ _ M hst.row) mkr_fits (part_k hst hs fun m3 a3 n3 c3 a4 n4 c4 hst3 => ?_)
  exact ⟨rfl, hst3.out rfl rfl⟩
 ·obtain rfl : k = 2 := hk
  rw [if_neg (by simp [T.k]), if_neg (by simp [T.k]), if_pos (by rfl)] at hN ⊢
  apply cxy_nfa_maker_make_2
  unfold VC_nfa_maker_make_2
  intro b m1 hm1 _ hf _ b1
  refine ⟨fun _ _ _ => KindsR mkb, _, rfl, cx_mkinds mkb m1, mkinds_fits, ?_⟩
  intro g fi ca g1 fi1 ca1 g2 fi2 ca2 g3 fi3 ca3 g4 fi4 ca4 g5 fi5 ca5 g6 fi6 ca6 m2 hm2 hR
  obtain ⟨cc, hcc, ⟨rfl, rfl, rfl⟩, ⟨rfl, rfl, rfl⟩, ⟨rfl, rfl, rfl⟩, ⟨rfl, rfl, rfl⟩, ⟨rfl, rfl, rfl⟩, rfl, rfl, rfl⟩ := kind_eq hR
  refine ⟨⟨by omega, by omega⟩, fun M hM1 hM2 => ?_⟩
  have hst := MkSt.refl hrow hs (Mem.le_trans hm1 hM1)
  simp only [List.length_append, List.length_singleton] at hN
  refine lentC (cxy_one (.node 2 s0 s1 s2 s3 mn mx a c l) s cc mkb _ _ _ _ _ _ M hst.row (by omega) hs.len (hM2 _ _ _ hcc)) mkr_fits (part_k hst (one_grows hs _).ok fun m3 a3 n3 c3 a4 n4 c4 hst3 => ?_)
  exact ⟨rfl, hst3.out rfl rfl⟩
 ·obtain rfl : k = 3 := hk
  rw [if_neg (by simp [T.k]), if_neg (by simp [T.k]), if_neg (by simp [T.k]), if_pos (by rfl)] at hN ⊢
  apply cxy_nfa_maker_make_3
  unfold VC_nfa_maker_make_3
  intro b m1 hm1 _ hf _ b1
  refine ⟨fun _ _ _ => KindsR mkb, _, rfl, cx_mkinds mkb m1, mkinds_fits, ?_⟩
  intro g fi ca g1 fi1 ca1 g2 fi2 ca2 g3 fi3 ca3 g4 fi4 ca4 g5 fi5 ca5 g6 fi6 ca6 m2 hm2 hR
  obtain ⟨cc, hcc, ⟨rfl, rfl, rfl⟩, ⟨rfl, rfl, rfl⟩, ⟨rfl, rfl, rfl⟩, ⟨rfl, rfl, rfl⟩, ⟨rfl, rfl, rfl⟩, rfl, rfl, rfl⟩ := kind_eq hR
  refine ⟨⟨by omega, by omega⟩, fun M hM1 hM2 => ?_⟩
  have hst := MkSt.refl hrow hs (Mem.le_trans hm1 hM1)
  have hcM : (M.off (Yof (.slice t0a t0n t0c) (.slice t1a t1n t1c))) cc 0 = some (.pointer (some ⟨mkb, 0, none⟩)) := by
   rw [Mem.off_at (notY hst.row (Mem.le_refl _) (hM2 _ _ _ hcc))]; exact hM2 _ _ _ hcc
  refine lentC (cxy_cat (.node 3 s0 s1 s2 s3 mn mx a c l) ih s cc mkb _ _ _ _ _ _ M hst.row hs (Rep.mono hst.base _ hr) hcM hN) mkr_fits (part_k hst (mkCat_grows _ _ _ hs (ptIn_zero _ _)).ok fun m3 a3 n3 c3 a4 n4 c4 hst3 => ?_)
  exact ⟨rfl, hst3.out rfl rfl⟩
 ·obtain rfl : k = 4 := hk
  rw [if_neg (by simp [T.k]), if_neg (by simp [T.k]), if_neg (by simp [T.k]), if_neg (by simp [T.k]), if_pos (by rfl)] at hN ⊢
  apply cxy_nfa_maker_make_4
  unfold VC_nfa_maker_make_4
  intro b m1 hm1 _ hf _ b1
  refine ⟨fun _ _ _ => KindsR mkb, _, rfl, cx_mkinds mkb m1, mkinds_fits, ?_⟩
  intro g fi ca g1 fi1 ca1 g2 fi2 ca2 g3 fi3 ca3 g4 fi4 ca4 g5 fi5 ca5 g6 fi6 ca6 m2 hm2 hR
  obtain ⟨cc, hcc, ⟨rfl, rfl, rfl⟩, ⟨rfl, rfl, rfl⟩, ⟨rfl, rfl, rfl⟩, ⟨rfl, rfl, rfl⟩, ⟨rfl, rfl, rfl⟩, rfl, rfl, rfl⟩ := kind_eq hR
  refine ⟨⟨by omega, by omega⟩, fun M hM1 hM2 => ?_⟩
  have hst := MkSt.refl hrow hs (Mem.le_trans hm1 hM1)
  have hcM : (M.off (Yof (.slice t0a t0n t0c) (.slice t1a t1n t1c))) cc 0 = some (.pointer (some ⟨mkb, 0, none⟩)) := by
   rw [Mem.off_at (notY hst.row (Mem.le_refl _) (hM2 _ _ _ hcc))]; exact hM2 _ _ _ hcc
  refine lentC (cxy_alt (.node 4 s0 s1 s2 s3 mn mx a c l) ih s cc mkb _ _ _ _ _ _ M hst.row hs (Rep.mono hst.base _ hr) hcM hN) mkr_fits (part_k hst (mkAlt_grows _ _ _ hs (ptIn_zero _ _)).ok fun m3 a3 n3 c3 a4 n4 c4 hst3 => ?_)
  exact ⟨rfl, hst3.out rfl rfl⟩
 ·obtain rfl : k = 5 := hk
  rw [if_neg (by simp [T.k]), if_neg (by simp [T.k]), if_neg (by simp [T.k]), if_neg (by simp [T.k]), if_neg (by simp [T.k]), if_pos (by rfl)] at hN ⊢
  apply cxy_nfa_maker_make_5
  unfold VC_nfa_maker_make_5
  intro b m1 hm1 _ hf _ b1
  refine ⟨fun _ _ _ => KindsR mkb, _, rfl, cx_mkinds mkb m1, mkinds_fits, ?_⟩
  intro g fi ca g1 fi1 ca1 g2 fi2 ca2 g3 fi3 ca3 g4 fi4 ca4 g5 fi5 ca5 g6 fi6 ca6 m2 hm2 hR
  obtain ⟨cc, hcc, ⟨rfl, rfl, rfl⟩, ⟨rfl, rfl, rfl⟩, ⟨rfl, rfl, rfl⟩, ⟨rfl, rfl, rfl⟩, ⟨rfl, rfl, rfl⟩, rfl, rfl, rfl⟩ := kind_eq hR
  refine ⟨⟨by omega, by omega⟩, fun M hM1 hM2 => ?_⟩
  have hst := MkSt.refl hrow hs (Mem.le_trans hm1 hM1)
  refine lentC (cxy_repeat (.node 5 s0 s1 s2 s3 mn mx a c l) h1 hb ih s mkb _ _ _ _ _ _ M hst.row hs (Rep.mono hst.base _ hr) hN) mkr_fits (part_k hst (repM_grows (fun s h => mkHd_grows _ s h) _ _ _ _ _ _ _ hs (ptIn_zero _ _)).ok fun m3 a3 n3 c3 a4 n4 c4 hst3 => ?_)
  exact ⟨rfl, hst3.out rfl rfl⟩
 ·obtain rfl : k = 6 := hk
  rw [if_neg (by simp [T.k]), if_neg (by simp [T.k]), if_neg (by simp [T.k]), if_neg (by simp [T.k]), if_neg (by simp [T.k]), if_neg (by simp [T.k])] at hN ⊢
  apply cxy_nfa_maker_make_6
  unfold VC_nfa_maker_make_6
  intro b m1 hm1 _ hf _ b1
  refine ⟨fun _ _ _ => KindsR mkb, _, rfl, cx_mkinds mkb m1, mkinds_fits, ?_⟩
  intro g fi ca g1 fi1 ca1 g2 fi2 ca2 g3 fi3 ca3 g4 fi4 ca4 g5 fi5 ca5 g6 fi6 ca6 m2 hm2 hR
  obtain ⟨cc, hcc, ⟨rfl, rfl, rfl⟩, ⟨rfl, rfl, rfl⟩, ⟨rfl, rfl, rfl⟩, ⟨rfl, rfl, rfl⟩, ⟨rfl, rfl, rfl⟩, rfl, rfl, rfl⟩ := kind_eq hR
  refine ⟨⟨by omega, by omega⟩, fun M hM1 hM2 => ?_⟩
  have hst := MkSt.refl hrow hs (Mem.le_trans hm1 hM1)
  have hcM : (M.off (Yof (.slice t0a t0n t0c) (.slice t1a t1n t1c))) cc 0 = some (.pointer (some ⟨mkb, 0, none⟩)) := by
   rw [Mem.off_at (notY hst.row (Mem.le_refl _) (hM2 _ _ _ hcc))]; exact hM2 _ _ _ hcc
  refine lentC (cxy_group (.node 6 s0 s1 s2 s3 mn mx a c l) h1 ih s cc mkb _ _ _ _ _ _ M hst.row hs (Rep.mono hst.base _ hr) hcM hN) mkr_fits (part_k hst (mkHd_grows _ _ hs).ok fun m3 a3 n3 c3 a4 n4 c4 hst3 => ?_)
  exact ⟨rfl, hst3.out rfl rfl⟩
termination_by t => SizeOf.sizeOf t
decreasing_by exact sub_lt hx
end Go.Proofs.Ytplacemlpkhmfaa

