/- Part of the proof: conditions and contracts of functions of this program. No condition of its own. -/
import Derived.Test.YtplacemlpkhmfaaPC17G
import Derived.Test.YtplacemlpkhmfaaPC17H
import Derived.Test.YtplacemlpkhmfaaPC13B
import Derived.Test.YtplacemlpkhmfaaMr
set_option linter.unusedVariables false
set_option linter.unusedSimpArgs false
namespace Go.Proofs.Ytplacemlpkhmfaa
open Go Go.Eng Go.Rx Go.Proofs Go.RowKit
set_option maxRecDepth 100000
theorem sln_sli {f : Nat} {v : Value} {m : Mem} (h : SlN (bitsW f) v m) : SlI true (bitsI f) v m := by
 obtain ⟨a, c, rfl, h2, h3⟩ := h
 refine ⟨a, c, by simp [bitsI], ?_, by have := bitsI_len f; omega, fun _ e => h3 (by simpa [bitsI] using e)⟩
 have e : intVs (bitsI f) = natVs (bitsW f) := by simp [intVs, bitsI, natVs]
 rw [e]; exact h2
theorem cx_listI (f : Nat) (b o : Nat) (m : Mem) (hb : m.reads b o (bwL f)) : CX Try.prog 62 #[.pointer (some ⟨b, o, none⟩)] m [] (fun v m' _ => SlI true (bitsI f) v m') :=
 (cx_blist f b o m hb).mono fun _ _ _ _ h => sln_sli h
theorem nf0_R (m : Mem) : NfR true nf0 (.agg #[.slice none 0 0, .slice none 0 0, .slice none 0 0, .slice none 0 0, .bool false]) m :=
 ⟨_, _, _, _, rfl, ⟨none, 0, rfl, .inl rfl, by simp [nf0], fun _ _ => rfl⟩, ⟨none, 0, [], rfl, .inl rfl, rfl, by simp [nf0], fun i v l hv => by simp at hv⟩, ⟨none, 0, rfl, .inl rfl, by simp [nf0], fun _ _ => rfl⟩, ⟨none, 0, rfl, .inl rfl, by simp [nf0], fun _ _ => rfl⟩⟩
def NfE (A : Nf) (e : Int) : Value → Mem → List (List Value) → Prop := fun v m' _ => ∃ w, v = .tuple #[w, .int .i64 e] ∧ NfR true A w m'
theorem reads_left {m : Mem} {b o : Nat} {l r : List Value} (h : m.reads b o (l ++ r)) : m.reads b o l := fun j v hv => h j v (by rw [List.getElem?_append_left (List.getElem?_eq_some_iff.1 hv).1]; exact hv)
theorem reads_right {m : Mem} {b o : Nat} {l r : List Value} (h : m.reads b o (l ++ r)) : m.reads b (o + l.length) r := fun j v hv => by
 have := h (l.length + j) v (by rw [List.getElem?_append_right (by omega), Nat.add_sub_cancel_left]; exact hv)
 rwa [← Nat.add_assoc] at this
theorem cx_Of (t : T) (m : Mem) (hr : Rep m t) : CX Try.prog 14 #[t.v] m [] (NfE t.ofN t.ofE) := by
 apply cx_nfa_Of
 unfold VC_nfa_Of
 intro b m1 hm1 _ hf0 hn1 b1
 have hr1 := Rep.mono hm1 t hr
 refine ⟨t.isNone, br_intro (fun h => ?_) (fun h => ⟨rfl, ?_⟩), ?_⟩
 ·refine call_bool (cx_Same t T0 m1 hr1 (rep_T0 m1)) fun m2 hm2 => ⟨rfl, ?_⟩
  unfold T.isNone; rw [h, Bool.true_and]
 ·unfold T.isNone; rw [h, Bool.false_and]
 refine br_intro (fun h => ?_) (fun h => ?_)
 ·refine ⟨_, hm1, Mem.le_refl _, _, by unfold T.ofE; rw [if_pos h], ?_⟩
  unfold T.ofN; rw [if_pos h]; exact nf0_R _
 have eN : t.ofN = if t.nfit then t.auto else nf0 := by unfold T.ofN; rw [h]; rfl
 have eE : t.ofE = if t.nfit then 0 else 170 := by unfold T.ofE; rw [h]; rfl
 refine ⟨!t.nfit, ?_, ?_⟩
 ·refine call_bool (cx_Clean t m1 hr1) fun m2 hm2 => br_intro (fun hc => ⟨rfl, ?_⟩) (fun hc => ?_)
  ·have : t.clean = false := by simpa using hc
   unfold T.nfit; rw [this]; rfl
  have hc' : t.clean = true := by simpa using hc
  refine call_int (cx_Size t m2 (Rep.mono hm2 t hr1)) fun m3 hm3 => br_intro (fun hz => ⟨rfl, ?_⟩) (fun hz => ?_)
  ·have : ¬ t.size ≤ 120 := by have := of_decide_eq_true hz; omega
   unfold T.nfit; simp [this]
  have hz' : t.size ≤ 120 := by have := of_decide_eq_false hz; omega
  refine call_int (cx_Positions t m3 (Rep.mono hm3 t (Rep.mono hm2 t hr1))) fun m4 hm4 => ⟨rfl, ?_⟩
  refine congrArg (fun z => [Value.bool z]) ?_
  unfold T.nfit; rw [hc', Bool.eq_iff_iff]; simp [hz']
 refine br_intro (fun hb => ?_) (fun hb b4 => ?_)
 ·have : t.nfit = false := by simpa using hb
  refine ⟨_, hm1, Mem.le_refl _, _, by rw [eE, this]; rfl, ?_⟩
  rw [eN, this]; exact nf0_R _
 have hfit : t.nfit = true := by simpa using hb
 rw [eN, eE, hfit]
 simp only [if_true]
 have hfit' := hfit
 unfold T.nfit at hfit'
 simp only [Bool.and_eq_true, decide_eq_true_eq] at hfit'
 obtain ⟨hc, _, hp⟩ := hfit'
 have hcl := hc
 unfold T.clean at hcl
 simp only [Bool.and_eq_true, List.all_eq_true] at hcl
 have hpos : t.pos ≤ 400 := by unfold T.positions at hp; rw [hcl.1] at hp; simpa using hp
 have hcount := mk_count t hcl.2 (by omega) ⟨[], []⟩
 have hN : (mk t ⟨[], []⟩).2.sets.length ≤ 448 := by rw [hcount]; simp; omega
 have hY : ∀ k, ¬ Yof (.slice none 0 0) (.slice none 0 0) k := by
  rintro k (h | h) <;> simp [Tok.blk] at h
 have hrow : MkRow m1 (.slice none 0 0) (.slice none 0 0) ⟨[], []⟩ := ⟨.inl ⟨rfl, rfl⟩, .inl ⟨rfl, rfl⟩, fun b hb => by simp [Tok.blk] at hb⟩
 have hok : MsOk ⟨[], []⟩ := ⟨rfl, fun j x hj => by simp at hj⟩
 have hroff : Rep (m1.off (Yof (.slice none 0 0) (.slice none 0 0))) t := Rep.mono (fun b o v hv => by rw [Mem.off_at (hY b)]; exact hv) t hr1
 have hst := MkSt.refl hrow hok (Mem.le_refl m1)
 have hg := mk_grows t ⟨[], []⟩ hok
 refine lentC (mkC_all t hcl.2 ⟨[], []⟩ b4 none none 0 0 0 0 m1 hrow hok hroff hN) mkr_fits (part_k hst hg.ok fun m3 a3 n3 c3 a4 n4 c4 hst3 => ?_)
 generalize hmk : mk t ⟨[], []⟩ = r at *
 obtain ⟨p, s'⟩ := r
 have hauto : t.auto = autoOf (p, s') := by unfold T.auto; rw [hmk]
 have hbase : m.le m3 := Mem.le_trans hm1 (Mem.le_trans (fun b o v hv => by rw [Mem.off_at (hY b)]; exact hv) (Mem.le_trans hst3.base (Mem.off_le m3 _)))
 intro b6 m4 hm4 hb6
 have hb6' : m4.reads b6 0 (bwL p.first ++ (bwL p.last ++ [Value.bool p.null])) := hb6
 have hF := reads_left hb6'
 have hL : m4.reads b6 7 (bwL p.last) := by have := reads_left (reads_right hb6'); rwa [bwL_len, Nat.zero_add] at this
 obtain ⟨rfl, hq0, _⟩ := rowOk_rd hst3.row.row0 (fun e => by rw [List.eq_nil_of_length_eq_zero e]; rfl)
 obtain ⟨rfl, hq1, _⟩ := rowOk_rd hst3.row.row1 (fun e => by rw [List.eq_nil_of_length_eq_zero e]; rfl)
 have hnil0 : s'.sets = [] → a3 = none := fun e => by
  rcases hst3.row.row0 with ⟨_, h2⟩ | ⟨_, _, _, _, h3⟩
  ·simp only [Value.slice.injEq] at h2; exact h2.1
  ·rw [e] at h3; simp at h3
 refine ⟨fun i _ _ => if i = 5 then (fun v m' _ => SlI true (bitsI p.first) v m') else (fun v m' _ => SlI true (bitsI p.last) v m'), look_intro (v := .slice a3 s'.sets.length c3) rfl ?_⟩
 refine ⟨_, rfl, cx_listI p.first b6 0 m4 hF, sli_fits, fun a5 n5 c5 m5 hm5 hR5 => ?_⟩
 refine ⟨_, rfl, cx_listI p.last b6 7 m5 (hL.mono hm5), sli_fits, fun a6 n6 c6 m6 hm6 hR6 => ?_⟩
 refine ⟨.bool p.null, by simpa using hb6' 14 _ rfl, chk_intro rfl (chk_intro rfl (chk_intro rfl (chk_intro rfl fun b7 => chk_intro rfl fun M hM4 hM5 hM6 => ⟨by trivial, look_intro (v := .slice a4 s'.fol.length c4) rfl (chk_intro rfl ?_)⟩)))⟩
 have h3M : m3.le M := Mem.le_trans hm4 hM4
 have hs5 : SlI true (bitsI p.first) (.slice a5 n5 c5) M := (show SlI true (bitsI p.first) _ m5 from hR5).mono hM5
 have hs6 : SlI true (bitsI p.last) (.slice a6 n6 c6) M := (show SlI true (bitsI p.last) _ m6 from hR6).mono hM6
 have hlen : s'.fol.length ≤ 448 := by rw [hg.ok.len]; exact hN
 have hlen0 : s'.sets.length ≤ 448 := hN
 refine ⟨fun xs css tvs m' q => ∃ (k : Nat) (a : Option Addr) (c : Nat), k ≤ s'.fol.length ∧ xs = [.int .i64 k] ∧ css = [[.slice a3 s'.sets.length c3, .slice a k c, .slice a5 n5 c5, .slice a6 n6 c6, .bool p.null]] ∧ tvs = [.slice a k c] ∧ M.le m' ∧ FolG m' a ((s'.fol.map bitsI).take k) ∧ q = s'.fol.length - k, ⟨_, 0, none, 0, Nat.zero_le _, rfl, rfl, rfl, Mem.le_refl _, ⟨[], .inl rfl, rfl, fun i v l hv => by simp at hv⟩, rfl⟩, ?_⟩
 rintro z cs a n c m7 q _ ⟨k, a', c', hk, hz, hcs, htv, hM7, hG, hq⟩
 obtain rfl : z = k := by simpa using hz
 obtain rfl : cs = _ := by simpa using hcs
 simp only [List.cons.injEq, Value.slice.injEq, and_true] at htv
 obtain ⟨rfl, rfl, rfl⟩ := htv
 subst hq
 refine br_intro (fun hlt => ?_) (fun hge => ?_)
 ·have hlt' : n < s'.fol.length := by have := of_decide_eq_true hlt; simp only [slN] at this; omega
  obtain ⟨x, hx⟩ := at_some' hlt'
  have hrow7 := hq1.mono (Mem.le_trans h3M hM7)
  rcases hrow7 with h0 | ⟨fb, fo, hfa, hfrd⟩
  ·have := congrArg List.length h0
   rw [folCs_len] at this; simp at this; omega
  rw [folCs_at hx, List.append_assoc] at hfrd
  have hx7 : m7.reads fb (fo + n * 7) (bwL x) := by
   have := reads_left (reads_right hfrd)
   rwa [folCs_len, List.length_take, Nat.min_eq_left (by omega)] at this
  refine chk_intro rfl ⟨fb, fo, hfa, ⟨by omega, by show (n : Int) < (s'.fol.length : Nat); omega⟩, _, _, _, _, _, _, _, (by rw [Int.toNat_natCast]; exact hx7), fun b9 => chk_intro rfl fun m8 hm8 hb9 => ⟨fun _ _ _ => (fun v m' _ => SlI true (bitsI x) v m'), look_intro (v := .slice a n c) rfl ⟨_, rfl, cx_listI x b9 0 m8 hb9, sli_fits, fun a10 n10 c10 m9 hm9 hR9 b10 hb10 => chk_intro rfl ?_⟩⟩⟩
  obtain ⟨ws, hw1, hw2, hw3⟩ := hG
  have htl : ((s'.fol.map bitsI).take n).length = n := by rw [List.length_take, List.length_map]; omega
  have hle4 := Mem.le_add hb10 [Value.slice a10 n10 c10]
  refine ⟨.inl rfl, ws, [.slice a10 n10 c10], by rw [hw2, htl]; simp [slN], rfl, ((hw1.mono hm8).mono hm9).mono hle4, row_one, by simp [Value.oneCell'], by show (n + 1) * 24 ≤ _; omega, by show n + 1 ≤ _; omega, fun a11 c11 m10 hm10 hr10 _ => chk_intro rfl fun M2 hK1 hK2 hK3 hK4 => ⟨by trivial, by trivial, by trivial, _, by omega, n + 1, a11, c11, hlt', by rw [wrap64 (by omega) (by omega)]; rfl, rfl, rfl, Mem.le_trans hM7 (Mem.le_trans hm8 hK1), ?_, rfl⟩⟩
  have e : (s'.fol.map bitsI).take (n + 1) = (s'.fol.map bitsI).take n ++ [bitsI x] := by rw [List.take_add_one, List.getElem?_map, hx]; rfl
  rw [e]
  exact folG_snoc hw2 hw3 (Mem.le_trans hm8 hK1) hr10 hK4 ((show SlI true (bitsI x) _ m9 from hR9).mono hK2)
 ·have : n = s'.fol.length := by have := of_decide_eq_false hge; simp only [slN] at this; omega
  subst this
  have hmap : (s'.fol.map bitsI).take s'.fol.length = s'.fol.map bitsI := List.take_of_length_le (by simp)
  rw [hmap] at hG
  obtain ⟨ws, hw1, hw2, hw3⟩ := hG
  have hall : m.le m7 := Mem.le_trans hbase (Mem.le_trans h3M hM7)
  refine chk_intro rfl ⟨_, hall, Mem.le_refl _, _, rfl, ?_⟩
  rw [hauto]
  exact ⟨_, _, _, _, rfl, ⟨a3, c3, rfl, (hq0.mono h3M).mono hM7, by show s'.sets.length ≤ _; omega, fun _ e => hnil0 e⟩, ⟨a, c, ws, by show _ = Value.slice a (s'.fol.map bitsI).length c; rw [List.length_map], hw1, hw2, by show (s'.fol.map bitsI).length ≤ _; rw [List.length_map]; omega, hw3⟩, hs5.mono hM7, hs6.mono hM7⟩
end Go.Proofs.Ytplacemlpkhmfaa

