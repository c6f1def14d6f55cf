/- Part of the proof: conditions and contracts of functions of this program. No condition of its own. -/
import Derived.Test.YtplacemlpkhmfaaPC17E
import Derived.Test.YtplacemlpkhmfaaMr
set_option linter.unusedVariables false
set_option linter.unusedSimpArgs false
namespace Go.Proofs.Ytplacemlpkhmfaa
open Go Go.Eng Go.Rx Go.Proofs Go.RowKit
set_option maxRecDepth 100000
theorem off_mono {m m' : Mem} (Y : Nat → Prop) (h : m.le m') : (m.off Y).le (m'.off Y) := fun b o v hv => by
 unfold Mem.off at hv ⊢
 split at hv
 ·cases hv
 ·rename_i hY; rw [if_neg hY]; exact h _ _ _ hv
theorem offFree {m : Mem} {Y : Nat → Prop} {b : Nat} (h : m.free b) : (m.off Y).free b := fun o => by
 unfold Mem.off; split
 ·rfl
 ·exact h o
structure MkSt (m : Mem) (v0 v1 : Value) (m' : Mem) (v0' v1' : Value) (s' : Ms) : Prop where
 row : MkRow m' v0' v1' s'
 base : (m.off (Yof v0 v1)).le (m'.off (Yof v0' v1'))
 new : ∀ b, Yof v0' v1' b → Yof v0 v1 b ∨ m.free b
 ok : MsOk s'
theorem MkSt.step {m m' m'' : Mem} {v0 v1 v0' v1' v0'' v1'' : Value} {s' s'' : Ms} (h : MkSt m v0 v1 m' v0' v1' s') (hle : (m'.off (Yof v0' v1')).le m'') (hr : MkRow m'' v0'' v1'' s'') (hn : ∀ b, Yof v0'' v1'' b → Yof v0' v1' b ∨ m'.free b) (hs : MsOk s'') : MkSt m v0 v1 m'' v0'' v1'' s'' := by
 refine ⟨hr, Mem.le_trans h.base (off_chain hle hn), fun b hb => ?_, hs⟩
 rcases hn b hb with h1 | h1
 ·exact h.new b h1
 ·by_cases hY : Yof v0 v1 b
  ·exact .inl hY
  ·refine .inr fun o => ?_
   have h2 := free_of h.base (b := b) (offFree h1) o
   rwa [Mem.off_at hY] at h2
theorem MkSt.mono {m m' m'' : Mem} {v0 v1 v0' v1' : Value} {s' : Ms} (h : MkSt m v0 v1 m' v0' v1' s') (hm : m'.le m'') : MkSt m v0 v1 m'' v0' v1' s' :=
 ⟨h.row.mono hm, Mem.le_trans h.base (off_mono _ hm), h.new, h.ok⟩
theorem MkSt.refl {m m' : Mem} {v0 v1 : Value} {s : Ms} (h : MkRow m v0 v1 s) (hs : MsOk s) (hm : m.le m') : MkSt m v0 v1 m' v0 v1 s :=
 ⟨h.mono hm, off_mono _ hm, fun b hb => .inl hb, hs⟩
theorem lentC {P : Program} {g : FuncId} {args : Array Value} {m : Mem} {v0 v1 : Value} {xs : List Box} {R0 : Value → Mem → List (List Value) → List Value → Prop} {Q : Nat → Prop} {F : Shape} {K : (Nat → Prop) → (Value → Mem → List (List Value) → List Value → Prop) → Prop} (h : CXY P g args m (Yof v0 v1) xs [⟨v0, 4⟩, ⟨v1, 7⟩] R0) (hf : ∀ v m' css tvs, R0 v m' css tvs → Shape.fits F v = true) (k : K (Yof v0 v1) R0) :
  ∃ (Y1 : Nat → Prop) (R : Value → Mem → List (List Value) → List Value → Prop), CXY P g args m Y1 xs [⟨v0, 4⟩, ⟨v1, 7⟩] R ∧ (∀ t : Tok, t ∈ [Tok.mk v0 4, Tok.mk v1 7] → ∀ b, t.blk = some b → Y1 b) ∧ (∀ b, Y1 b → (∃ t : Tok, t ∈ [Tok.mk v0 4, Tok.mk v1 7] ∧ t.blk = some b) ∨ Q b) ∧ (∀ v m' css tvs, R v m' css tvs → Shape.fits F v = true) ∧ K Y1 R := by
 refine ⟨_, _, h, fun t ht b hb => ?_, fun b hb => .inl ?_, hf, k⟩
 ·simp only [List.mem_cons, List.not_mem_nil, or_false] at ht
  rcases ht with rfl | rfl
  ·exact .inl hb
  ·exact .inr hb
 ·rcases hb with hb | hb
  ·exact ⟨_, by simp, hb⟩
  ·exact ⟨_, by simp, hb⟩
abbrev PartK := Int → Int → Int → Int → Int → Int → Int → Int → Int → Int → Int → Int → Int → Int → Bool → Mem → List Value → Option Addr → Nat → Nat → Option Addr → Nat → Nat → Prop
theorem mkr_fits {t0 t1 : Value} {m : Mem} {r : Pt × Ms} : ∀ v m' css tvs, MkR t0 t1 m r v m' css tvs → Shape.fits (.agg [.int .u64, .int .u64, .int .u64, .int .u64, .int .u64, .int .u64, .int .u64, .int .u64, .int .u64, .int .u64, .int .u64, .int .u64, .int .u64, .int .u64, .bool]) v = true := by
 rintro v m' css tvs ⟨a, n, c, a1, n1, c1, rfl, _⟩; rfl
theorem same_fits {t0 t1 : Value} {s : Ms} {p : Pt} : ∀ v m' css tvs, SameMk t0 t1 s p.v v m' css tvs → Shape.fits (.agg [.int .u64, .int .u64, .int .u64, .int .u64, .int .u64, .int .u64, .int .u64, .int .u64, .int .u64, .int .u64, .int .u64, .int .u64, .int .u64, .int .u64, .bool]) v = true := by
 rintro v m' css tvs ⟨rfl, _⟩; rfl
theorem part_k {m0 mm : Mem} {w0 w1 v0 v1 : Value} {s : Ms} {r : Pt × Ms} {K : PartK} (hst : MkSt m0 w0 w1 mm v0 v1 s) (hr2 : MsOk r.2)
  (k : ∀ (m' : Mem) (a : Option Addr) (n c : Nat) (a1 : Option Addr) (n1 c1 : Nat), MkSt m0 w0 w1 m' (.slice a n c) (.slice a1 n1 c1) r.2 → K (wdN r.1.first 0 : Nat) (wdN r.1.first 1 : Nat) (wdN r.1.first 2 : Nat) (wdN r.1.first 3 : Nat) (wdN r.1.first 4 : Nat) (wdN r.1.first 5 : Nat) (wdN r.1.first 6 : Nat) (wdN r.1.last 0 : Nat) (wdN r.1.last 1 : Nat) (wdN r.1.last 2 : Nat) (wdN r.1.last 3 : Nat) (wdN r.1.last 4 : Nat) (wdN r.1.last 5 : Nat) (wdN r.1.last 6 : Nat) r.1.null m' [.slice a n c, .slice a1 n1 c1] a n c a1 n1 c1) :
  ∀ (n0 n1 n2 n3 n4 n5 n6 n7 n8 n9 n10 n11 n12 n13 : Int) (b : Bool) (m' : Mem), (mm.off (Yof v0 v1)).le m' → (∀ (b o : Nat) (u : Value), m' b o = some u → mm b o = some u ∨ Yof v0 v1 b ∨ mm.free b) → ∀ (cs : List Value) (a : Option Addr) (c d : Nat) (a1 : Option Addr) (c1 d1 : Nat),
   MkR v0 v1 mm r (.agg #[.int .u64 n0, .int .u64 n1, .int .u64 n2, .int .u64 n3, .int .u64 n4, .int .u64 n5, .int .u64 n6, .int .u64 n7, .int .u64 n8, .int .u64 n9, .int .u64 n10, .int .u64 n11, .int .u64 n12, .int .u64 n13, .bool b]) m' [cs] [.slice a c d, .slice a1 c1 d1] → K n0 n1 n2 n3 n4 n5 n6 n7 n8 n9 n10 n11 n12 n13 b m' cs a c d a1 c1 d1 := by
 rintro n0 n1 n2 n3 n4 n5 n6 n7 n8 n9 n10 n11 n12 n13 b m' hle _ cs a c d a1 c1 d1 ⟨a', n', c', a1', n1', c1', hv, hcs, htv, hrow, hnew⟩
 obtain rfl : cs = [.slice a' n' c', .slice a1' n1' c1'] := by simpa using hcs
 simp only [List.cons.injEq, Value.slice.injEq, and_true] at htv
 obtain ⟨⟨rfl, rfl, rfl⟩, rfl, rfl, rfl⟩ := htv
 simp only [Pt.v, Value.agg.injEq, Array.mk.injEq, List.cons.injEq, Value.int.injEq, Value.bool.injEq, true_and, and_true] at hv
 obtain ⟨rfl, rfl, rfl, rfl, rfl, rfl, rfl, rfl, rfl, rfl, rfl, rfl, rfl, rfl, rfl⟩ := hv
 exact k _ _ _ _ _ _ _ (hst.step hle hrow hnew hr2)
theorem same_k {m0 mm : Mem} {w0 w1 v0 v1 : Value} {s s2 : Ms} {p : Pt} {K : PartK} (hst : MkSt m0 w0 w1 mm v0 v1 s) (hr2 : MsOk s2)
  (k : ∀ (m' : Mem) (a : Option Addr) (n c : Nat) (a1 : Option Addr) (n1 c1 : Nat), MkSt m0 w0 w1 m' (.slice a n c) (.slice a1 n1 c1) s2 → K (wdN p.first 0 : Nat) (wdN p.first 1 : Nat) (wdN p.first 2 : Nat) (wdN p.first 3 : Nat) (wdN p.first 4 : Nat) (wdN p.first 5 : Nat) (wdN p.first 6 : Nat) (wdN p.last 0 : Nat) (wdN p.last 1 : Nat) (wdN p.last 2 : Nat) (wdN p.last 3 : Nat) (wdN p.last 4 : Nat) (wdN p.last 5 : Nat) (wdN p.last 6 : Nat) p.null m' [.slice a n c, .slice a1 n1 c1] a n c a1 n1 c1) :
  ∀ (n0 n1 n2 n3 n4 n5 n6 n7 n8 n9 n10 n11 n12 n13 : Int) (b : Bool) (m' : Mem), (mm.off (Yof v0 v1)).le m' → (∀ (b o : Nat) (u : Value), m' b o = some u → mm b o = some u ∨ Yof v0 v1 b ∨ mm.free b) → ∀ (cs : List Value) (a : Option Addr) (c d : Nat) (a1 : Option Addr) (c1 d1 : Nat),
   SameMk v0 v1 s2 p.v (.agg #[.int .u64 n0, .int .u64 n1, .int .u64 n2, .int .u64 n3, .int .u64 n4, .int .u64 n5, .int .u64 n6, .int .u64 n7, .int .u64 n8, .int .u64 n9, .int .u64 n10, .int .u64 n11, .int .u64 n12, .int .u64 n13, .bool b]) m' [cs] [.slice a c d, .slice a1 c1 d1] → K n0 n1 n2 n3 n4 n5 n6 n7 n8 n9 n10 n11 n12 n13 b m' cs a c d a1 c1 d1 := by
 rintro n0 n1 n2 n3 n4 n5 n6 n7 n8 n9 n10 n11 n12 n13 b m' hle _ cs a c d a1 c1 d1 ⟨hv, hcs, htv, hrow⟩
 simp only [List.cons.injEq, and_true] at htv
 obtain ⟨rfl, rfl⟩ := htv
 obtain rfl : cs = [.slice a c d, .slice a1 c1 d1] := by simpa using hcs
 simp only [Pt.v, Value.agg.injEq, Array.mk.injEq, List.cons.injEq, Value.int.injEq, Value.bool.injEq, true_and, and_true] at hv
 obtain ⟨rfl, rfl, rfl, rfl, rfl, rfl, rfl, rfl, rfl, rfl, rfl, rfl, rfl, rfl, rfl⟩ := hv
 exact k _ _ _ _ _ _ _ (hst.step hle hrow (fun b hb => .inl hb) hr2)
def MkC (t : T) : Prop := ∀ (s : Ms) (mkb : Nat) (t0a t1a : Option Addr) (t0n t0c t1n t1c : Nat) (m : Mem), MkRow m (.slice t0a t0n t0c) (.slice t1a t1n t1c) s → MsOk s → Rep (m.off (Yof (.slice t0a t0n t0c) (.slice t1a t1n t1c))) t → (mk t s).2.sets.length ≤ 448 →
 CXY Try.prog 61 #[.pointer (some ⟨mkb, 0, none⟩), t.v] m (Yof (.slice t0a t0n t0c) (.slice t1a t1n t1c)) [⟨mkb, [.slice t0a t0n t0c, .slice t1a t1n t1c], 98, 2, false, true⟩] [⟨.slice t0a t0n t0c, 4⟩, ⟨.slice t1a t1n t1c, 7⟩] (MkR (.slice t0a t0n t0c) (.slice t1a t1n t1c) m (mk t s))
theorem MkSt.out {m m' : Mem} {v0 v1 : Value} {s' : Ms} {a : Option Addr} {n c : Nat} {a1 : Option Addr} {n1 c1 : Nat} {r : Pt × Ms} {w : Value} (h : MkSt m v0 v1 m' (.slice a n c) (.slice a1 n1 c1) s') (hw : w = r.1.v) (hs : s' = r.2) : MkR v0 v1 m r w m' [[.slice a n c, .slice a1 n1 c1]] [.slice a n c, .slice a1 n1 c1] :=
 ⟨a, n, c, a1, n1, c1, hw, rfl, rfl, hs ▸ h.row, h.new⟩
theorem cxy_cat (t : T) (ih : ∀ x ∈ t.subs, MkC x) (s : Ms) (c0b mkb : Nat) (t0a t1a : Option Addr) (t0n t0c t1n t1c : Nat) (m : Mem) (h : MkRow m (.slice t0a t0n t0c) (.slice t1a t1n t1c) s) (hs : MsOk s) (hr : Rep (m.off (Yof (.slice t0a t0n t0c) (.slice t1a t1n t1c))) t) (hc0 : (m.off (Yof (.slice t0a t0n t0c) (.slice t1a t1n t1c))) c0b 0 = some (.pointer (some ⟨mkb, 0, none⟩))) (hN : (mkCat t.subs ⟨0, 0, true⟩ s).2.sets.length ≤ 448) :
  CXY Try.prog 138 #[t.v, .pointer (some ⟨c0b, 0, none⟩)] m (Yof (.slice t0a t0n t0c) (.slice t1a t1n t1c)) [⟨mkb, [.slice t0a t0n t0c, .slice t1a t1n t1c], 98, 2, false, true⟩] [⟨.slice t0a t0n t0c, 4⟩, ⟨.slice t1a t1n t1c, 7⟩]
   (MkR (.slice t0a t0n t0c) (.slice t1a t1n t1c) m (mkCat t.subs ⟨0, 0, true⟩ s)) := by
 apply cxy_nfa_maker_kinds_4
 unfold VC_nfa_maker_kinds_4
 intro b0 m1 hm1 _ hf0 hn1 b1 b2
 have hlen := (Rep_iff hr).1
 refine ⟨fun xs css tvs m' q => ∃ (k : Nat) (out : Pt) (s' : Ms) (a : Option Addr) (n c : Nat) (a1 : Option Addr) (n1 c1 : Nat), k ≤ t.subs.length ∧ xs = [.int .i64 k] ∧ css = [out.cs, [.slice a n c, .slice a1 n1 c1]] ∧ tvs = [.slice a n c, .slice a1 n1 c1] ∧ q = t.subs.length - k ∧ MkSt m (.slice t0a t0n t0c) (.slice t1a t1n t1c) m' (.slice a n c) (.slice a1 n1 c1) s' ∧ PtIn s'.sets.length out ∧ mkCat (t.subs.drop k) out s' = mkCat t.subs ⟨0, 0, true⟩ s,
  ⟨_, 0, ⟨0, 0, true⟩, s, t0a, t0n, t0c, t1a, t1n, t1c, Nat.zero_le _, rfl, rfl, rfl, rfl, MkSt.refl h hs hm1, ptIn_zero _ _, rfl⟩, ?_⟩
 rintro x cs cs1 a n c a1 n1 c1 m2 q _ ⟨k, out, s', a', n', c', a1', n1', c1', hk, hx, hcs, htv, hq, hst, hpt, heq⟩
 obtain rfl : x = k := by simpa using hx
 simp only [List.cons.injEq, and_true] at hcs
 obtain ⟨rfl, rfl⟩ := hcs
 simp only [List.cons.injEq, Value.slice.injEq, and_true] at htv
 obtain ⟨⟨rfl, rfl, rfl⟩, rfl, rfl, rfl⟩ := htv
 subst hq
 refine br_intro (fun hlt => ?_) (fun hge => ?_)
 ·have hlt' : k < t.subs.length := by have := of_decide_eq_true hlt; omega
  obtain ⟨y, hy⟩ : ∃ y, t.subs[k]? = some y := ⟨t.subs[k], by simp [hlt']⟩
  rcases (Rep_iff hr).2 with he | ⟨bt, ot, hat, hrt⟩
  ·rw [he] at hlt'; simp at hlt'
  obtain ⟨hrd, hry⟩ := hrt.get hy
  have hrd2 := (hrd.mono hst.base).mono (Mem.off_le m2 _)
  have hstep := mkCat_drop hy out s'
  have hg1 := mk_grows y s' hst.ok
  have hg2 := thenM_grows hg1.ok (hpt.mono hg1.le) hg1.pt
  have hg3 := mkCat_grows (t.subs.drop (k + 1)) _ _ hg2.ok hg2.pt
  rw [← hstep, heq] at hg3
  have hN1 : (mk y s').2.sets.length ≤ 448 := Nat.le_trans hg2.le (Nat.le_trans hg3.le hN)
  refine ⟨bt, ot, hat, ⟨by omega, by omega⟩, _, _, _, _, _, _, _, _, (by rw [Int.toNat_natCast]; exact hrd2), fun b3 => chk_intro rfl ⟨_, hc0, _, hc0, ?_⟩⟩
  refine lentC (ih y (List.mem_of_getElem? hy) s' mkb _ _ _ _ _ _ m2 hst.row hst.ok (Rep.mono hst.base y hry) hN1) mkr_fits (part_k hst hg1.ok fun m3 a3 n3 c3 a4 n4 c4 hst3 => ?_)
  refine lentC (cxy_then (mk y s').2 out (mk y s').1 mkb _ _ _ _ _ _ m3 hst3.row (by rw [hg1.ok.len]; exact hN1) (fun i hi => by rw [hg1.ok.len]; exact (hpt.mono hg1.le).2 i hi)) same_fits (same_k hst3 hg2.ok fun m5 a5 n5 c5 a6 n6 c6 hst5 => ?_)
  refine ⟨rfl, rfl, _, ?_, k + 1, (thenM out (mk y s').1 (mk y s').2).1, _, _, _, _, _, _, _, hlt', ?_, rfl, rfl, rfl, hst5, hg2.pt, ?_⟩
  ·omega
  ·rw [wrap64 (by omega) (by omega)]; rfl
  ·exact hstep.symm.trans heq
 ·have hk' : k = t.subs.length := by have := of_decide_eq_false hge; omega
  subst hk'
  rw [List.drop_length, mkCat] at heq
  refine chk_intro rfl ⟨rfl, hst.out ?_ ?_⟩
  ·rw [← heq]; rfl
  ·rw [← heq]
theorem cxy_alt (t : T) (ih : ∀ x ∈ t.subs, MkC x) (s : Ms) (c0b mkb : Nat) (t0a t1a : Option Addr) (t0n t0c t1n t1c : Nat) (m : Mem) (h : MkRow m (.slice t0a t0n t0c) (.slice t1a t1n t1c) s) (hs : MsOk s) (hr : Rep (m.off (Yof (.slice t0a t0n t0c) (.slice t1a t1n t1c))) t) (hc0 : (m.off (Yof (.slice t0a t0n t0c) (.slice t1a t1n t1c))) c0b 0 = some (.pointer (some ⟨mkb, 0, none⟩))) (hN : (mkAlt t.subs ⟨0, 0, false⟩ s).2.sets.length ≤ 448) :
  CXY Try.prog 140 #[t.v, .pointer (some ⟨c0b, 0, none⟩)] m (Yof (.slice t0a t0n t0c) (.slice t1a t1n t1c)) [⟨mkb, [.slice t0a t0n t0c, .slice t1a t1n t1c], 98, 2, false, true⟩] [⟨.slice t0a t0n t0c, 4⟩, ⟨.slice t1a t1n t1c, 7⟩]
   (MkR (.slice t0a t0n t0c) (.slice t1a t1n t1c) m (mkAlt t.subs ⟨0, 0, false⟩ s)) := by
 apply cxy_nfa_maker_kinds_5
 unfold VC_nfa_maker_kinds_5
 intro b0 m1 hm1 _ hf0 hn1 b1 b2
 have hlen := (Rep_iff hr).1
 refine ⟨fun xs css tvs m' q => ∃ (k : Nat) (out : Pt) (s' : Ms) (a : Option Addr) (n c : Nat) (a1 : Option Addr) (n1 c1 : Nat), k ≤ t.subs.length ∧ xs = [.int .i64 k] ∧ css = [out.cs, [.slice a n c, .slice a1 n1 c1]] ∧ tvs = [.slice a n c, .slice a1 n1 c1] ∧ q = t.subs.length - k ∧ MkSt m (.slice t0a t0n t0c) (.slice t1a t1n t1c) m' (.slice a n c) (.slice a1 n1 c1) s' ∧ PtIn s'.sets.length out ∧ mkAlt (t.subs.drop k) out s' = mkAlt t.subs ⟨0, 0, false⟩ s,
  ⟨_, 0, ⟨0, 0, false⟩, s, t0a, t0n, t0c, t1a, t1n, t1c, Nat.zero_le _, rfl, rfl, rfl, rfl, MkSt.refl h hs hm1, ptIn_zero _ _, rfl⟩, ?_⟩
 rintro x cs cs1 a n c a1 n1 c1 m2 q _ ⟨k, out, s', a', n', c', a1', n1', c1', hk, hx, hcs, htv, hq, hst, hpt, heq⟩
 obtain rfl : x = k := by simpa using hx
 simp only [List.cons.injEq, and_true] at hcs
 obtain ⟨rfl, rfl⟩ := hcs
 simp only [List.cons.injEq, Value.slice.injEq, and_true] at htv
 obtain ⟨⟨rfl, rfl, rfl⟩, rfl, rfl, rfl⟩ := htv
 subst hq
 refine br_intro (fun hlt => ?_) (fun hge => ?_)
 ·have hlt' : k < t.subs.length := by have := of_decide_eq_true hlt; omega
  obtain ⟨y, hy⟩ : ∃ y, t.subs[k]? = some y := ⟨t.subs[k], by simp [hlt']⟩
  rcases (Rep_iff hr).2 with he | ⟨bt, ot, hat, hrt⟩
  ·rw [he] at hlt'; simp at hlt'
  obtain ⟨hrd, hry⟩ := hrt.get hy
  have hrd2 := (hrd.mono hst.base).mono (Mem.off_le m2 _)
  have hstep := mkAlt_drop hy out s'
  have hg1 := mk_grows y s' hst.ok
  have hpt2 := altP_in (hpt.mono hg1.le) hg1.pt
  have hg3 := mkAlt_grows (t.subs.drop (k + 1)) _ _ hg1.ok hpt2
  rw [← hstep, heq] at hg3
  have hN1 : (mk y s').2.sets.length ≤ 448 := Nat.le_trans hg3.le hN
  refine ⟨bt, ot, hat, ⟨by omega, by omega⟩, _, _, _, _, _, _, _, _, (by rw [Int.toNat_natCast]; exact hrd2), fun b3 => chk_intro rfl ⟨_, Mem.off_le _ _ _ _ _ (hst.base _ _ _ hc0), ?_⟩⟩
  refine lentC (ih y (List.mem_of_getElem? hy) s' mkb _ _ _ _ _ _ m2 hst.row hst.ok (Rep.mono hst.base y hry) hN1) mkr_fits (part_k hst hg1.ok fun m3 a3 n3 c3 a4 n4 c4 hst3 b6 => ?_)
  refine ⟨_, trivial, cx_bor out.first (mk y s').1.first b2 102 15 [] (bwL out.last ++ [Value.bool out.null]) m3 (by omega), fun v _ _ h => by rw [h.1]; rfl, fun m4 hm4 cs1 hcs1 => ?_⟩
  obtain rfl : cs1 = _ := by simpa using hcs1.2
  refine ⟨_, trivial, cx_bor out.last (mk y s').1.last b2 102 15 (bwL (out.first ||| (mk y s').1.first)) [Value.bool out.null] m4 (by omega), fun v _ _ h => by rw [h.1]; rfl, fun m5 hm5 cs2 hcs2 => ?_⟩
  obtain rfl : cs2 = _ := by simpa using hcs2.2
  have hst5 := hst3.mono (Mem.le_trans hm4 hm5)
  have fin : ∀ cs : List Value, cs = (altP out (mk y s').1).cs → ∃ n', n' < t.subs.length - k ∧ (fun (xs : List Value) (css : List (List Value)) (tvs : List Value) (m' : Mem) (q : Nat) => ∃ (k : Nat) (out : Pt) (s' : Ms) (a : Option Addr) (n c : Nat) (a1 : Option Addr) (n1 c1 : Nat), k ≤ t.subs.length ∧ xs = [.int .i64 k] ∧ css = [out.cs, [.slice a n c, .slice a1 n1 c1]] ∧ tvs = [.slice a n c, .slice a1 n1 c1] ∧ q = t.subs.length - k ∧ MkSt m (.slice t0a t0n t0c) (.slice t1a t1n t1c) m' (.slice a n c) (.slice a1 n1 c1) s' ∧ PtIn s'.sets.length out ∧ mkAlt (t.subs.drop k) out s' = mkAlt t.subs ⟨0, 0, false⟩ s) [.int .i64 (IntKind.i64.wrap ((k : Int) + 1))] [cs, [.slice a3 n3 c3, .slice a4 n4 c4]] [.slice a3 n3 c3, .slice a4 n4 c4] m5 n' := fun cs hcs =>
   ⟨_, by omega, k + 1, altP out (mk y s').1, _, _, _, _, _, _, _, hlt', by rw [wrap64 (by omega) (by omega)]; rfl, by rw [hcs], rfl, rfl, hst5, hpt2, hstep.symm.trans heq⟩
  obtain ⟨of, ol, on⟩ := out
  refine look_intro (v := .bool on) rfl ?_
  generalize hy1 : (mk y s').1 = r1 at fin ⊢
  obtain ⟨rf, rl, rn⟩ := r1
  cases on <;> cases rn
  ·exact chk_intro rfl (br_false rfl (chk_intro rfl ⟨rfl, rfl, fin _ rfl⟩))
  ·exact chk_intro rfl (br_false rfl (chk_intro rfl ⟨rfl, rfl, fin _ rfl⟩))
  ·exact chk_intro rfl (br_true rfl (chk_intro rfl ⟨rfl, rfl, fin _ rfl⟩))
  ·exact chk_intro rfl (br_true rfl (chk_intro rfl ⟨rfl, rfl, fin _ rfl⟩))
 ·have hk' : k = t.subs.length := by have := of_decide_eq_false hge; omega
  subst hk'
  rw [List.drop_length, mkAlt] at heq
  refine chk_intro rfl ⟨rfl, hst.out ?_ ?_⟩
  ·rw [← heq]; rfl
  ·rw [← heq]
theorem cxy_group (t : T) (ht : t.subs.length = 1) (ih : ∀ x ∈ t.subs, MkC x) (s : Ms) (c0b mkb : Nat) (t0a t1a : Option Addr) (t0n t0c t1n t1c : Nat) (m : Mem) (h : MkRow m (.slice t0a t0n t0c) (.slice t1a t1n t1c) s) (hs : MsOk s) (hr : Rep (m.off (Yof (.slice t0a t0n t0c) (.slice t1a t1n t1c))) t) (hc0 : (m.off (Yof (.slice t0a t0n t0c) (.slice t1a t1n t1c))) c0b 0 = some (.pointer (some ⟨mkb, 0, none⟩))) (hN : (mkHd t.subs s).2.sets.length ≤ 448) :
  CXY Try.prog 143 #[t.v, .pointer (some ⟨c0b, 0, none⟩)] m (Yof (.slice t0a t0n t0c) (.slice t1a t1n t1c)) [⟨mkb, [.slice t0a t0n t0c, .slice t1a t1n t1c], 98, 2, false, true⟩] [⟨.slice t0a t0n t0c, 4⟩, ⟨.slice t1a t1n t1c, 7⟩]
   (MkR (.slice t0a t0n t0c) (.slice t1a t1n t1c) m (mkHd t.subs s)) := by
 apply cxy_nfa_maker_kinds_6
 unfold VC_nfa_maker_kinds_6
 intro b0 m1 hm1 _ hf0 hn1 b1
 have hst := MkSt.refl h hs hm1
 obtain ⟨y, hy⟩ : ∃ y, t.subs[0]? = some y := ⟨t.subs[0], by simp [ht]⟩
 have hhd : mkHd t.subs s = mk y s := by
  cases hl : t.subs with
  | nil => rw [hl] at hy; simp at hy
  | cons z l => rw [hl] at hy; simp at hy; subst hy; rw [mkHd]
 rw [hhd] at hN ⊢
 rcases (Rep_iff hr).2 with he | ⟨bt, ot, hat, hrt⟩
 ·rw [he] at ht; simp at ht
 obtain ⟨hrd, hry⟩ := hrt.get hy
 have hrd2 := (hrd.mono hst.base).mono (Mem.off_le m1 _)
 have hg1 := mk_grows y s hs
 refine ⟨fun _ _ _ _ _ _ => True, _, hm1 _ _ _ (Mem.off_le _ _ _ _ _ hc0), bt, ot, hat, ⟨by omega, by omega⟩, _, _, _, _, _, _, _, _, (by rw [Nat.zero_mul] at hrd2; exact hrd2), ?_⟩
 refine lentC (ih y (List.mem_of_getElem? hy) s mkb _ _ _ _ _ _ m1 hst.row hst.ok (Rep.mono hst.base y hry) hN) mkr_fits (part_k hst hg1.ok fun m3 a3 n3 c3 a4 n4 c4 hst3 => ?_)
 exact ⟨rfl, hst3.out rfl rfl⟩
end Go.Proofs.Ytplacemlpkhmfaa

