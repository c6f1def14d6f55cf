/- Part of the proof: conditions and contracts of functions of this program. No condition of its own. -/
import Derived.Test.YtmggihkjgbnhbaaPC15B
import Derived.Test.YtmggihkjgbnhbaaPC15T
set_option linter.unusedVariables false
set_option linter.unusedSimpArgs false
set_option linter.unusedSectionVars false
namespace Go.Proofs.Ytmggihkjgbnhbaa
open Go Go.Eng Go.Rx Go.Proofs Go.RowKit
set_option maxRecDepth 100000
def ListE (Ls : List T) : Value → Mem → List (List Value) → Prop := fun v m' _ => ∃ (L : List T) (a : Option Addr) (c : Nat), v = .slice a L.length c ∧ RepL m' a L ∧ L.map T.er = Ls.map T.er ∧ ∀ x ∈ L, x.caps
theorem ListE_fits {Ls : List T} : ∀ (v : Value) (m' : Mem) (css : List (List Value)), ListE Ls v m' css → Shape.fits .slice v = true := fun v _ _ ⟨L, a, c, e, _⟩ => by rw [e]; rfl
set_option maxHeartbeats 1600000 in
theorem cx_cut (subs : List T) (a : Option Addr) (cap : Nat) (c : C4) (m : Mem) (hL : RepL m a subs) (hcap : subs.length ≤ cap) (hg : ∀ x ∈ subs, x.good = true) (hcs : ∀ x ∈ subs, x.caps) (hsz : szL subs ≤ 300) (hf : Fit subs c) : CX Try.prog 70 #[.slice a subs.length cap, c.v] m [] (ListE (cutE subs c)) := by
 apply cx_factor_cut
 unfold VC_factor_cut
 intro b m1 hm1 hrd
 have h2 := hf.two
 have hle := hf.le
 have hp := hf.pos
 have hll := len_szL subs
 have hreps := repL_reps hL
 refine ⟨⟨by omega, by omega⟩, ⟨by omega, by omega⟩, ?_⟩
 simp only [Int.toNat_natCast]
 generalize hseg : (subs.take c.t).drop c.f = seg
 have hsl : seg.length = c.t - c.f := by rw [← hseg, List.length_drop, List.length_take, Nat.min_eq_left hle]
 have hsm : ∀ x ∈ seg, x ∈ subs ∧ c.n ≤ (headT x).length := fun x hx => by
  rw [← hseg] at hx
  obtain ⟨i, h3, h4, h5⟩ := seg_mem hx
  exact ⟨List.mem_of_getElem? h5, hf.head i x h3 h4 h5⟩
 have hsegR : RepL m (slBase a c.f cap 8) seg := by
  have := repL_drop (repL_take hL c.t) (i := c.f) (c := cap) (by rw [List.length_take]; omega) (by rw [List.length_take]; omega)
  rw [hseg] at this; exact this
 have hrow := row_of_repL hsegR
 have hlm := fun x hx => left_made (hg x (hsm x hx).1) (hsm x hx).2 hp
 refine ⟨fun xs css tvs m' q => ∃ (i : Nat) (L : List T) (a : Option Addr) (cc : Nat), i ≤ seg.length ∧ xs = [.slice a L.length cc, .bool ((seg.take i).any fun x => (leftE c.n x).k == 1), .int .i64 i] ∧ tvs = [.slice a L.length cc] ∧ rowRd m' a (Rx.cellsL L) ∧ (∀ x ∈ L, Rep m' x ∧ x.good = true) ∧ L.map T.er = (restE false ((seg.take i).map (leftE c.n))).map T.er ∧ q = seg.length - i, ⟨_, 0, [], none, 0, by omega, rfl, rfl, .inl rfl, by simp, rfl, rfl⟩, ?_⟩
 rintro a3 n3 c3 b3 z3 a4 n4 c4 m2 q2 hm2 ⟨i, L, a', cc, hi, hxs, htv, hrowL, hLr, hLe, hq⟩
 simp only [List.cons.injEq, Value.slice.injEq, Value.bool.injEq, Value.int.injEq, true_and, and_true] at hxs htv
 obtain ⟨⟨rfl, rfl, rfl⟩, rfl, rfl⟩ := hxs
 obtain ⟨rfl, rfl, rfl⟩ := htv
 have h02 := Mem.le_trans hm1 hm2
 have hLlen : L.length ≤ i := by
  have h3 := congrArg List.length hLe
  rw [List.length_map, List.length_map] at h3
  have h4 : ∀ (e : Bool) (l : List T), (restE e l).length ≤ l.length := fun e l => by
   induction l generalizing e with
   | nil => exact Nat.le_refl _
   | cons x l ih => unfold restE; split <;> simp <;> have := ih (e || x.k == 1) <;> omega
  have h5 := h4 false ((seg.take i).map (leftE c.n))
  rw [List.length_map, List.length_take] at h5
  omega
 refine br_intro (fun hlt => ?_) (fun hge => ?_)
 ·have hlt' : i < seg.length := by have := of_decide_eq_true hlt; omega
  obtain ⟨x, hx⟩ := at_some hlt'
  have hxm := List.mem_of_getElem? hx
  obtain ⟨b0, o0, ha0, hrd0⟩ := row_get (hrow.mono h02) hx
  have hxr := (hreps x (hsm x hxm).1).mono h02
  have hxz := szL_mem (hsm x hxm).1
  have hw : IntKind.i64.wrap ((i : Int) + 1) = ((i + 1 : Nat) : Int) := by rw [wrap64 (by omega) (by omega)]; rfl
  simp only [hw]
  have hsnoc := restE_snoc (leftE c.n x) false ((seg.take i).map (leftE c.n))
  rw [Bool.false_or, List.any_map] at hsnoc
  have hmap : (seg.take (i + 1)).map (leftE c.n) = (seg.take i).map (leftE c.n) ++ [leftE c.n x] := by rw [take_at hx, List.map_append]; rfl
  have hany : (seg.take (i + 1)).any (fun x => (leftE c.n x).k == 1) = ((seg.take i).any (fun x => (leftE c.n x).k == 1) || ((leftE c.n x).k == 1)) := by rw [take_at hx, List.any_append]; simp
  have hfun : ((fun y : T => y.k == 1) ∘ leftE c.n) = fun x => (leftE c.n x).k == 1 := rfl
  rw [hfun] at hsnoc
  rw [← hmap] at hsnoc
  refine ⟨b0, o0, ha0, ⟨by omega, by omega⟩, _, _, _, _, _, _, _, _, hrd0, fun b5 => chk_intro rfl (call_any (cx_left x c.n m2 hxr (hg x (hsm x hxm).1) (by omega) (caps_len (hcs x (hsm x hxm).1)) (hsm x hxm).2) tree_fits (tree_k fun t' m3 hm3 hr' ⟨ht', hcp'⟩ b6 => ?_))⟩
  have hk : t'.k = (leftE c.n x).k := by rw [← er_k, ht']
  have hgl := (hlm x hxm).1
  generalize (seg.take i).any (fun x => (leftE c.n x).k == 1) = sn at *
  rw [← hk] at hsnoc hany
  refine ⟨!(t'.k == 1) || !sn, ?_, br_intro (fun hy => ?_) (fun hn => ?_)⟩
  ·refine br_intro (fun h => ⟨by trivial, by trivial, by rw [h]; rfl⟩) (fun h => ⟨by trivial, by trivial, by rw [h]; rfl⟩)
  ·intro b7 hf7
   have hle7 := Mem.le_add hf7 t'.cs
   rw [if_pos (by
    simp only [Bool.or_eq_true, Bool.not_eq_true', beq_eq_false_iff_ne] at hy
    exact hy)] at hsnoc
   refine ⟨.inl (by trivial), Rx.cellsL L, t'.cs, by rw [cellsL_len], rfl, (hrowL.mono hm3).mono hle7, .inr ⟨b7, 0, rfl, fun j v hj => by rw [Nat.zero_add, Mem.add_same]; exact hj⟩, by have := oneT [t']; simpa [Rx.cellsL] using this, by omega, by omega, fun a8 c8 m8 hm8 hrow8 => ⟨sn || (t'.k == 1), ?_, ?_⟩⟩
   ·refine br_intro (fun h => ⟨by trivial, by trivial, by rw [h]; rfl⟩) (fun h => ⟨by trivial, by trivial, by rw [h]; rfl⟩)
   ·refine ⟨by trivial, seg.length - (i + 1), by omega, i + 1, L ++ [t'], a8, c8, by omega, ?_, ?_, ?_, ?_, ?_, rfl⟩
    ·rw [hany, List.length_append]; rfl
    ·rw [List.length_append]; rfl
    ·rw [cellsL_snoc]; exact hrow8
    ·have hle8 := Mem.le_trans hle7 hm8
     intro y hy
     rcases List.mem_append.1 hy with hy | hy
     ·exact ⟨(hLr y hy).1.mono (Mem.le_trans hm3 hle8), (hLr y hy).2⟩
     ·rw [List.mem_singleton] at hy; subst hy
      exact ⟨hr'.mono hle8, good_of_er ht' hgl⟩
    ·rw [hsnoc, List.map_append, List.map_append, hLe]
     simp only [List.map_cons, List.map_nil, ht', (hlm x hxm).2.2.2]
  ·rw [if_neg (by
    simp only [Bool.or_eq_false_iff, Bool.not_eq_false', beq_iff_eq] at hn
    rintro (h | h)
    ·exact h hn.1
    ·rw [hn.2] at h; cases h), List.append_nil] at hsnoc
   refine ⟨sn || (t'.k == 1), ?_, ?_⟩
   ·refine br_intro (fun h => ⟨by trivial, by trivial, by rw [h]; rfl⟩) (fun h => ⟨by trivial, by trivial, by rw [h]; rfl⟩)
   ·exact ⟨by trivial, seg.length - (i + 1), by omega, i + 1, L, _, _, by omega, by rw [hany], rfl, hrowL.mono hm3, fun y hy => ⟨(hLr y hy).1.mono hm3, (hLr y hy).2⟩, by rw [hsnoc]; exact hLe, rfl⟩
 ·have hii : i = seg.length := by have := of_decide_eq_false hge; omega
  subst hii
  rw [List.take_length] at hLe
  obtain ⟨x0, hx0⟩ := at_some (l := subs) (k := c.f) (by omega)
  have hx0m := List.mem_of_getElem? hx0
  have hg0 := hg x0 hx0m
  have hn0 := hf.head c.f x0 (Nat.le_refl _) (by omega) hx0
  obtain ⟨b0, o0, ha0, hrd0⟩ := row_get ((row_of_repL hL).mono h02) hx0
  have hx0r := (hreps x0 hx0m).mono h02
  refine ⟨fun _ _ _ => ListT (headT x0), b0, o0, ha0, ⟨by omega, by omega⟩, _, _, _, _, _, _, _, _, hrd0, _, rfl, cx_head x0 m2 hx0r (caps_len (hcs x0 hx0m)), ListT_fits, ?_⟩
  rintro a5 n5 c5 m3 hm3 ⟨a5', c5', hv5, hH, hHc⟩
  simp only [Value.slice.injEq] at hv5
  obtain ⟨rfl, rfl, rfl⟩ := hv5
  refine ⟨⟨by omega, by omega⟩, fun M hM2 hM3 => ?_⟩
  have hfl : ((headT x0).take c.n).length = c.n := by rw [List.length_take, Nat.min_eq_left hn0]
  have hnb : c.n ≤ 300 := by
   have h3 := headT_len x0
   have h4 := szL_mem hx0m
   omega
  have hfr := repL_take (hH.mono hM3) c.n
  have hclone := cxt_clone_nd (slBase a5 0 c5 8) (c5 - 0) ((headT x0).take c.n) M (row_of_repL hfr) (by omega)
  rw [hfl] at hclone
  refine ⟨_, hclone, (fun v _ _ ⟨a, c, e, _⟩ => by rw [e]; rfl), ?_⟩
  rintro a6 n6 c6 m4 hm4 ⟨a6', c6', hv6, hrow6, hn6, _⟩
  simp only [Value.slice.injEq] at hv6
  obtain ⟨rfl, rfl, rfl⟩ := hv6
  have h24 := Mem.le_trans hM2 hm4
  have hcl := fun x hx => headT_good hg0 x (List.mem_of_mem_take (i := c.n) hx)
  have hsegsz : szL seg ≤ szL subs := by
   have h3 := szL_take subs c.t
   have h4 := szL_take (subs.take c.t) c.f
   rw [hseg] at h4
   omega
  have hlefts := lefts_made hp (l := seg) fun x hx => ⟨hg x (hsm x hx).1, (hsm x hx).2⟩
  have hrest := restE_gr (e := false) fun x hx => (hlefts.1 x hx).1
  have hLsz : szL L ≤ 300 := by rw [szL_of_er hLe]; omega
  have hLcl : ∀ x ∈ L, x.clean = true := fun x hx => good_clean (hLr x hx).2 (by have := szL_mem hx; omega)
  have hLne : L ≠ [] := by
   intro e
   rw [e] at hLe
   have h3 := congrArg List.length hLe
   rw [List.length_map] at h3
   match hsq : seg.map (leftE c.n), hLe with
   | [], _ =>
    have := congrArg List.length hsq
    rw [List.length_map, hsl] at this
    simp at this
    omega
   | y :: r, hLe =>
    have := restE_ne (e := false) (x := y) (l := r) rfl
    rw [List.map_nil] at hLe
    exact this (by simpa using hLe.symm)
  have hLR : RepL m4 a4 L := repL_of (hrowL.mono h24) (fun x hx => (hLr x hx).1.mono h24) (by have := len_szL L; omega)
  refine call_any (cx_Or L a4 c4 m4 hLR (by have := len_szL L; omega) hLcl) tree_fits (tree_k fun o m5 hm5 hor ⟨ja, jc, hj⟩ b7 hf7 => ?_)
  have hoe : o.er = altE (restE false (seg.map (leftE c.n))) := by
   rw [or_spec (fun x hx => (hLr x hx).2) hLne (by omega) hj]
   exact altE_congr hLe
  have hom := altE_made (L := restE false (seg.map (leftE c.n))) fun y hy => (hlefts.1 y (restE_mem hy)).1
  have hog : o.good = true := good_of_er hoe hom.good
  have hosz : o.nodes.length ≤ 301 := by
   rw [sz_of_er hoe]
   have := hom.sz
   omega
  have hle7 := Mem.le_add hf7 o.cs
  refine ⟨.inl (by trivial), Rx.cellsL ((headT x0).take c.n), o.cs, by rw [cellsL_len, hfl], rfl, (hrow6.mono hm5).mono hle7, .inr ⟨b7, 0, rfl, fun j v hj => by rw [Nat.zero_add, Mem.add_same]; exact hj⟩, by have := oneT [o]; simpa [Rx.cellsL] using this, by omega, by omega, fun a8 c8 m6 hm6 hrow8 => ?_⟩
  have h46 : m4.le m6 := Mem.le_trans hm5 (Mem.le_trans hle7 hm6)
  have hSR : RepL m6 a8 ((headT x0).take c.n ++ [o]) := repL_of (by rw [cellsL_snoc]; exact hrow8) (fun x hx => by
   rcases List.mem_append.1 hx with hx | hx
   ·exact (repL_reps hfr x hx).mono (Mem.le_trans hm4 h46)
   ·rw [List.mem_singleton] at hx; subst hx; exact hor.mono (Mem.le_trans hle7 hm6)) (by rw [List.length_append, hfl]; simp; omega)
  have hSg : ∀ x ∈ (headT x0).take c.n ++ [o], x.good = true := fun x hx => by
   rcases List.mem_append.1 hx with hx | hx
   ·exact (hcl x hx).1
   ·rw [List.mem_singleton] at hx; subst hx; exact hog
  have hSsz : szL ((headT x0).take c.n ++ [o]) ≤ 700 := by
   rw [szL_append, szL_one, (szL_class hcl).1, hfl]; omega
  have hSlen : ((headT x0).take c.n ++ [o]).length = c.n + 1 := by rw [List.length_append, hfl]; rfl
  have hseq := cx_Seq ((headT x0).take c.n ++ [o]) a8 c8 m6 hSR (by omega) (fun x hx => good_clean (hSg x hx) (by have := szL_mem hx; omega))
  rw [hSlen] at hseq
  refine call_any hseq tree_fits (tree_k fun one m7 hm7 hone ⟨ka, kc, hk⟩ b8 => ?_)
  have honee : one.er = oneE subs c := by
   rw [seq_spec hSg (by omega) hk]
   unfold oneE
   rw [hx0, hseg]
   refine catE_congr ?_
   simp only [Option.getD_some, List.map_append, List.map_cons, List.map_nil]
   rw [hoe, hom.er]
  have h67 : m2.le m7 := Mem.le_trans h24 (Mem.le_trans h46 hm7)
  have h07 := Mem.le_trans h02 h67
  refine ⟨fun _ _ _ => fun v m' _ => ∃ a' c', v = .slice a' (c.f + 1 + (subs.length - c.t)) c' ∧ rowRd m' a' (Rx.cellsL (subs.take c.f ++ one :: subs.drop c.t)), ⟨by omega, by omega⟩, fun b9 hf9 => ⟨⟨by omega, by omega⟩, fun b10 hf10 => ?_⟩⟩
  have hle9 := Mem.le_add hf9 one.cs
  have hle10 := Mem.le_add hf10 [.slice (slBase a 0 cap 8) (c.f - 0) (cap - 0), .slice (some ⟨b9, 0, none⟩) 1 1, .slice (slBase a c.t cap 8) (subs.length - c.t) (cap - c.t)]
  have hP := cx_concat_nd [⟨slBase a 0 cap 8, c.f - 0, cap - 0, Rx.cellsL (subs.take c.f)⟩, ⟨some ⟨b9, 0, none⟩, 1, 1, one.cs⟩, ⟨slBase a c.t cap 8, subs.length - c.t, cap - c.t, Rx.cellsL (subs.drop c.t)⟩] (some ⟨b10, 0, none⟩) 3 (m := ((m7.add b9 one.cs).add b10 [.slice (slBase a 0 cap 8) (c.f - 0) (cap - 0), .slice (some ⟨b9, 0, none⟩) 1 1, .slice (slBase a c.t cap 8) (subs.length - c.t) (cap - c.t)])) ⟨fun i q hi => ⟨b10, 0, rfl, ?_⟩, fun q hq => ?_⟩ (by simp [sumN]; omega) (by simp)
  rotate_left
  ·rw [Nat.zero_add, Mem.add_same]
   match i, hi with
   | 0, hi => cases hi; rfl
   | 1, hi => cases hi; rfl
   | 2, hi => cases hi; rfl
   | i + 3, hi => simp at hi
  ·simp only [List.mem_cons, List.not_mem_nil, or_false] at hq
   rcases hq with rfl | rfl | rfl
   ·exact ⟨(row_of_repL (repL_take hL c.f)).mono (Mem.le_trans h07 (Mem.le_trans hle9 hle10)), by rw [cellsL_len, List.length_take, Nat.min_eq_left (by omega)]; rfl, oneT _⟩
   ·exact ⟨.inr ⟨b9, 0, rfl, fun j v hj => hle10 _ _ _ (by rw [Nat.zero_add, Mem.add_same]; exact hj)⟩, rfl, by have := oneT [one]; simpa [Rx.cellsL] using this⟩
   ·exact ⟨(row_of_repL (repL_drop hL hle hcap)).mono (Mem.le_trans h07 (Mem.le_trans hle9 hle10)), by rw [cellsL_len, List.length_drop], oneT _⟩
  have hsum : sumN [⟨slBase a 0 cap 8, c.f - 0, cap - 0, Rx.cellsL (subs.take c.f)⟩, ⟨some ⟨b9, 0, none⟩, 1, 1, one.cs⟩, ⟨slBase a c.t cap 8, subs.length - c.t, cap - c.t, Rx.cellsL (subs.drop c.t)⟩] = c.f + 1 + (subs.length - c.t) := by simp [sumN]; omega
  have hallx : allX [⟨slBase a 0 cap 8, c.f - 0, cap - 0, Rx.cellsL (subs.take c.f)⟩, ⟨some ⟨b9, 0, none⟩, 1, 1, one.cs⟩, ⟨slBase a c.t cap 8, subs.length - c.t, cap - c.t, Rx.cellsL (subs.drop c.t)⟩] = Rx.cellsL (subs.take c.f ++ one :: subs.drop c.t) := by simp [allX, Rx.cellsL]
  rw [hsum, hallx] at hP
  refine ⟨_, rfl, hP, (fun v _ _ ⟨a, c, e, _⟩ => by rw [e]; rfl), ?_⟩
  rintro a11 n11 c11 m8 hm8 ⟨a11', c11', hv11, hrow11⟩
  simp only [Value.slice.injEq] at hv11
  obtain ⟨rfl, rfl, rfl⟩ := hv11
  intro M' hM7 hM9 hM10 hM8
  have h0M := Mem.le_trans h07 hM7
  refine ⟨M', h0M, Mem.le_refl _, subs.take c.f ++ one :: subs.drop c.t, a11, c11, ?_, repL_of (hrow11.mono hM8) (fun x hx => ?_) ?_, ?_, fun x hx => ?_⟩
  ·rw [List.length_append, List.length_cons, List.length_take, List.length_drop, Nat.min_eq_left (by omega)]
   congr 1; omega
  ·rcases List.mem_append.1 hx with hx | hx
   ·exact (hreps x (List.mem_of_mem_take hx)).mono h0M
   ·rcases List.mem_cons.1 hx with rfl | hx
    ·exact hone.mono hM7
    ·exact (hreps x (List.mem_of_mem_drop hx)).mono h0M
  ·rw [List.length_append, List.length_cons, List.length_take, List.length_drop]; omega
  ·unfold cutE
   rw [List.map_append, List.map_append, List.map_cons, List.map_cons, honee]
   have := (oneE_ok hg hf).er
   rw [this]
  ·rcases List.mem_append.1 hx with hx | hx
   ·exact hcs x (List.mem_of_mem_take hx)
   ·rcases List.mem_cons.1 hx with rfl | hx
    ·exact join_caps caps_T1 hk
    ·exact hcs x (List.mem_of_mem_drop hx)
end Go.Proofs.Ytmggihkjgbnhbaa

