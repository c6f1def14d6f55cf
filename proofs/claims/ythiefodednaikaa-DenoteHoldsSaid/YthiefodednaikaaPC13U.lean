/- Part of the proof: conditions and contracts of functions of this program. No condition of its own. -/
import Derived.Test.YthiefodednaikaaPVI
import Derived.Test.YthiefodednaikaaPC13T
import Derived.Test.YthiefodednaikaaMr
/- The statement DenoteFirst: the function returns true. -/
set_option linter.unusedVariables false
set_option linter.unusedSimpArgs false
set_option linter.unusedSectionVars false
namespace Go.Proofs.Ythiefodednaikaa
open Go Go.Eng Go.Rx Go.Proofs Go.RowKit
set_option maxRecDepth 100000

/-- A list of lists of steps, as it lies in memory. -/
structure SmL (m : Mem) (a : Option Addr) (L : List (List (Nat × Nat × Nat))) : Prop where
  at' : ∀ i l, L[i]? = some l → ∃ b o x c, a = some ⟨b, o, none⟩ ∧ m b (o + i) = some (.slice x l.length c) ∧ Sm m x l ∧ l.length ≤ c
def cellsR (l : List Rg) : List Value := (l.map Rg.cs).flatten
theorem cellsR_len (l : List Rg) : (cellsR l).length = l.length * 10 := by
  induction l with
  | nil => rfl
  | cons t l ih => simp [cellsR, Rg.cs] at ih ⊢; omega
theorem cellsR_snoc (l : List Rg) (r : Rg) : cellsR (l ++ [r]) = cellsR l ++ r.cs := by simp [cellsR]
theorem oneR (l : List Rg) : ∀ u ∈ cellsR l, u.oneCell' = true := by
  intro u hu
  simp only [cellsR, List.mem_flatten, List.mem_map] at hu
  obtain ⟨_, ⟨r, _, rfl⟩, h⟩ := hu
  simp only [Rg.cs, List.mem_cons, List.not_mem_nil, or_false] at h
  rcases h with rfl | rfl | rfl | rfl | rfl | rfl | rfl | rfl | rfl | rfl <;> rfl
theorem rgs_row {m : Mem} {a : Option Addr} {l : List Rg} (h : rowRd m a (cellsR l)) (hl : l.length ≤ 1000000000000000) (hr : ∀ r ∈ l, Rep m r.t) : Rgs m a l := by
  have key : ∀ (l : List Rg) (b o : Nat), m.reads b o (cellsR l) → ∀ i r, l[i]? = some r → m.reads b (o + i * 10) r.cs := by
    intro l
    induction l with
    | nil => intro b o _ i r hi; simp at hi
    | cons x l ih =>
      intro b o h i r hi
      cases i with
      | zero =>
        simp at hi; subst hi
        intro j v hj
        have hlt := (List.getElem?_eq_some_iff.1 hj).1
        rw [Nat.zero_mul, Nat.add_zero]
        exact h j v (by rw [cellsR, List.map_cons, List.flatten_cons, List.getElem?_append_left hlt]; exact hj)
      | succ i =>
        rw [show o + (i + 1) * 10 = (o + 10) + i * 10 by omega]
        refine ih b (o + 10) (fun j v hj => ?_) i r (by simpa using hi)
        have := h (10 + j) v (by
          rw [cellsR, List.map_cons, List.flatten_cons, List.getElem?_append_right (by simp [Rg.cs]), show 10 + j - x.cs.length = j by simp [Rg.cs]]; exact hj)
        rw [show o + 10 + j = o + (10 + j) by omega]; exact this
  refine ⟨hl, ?_, hr⟩
  rcases h with h | ⟨b, o, ha, h⟩
  · left
    have e : (cellsR l).length = 0 := by rw [h]; rfl
    rw [cellsR_len] at e
    exact List.eq_nil_of_length_eq_zero (by omega)
  · exact .inr ⟨b, o, ha, key l b o h⟩
def hitC : Best → List Value
  | none => [.int .i64 0, .int .i64 0, .int .i64 0]
  | some (k, f, t) => [.int .i64 (k : Nat), .int .i64 (f : Nat), .int .i64 (t : Nat)]
theorem firstV_hit (o : Best) : firstV o = [.agg (hitC o).toArray, .bool o.isSome] := by
  cases o with
  | none => rfl
  | some p => obtain ⟨a, b, c⟩ := p; rfl
theorem byt_take {m : Mem} {a : Option Addr} {s : List Nat} (h : Byt m a s) (n : Nat) : Byt m a (s.take n) := by
  refine ⟨?_, fun c hc => h.2 c (List.mem_of_mem_take hc)⟩
  rcases h.1 with h | ⟨b, o, h1, h2⟩
  · subst h; left; simp
  · refine .inr ⟨b, o, h1, fun j v hj => h2 j v ?_⟩
    rw [List.map_take] at hj
    rw [List.getElem?_take] at hj
    split at hj
    · exact hj
    · cases hj
theorem byt_at {m : Mem} {a : Option Addr} {s : List Nat} (h : Byt m a s) {i c : Nat} (hi : s[i]? = some c) : ∃ b o, a = some ⟨b, o, none⟩ ∧ m b (o + i) = some (.int .u8 c) := by
  rcases h.1 with h | ⟨b, o, h1, h2⟩
  · subst h; simp at hi
  · exact ⟨b, o, h1, h2 i _ (by rw [List.getElem?_map, hi]; rfl)⟩
/-- First, where nothing is refused. -/
theorem cx_First_ok (l : List Rg) (al : Option Addr) (cl : Nat) (a : Option Addr) (s : List Nat) (c : Nat) (m : Mem) (hl : Rgs m al l) (hg : ∀ r ∈ l, r.t.check = 0) (h64 : l.length ≤ 64) (hs : s.length ≤ 512) (hb : Byt m a s) : CX Try.prog 20 #[.slice al l.length cl, .slice a s.length c] m [] (Ret (.tuple #[.agg (hitC (firstS l s (s.length + 1) 0)).toArray, .bool (firstS l s (s.length + 1) 0).isSome, .int .i64 0])) := by
  have h := cx_First l al cl a s c m (fun _ => hl) (fun _ => hb)
  have hw := rulesW_good h64 hg hs (n := 0) (by omega) (by omega)
  unfold firstE at h
  rw [if_pos hw, hw, firstV_hit] at h
  exact h
theorem cx_Look_ok (l : List Rg) (al : Option Addr) (cl : Nat) (a : Option Addr) (s : List Nat) (c n : Nat) (m : Mem) (hl : Rgs m al l) (hg : ∀ r ∈ l, r.t.check = 0) (h64 : l.length ≤ 64) (hs : s.length ≤ 512) (hn : n ≤ s.length) (hb : Byt m a s) : CX Try.prog 18 #[.slice al l.length cl, .slice a s.length c, .int .i64 n] m [] (Ret (.tuple (lookV n (lookS s n l 0) ++ [Value.int .i64 0]).toArray)) := by
  have h := cx_Look l al cl a s c n m (fun _ => hl) (fun _ => hb)
  have hw := rulesW_good h64 hg hs (n := n) (by omega) (by omega)
  unfold lookE at h
  rw [if_pos hw, hw] at h
  exact h
set_option maxHeartbeats 800000 in
theorem cx_First13 (L : List (List (Nat × Nat × Nat))) (pa : Option Addr) (pc : Nat) (As : List Nat) (aa : Option Addr) (ac : Nat) (s : List Nat) (sa : Option Addr) (sc : Nat) (at' : Nat) (hat : at' < 256) (m : Mem) (hL : SmL m pa L) (hpc : L.length ≤ pc) (hA : Byt m aa As) (hs : Byt m sa s) (hsc : s.length ≤ sc) (hl63 : L.length ≤ 9223372036854775807) (ha63 : As.length ≤ 9223372036854775807) (hs63 : s.length ≤ 9223372036854775807) :
    CX Try.prog 7 #[.slice pa L.length pc, .slice aa As.length ac, .slice sa s.length sc, .int .u8 at'] m [] (Ret (.bool true)) := by
  apply cx_law13_DenoteFirst
  unfold VC_law13_DenoteFirst
  refine call_bool (cx_awake m) fun m1 hm1 => br_f rfl ?_
  have hN2 : (if (20 : Int) < (s.length : Int) then (20 : Int) else (s.length : Int)) = ((min 20 s.length : Nat) : Int) := by split <;> omega
  have hN0 : (if (5 : Int) < (L.length : Int) then (5 : Int) else (L.length : Int)) = ((min 5 L.length : Nat) : Int) := by split <;> omega
  simp only [hN2, hN0, Int.toNat_natCast, Nat.sub_zero]
  have hsl : (s.take 20).length = min 20 s.length := by simp
  have hs' := byt_take hs 20
  rw [← hsl]
  generalize hS : s.take 20 = S at *
  have hSl : S.length ≤ 20 := by omega
  generalize hNN : min 5 L.length = N
  refine ⟨⟨by omega, by omega⟩, ⟨by omega, by omega⟩, fun xs css tvs m' q => ∃ (rs : List Rg) (a : Option Addr) (c : Nat), rs.length ≤ N ∧ xs = [.slice a rs.length c, .int .i64 rs.length] ∧ tvs = [.slice a rs.length c] ∧ rowRd m' a (cellsR rs) ∧ (∀ r ∈ rs, Rep m' r.t ∧ r.t.check = 0) ∧ q = N - rs.length, ⟨N, [], none, 0, by simp, rfl, rfl, .inl rfl, by simp, by simp⟩, ?_⟩
  rintro a1 n1 c1 z1 a2 n2 c2 m2 q hm2 ⟨rs, a', c', hk, hxs, htv, hrow, hrs, hq⟩
  simp only [List.cons.injEq, Value.slice.injEq, Value.int.injEq, true_and, and_true] at hxs htv
  obtain ⟨⟨rfl, rfl, rfl⟩, rfl⟩ := hxs
  obtain ⟨rfl, rfl, rfl⟩ := htv
  have h02 := Mem.le_trans hm1 hm2
  refine br_intro (fun hlt => ?_) (fun hge => ?_)
  · have hlt' : rs.length < N := by have := of_decide_eq_true hlt; omega
    obtain ⟨l, hl⟩ := at_some (l := L) (k := rs.length) (by omega)
    obtain ⟨bl, ol, xa, xc, hpa, hv, hsm, hlc⟩ := hL.at' _ l hl
    have hw : IntKind.i64.wrap ((rs.length : Int) + 1) = ((rs.length + 1 : Nat) : Int) := by rw [wrap64 (by omega) (by omega)]; rfl
    simp only [hw, Int.toNat_natCast, Nat.mul_one]
    refine ⟨bl, ol, hpa, ⟨by omega, by omega⟩, .slice xa l.length xc, h02 _ _ _ hv, call_any (cx_Made l xa xc m2 (hsm.mono h02) hlc) tree_fits (tree_k fun t m3 hm3 hr ht bx => br_intro (fun hA' => ?_) (fun hA' => ?_))⟩
    · obtain ⟨x, hx⟩ := at_some (l := As) (k := rs.length) (by have := of_decide_eq_true hA'; omega)
      obtain ⟨ba, oa, haa, hvx⟩ := byt_at hA hx
      refine ⟨ba, oa, haa, ⟨by omega, by have := of_decide_eq_true hA'; omega⟩, .int .u8 x, hm3 _ _ _ (h02 _ _ _ hvx), chk_intro rfl ⟨by omega, ba, oa, haa, ⟨by omega, by have := of_decide_eq_true hA'; omega⟩, .int .u8 x, hm3 _ _ _ (h02 _ _ _ hvx), chk_intro rfl ⟨by omega, fun b4 hf4 => ?_⟩⟩⟩
      -- push
      have hle4 := Mem.le_trans hm3 (Mem.le_add hf4 (Rg.cs (⟨Int.tmod (x : Int) 5 == 1, Int.tmod (x : Int) 7 == 1, t⟩ : Rg)))
      refine ⟨.inl trivial, cellsR rs, Rg.cs (⟨Int.tmod (x : Int) 5 == 1, Int.tmod (x : Int) 7 == 1, t⟩ : Rg), cellsR_len _, rfl, hrow.mono hle4, .inr ⟨b4, 0, rfl, fun j v hj => by rw [Nat.zero_add, Mem.add_same]; exact hj⟩, by have := oneR [(⟨Int.tmod (x : Int) 5 == 1, Int.tmod (x : Int) 7 == 1, t⟩ : Rg)]; simpa [cellsR] using this, by omega, by omega, fun a5 c5 m5 hm5 hrow5 => ⟨N - (rs.length + 1), by omega, rs ++ [(⟨Int.tmod (x : Int) 5 == 1, Int.tmod (x : Int) 7 == 1, t⟩ : Rg)], a5, c5, by simp; omega, ?_, ?_, ?_, ?_, by simp⟩⟩
      · rw [List.length_append]; rfl
      · rw [List.length_append]; rfl
      · rw [cellsR_snoc]; exact hrow5
      · intro y hy
        rcases List.mem_append.1 hy with hy | hy
        · exact ⟨(hrs y hy).1.mono (Mem.le_trans hle4 hm5), (hrs y hy).2⟩
        · simp at hy; subst hy; exact ⟨hr.mono (Mem.le_trans (Mem.le_add hf4 _) hm5), ht⟩
    · intro b4 hf4
      -- push
      have hle4 := Mem.le_trans hm3 (Mem.le_add hf4 (Rg.cs (⟨false, false, t⟩ : Rg)))
      refine ⟨.inl trivial, cellsR rs, Rg.cs (⟨false, false, t⟩ : Rg), cellsR_len _, rfl, hrow.mono hle4, .inr ⟨b4, 0, rfl, fun j v hj => by rw [Nat.zero_add, Mem.add_same]; exact hj⟩, by have := oneR [(⟨false, false, t⟩ : Rg)]; simpa [cellsR] using this, by omega, by omega, fun a5 c5 m5 hm5 hrow5 => ⟨N - (rs.length + 1), by omega, rs ++ [(⟨false, false, t⟩ : Rg)], a5, c5, by simp; omega, ?_, ?_, ?_, ?_, by simp⟩⟩
      · rw [List.length_append]; rfl
      · rw [List.length_append]; rfl
      · rw [cellsR_snoc]; exact hrow5
      · intro y hy
        rcases List.mem_append.1 hy with hy | hy
        · exact ⟨(hrs y hy).1.mono (Mem.le_trans hle4 hm5), (hrs y hy).2⟩
        · simp at hy; subst hy; exact ⟨hr.mono (Mem.le_trans (Mem.le_add hf4 _) hm5), ht⟩
  · intro b
    have hrl : rs.length ≤ 5 := by omega
    have hreps : ∀ r ∈ rs, Rep m2 r.t := fun r hr => (hrs r hr).1
    have hgood : ∀ r ∈ rs, r.t.check = 0 := fun r hr => (hrs r hr).2
    have hR2 := rgs_row hrow (by omega) hreps
    refine ⟨fun xs css tvs m' q => ∃ k : Nat, k ≤ rs.length ∧ xs = [.bool (firstS (rs.take k) S (S.length + 1) 0).isSome, .int .i64 k] ∧ css = [hitC (firstS (rs.take k) S (S.length + 1) 0)] ∧ q = rs.length - k, ⟨rs.length, 0, by omega, ?_, ?_, rfl⟩, ?_⟩
    · rw [List.take_zero, firstS_nil]; rfl
    · rw [List.take_zero, firstS_nil]; rfl
    rintro fd z2 cs m3 q3 hm3 ⟨k, hk3, hxs3, hcs3, hq3⟩
    simp only [List.cons.injEq, Value.bool.injEq, Value.int.injEq, true_and, and_true] at hxs3 hcs3
    obtain ⟨rfl, rfl⟩ := hxs3
    subst hcs3
    have h03 := Mem.le_trans h02 hm3
    refine br_intro (fun hlt3 => ?_) (fun hge3 => ?_)
    · have hlt4 : k < rs.length := by have := of_decide_eq_true hlt3; omega
      obtain ⟨r, hrk⟩ := at_some hlt4
      obtain ⟨⟨bb, oo, haa, hrd⟩, hrp⟩ := Rgs.get (hR2.mono hm3) hrk
      have hrg := hgood r (List.mem_of_getElem? hrk)
      have hw : IntKind.i64.wrap ((k : Int) + 1) = ((k + 1 : Nat) : Int) := by rw [wrap64 (by omega) (by omega)]; rfl
      simp only [hw, Int.toNat_natCast]
      refine ⟨bb, oo, haa, ⟨by omega, by omega⟩, _, _, _, _, _, _, _, _, _, _, hrd, fun b3 => chk_intro rfl fun b4 hf4 => ?_⟩
      have hR4 : Rgs (m3.add b4 (Rg.cs r)) (some ⟨b4, 0, none⟩) [r] := rgs_of (fun j v hj => by rw [Nat.zero_add, Mem.add_same]; exact hj) (by simp) (by intro y hy; simp at hy; subst hy; exact hrp.mono (Mem.le_add hf4 _))
      refine call_any (cx_First_ok [r] (some ⟨b4, 0, none⟩) 1 sa S (sc - 0) (m3.add b4 (Rg.cs r)) hR4 (by intro y hy; simp at hy; subst hy; exact hrg) (by simp) (by omega) (hs'.mono (Mem.le_trans h03 (Mem.le_add hf4 _)))) (fun v _ _ e => by rw [e]; cases firstS [r] S (S.length + 1) 0 <;> rfl) ?_
      have hstep := firstS_snoc (rs.take k) r S (S.length + 1) 0
      rw [← take_at hrk, List.length_take, Nat.min_eq_left (by omega)] at hstep
      generalize firstS (rs.take k) S (S.length + 1) 0 = acc at *
      cases ho : firstS [r] S (S.length + 1) 0 with
      | none =>
        rw [ho] at hstep
        intro u1 u2 u3 bo er m5 hm5 hv5 b6
        have hv5' := (Value.tuple.injEq _ _).mp hv5
        simp [hitC] at hv5'
        obtain ⟨⟨rfl, rfl, rfl⟩, rfl, rfl⟩ := hv5'
        refine ⟨false, br_f rfl (br_t rfl ⟨true, eq_hit _ _ _ _ _ _, br_f rfl ⟨by trivial, by trivial, rfl⟩⟩), br_f rfl ⟨false, br_f rfl ⟨by trivial, by trivial, rfl⟩, br_f rfl ⟨by trivial, by trivial, rs.length - (k + 1), by omega, k + 1, by omega, ?_, ?_, rfl⟩⟩⟩
        · rw [hstep]; rfl
        · rw [hstep]; rfl
      | some p =>
        obtain ⟨k0, f, to⟩ := p
        obtain rfl := firstS_one ho
        rw [ho] at hstep
        intro u1 u2 u3 bo er m5 hm5 hv5 b6
        have hv5' := (Value.tuple.injEq _ _).mp hv5
        simp [hitC] at hv5'
        obtain ⟨⟨rfl, rfl, rfl⟩, rfl, rfl⟩ := hv5'
        refine ⟨false, br_f rfl (br_f rfl ⟨by trivial, by trivial, rfl⟩), br_f rfl ?_⟩
        cases acc with
        | none =>
          refine ⟨true, br_t rfl (br_t rfl ⟨by trivial, by trivial, rfl⟩), br_t rfl ⟨by trivial, by trivial, rs.length - (k + 1), by omega, k + 1, by omega, ?_, ?_, rfl⟩⟩
          · rw [hstep]; rfl
          · rw [hstep]; rfl
        | some p =>
          obtain ⟨k', f', t'⟩ := p
          refine ⟨decide (to < t'), br_t rfl (br_f rfl (look_intro (v := .int .i64 (t' : Nat)) rfl (chk_intro rfl ⟨by trivial, by trivial, one_bool ?_⟩))), br_intro (fun hb => ⟨by trivial, by trivial, rs.length - (k + 1), by omega, k + 1, by omega, ?_, ?_, rfl⟩) (fun hb => ⟨by trivial, by trivial, rs.length - (k + 1), by omega, k + 1, by omega, ?_, ?_, rfl⟩)⟩
          · simp [RowKit.intOf]
          · rw [hstep]; simp only [better]; rw [if_pos (of_decide_eq_true hb)]; rfl
          · rw [hstep]; simp only [better]; rw [if_pos (of_decide_eq_true hb)]; rfl
          · rw [hstep]; simp only [better]; rw [if_neg (of_decide_eq_false hb)]
          · rw [hstep]; simp only [better]; rw [if_neg (of_decide_eq_false hb)]
    · have hkk : k = rs.length := by have := of_decide_eq_false hge3; omega
      subst hkk
      rw [List.take_length]
      have hR3 := hR2.mono hm3
      have hS3 := hs'.mono h03
      generalize hF : firstS rs S (S.length + 1) 0 = F
      have hc1 := cx_First_ok rs a2 c2 sa S (sc - 0) m3 hR3 hgood (by omega) (by omega) hS3
      rw [hF] at hc1
      refine call_any hc1 (fun v _ _ e => by rw [e]; cases F <;> rfl) ?_
      intro u1 u2 u3 bo er m5 hm5 hv5 b6
      have hH : ∃ x y z, hitC F = [.int .i64 x, .int .i64 y, .int .i64 z] := by cases F <;> exact ⟨_, _, _, rfl⟩
      obtain ⟨h1, h2, h3, hH⟩ := hH
      rw [hH] at hv5 ⊢
      simp only [Value.tuple.injEq, Value.agg.injEq, Array.mk.injEq, List.cons.injEq, Value.bool.injEq, Value.int.injEq, true_and, and_true] at hv5
      obtain ⟨⟨rfl, rfl, rfl⟩, rfl, rfl⟩ := hv5
      refine ⟨false, br_f rfl ⟨true, by have := eq_hit u1 u2 u3 u1 u2 u3; simpa using this, br_f rfl ⟨by trivial, by trivial, by simp⟩⟩, br_f rfl fun b7 hf7 => ?_⟩
      have hpart : Lies (m5.add b7 [.slice a2 rs.length c2, .slice a2 rs.length c2]) (some ⟨b7, 0, none⟩) 10 [⟨a2, rs.length, c2, cellsR rs⟩, ⟨a2, rs.length, c2, cellsR rs⟩] := by
        have hl5 : m2.le (m5.add b7 [.slice a2 rs.length c2, .slice a2 rs.length c2]) := Mem.le_trans hm3 (Mem.le_trans hm5 (Mem.le_add hf7 _))
        refine ⟨fun i q hi => ⟨b7, 0, rfl, ?_⟩, fun q hq => ?_⟩
        · rw [Nat.zero_add, Mem.add_same]
          match i, hi with
          | 0, hi => simp at hi; subst hi; rfl
          | 1, hi => simp at hi; subst hi; rfl
        · simp at hq
          subst hq
          exact ⟨hrow.mono hl5, cellsR_len _, oneR _⟩
      refine call_any (cx_concat_rg [⟨a2, rs.length, c2, cellsR rs⟩, ⟨a2, rs.length, c2, cellsR rs⟩] (some ⟨b7, 0, none⟩) 2 (m5.add b7 [.slice a2 rs.length c2, .slice a2 rs.length c2]) hpart (by simp [sumN]; omega) (by simp)) (fun v _ _ ⟨a, c, e, _⟩ => by rw [e]; rfl) ?_
      rintro a9 n9 c9 m6 hm6 ⟨a9', c9', hv9, hrow9⟩
      have hX : allX [⟨a2, rs.length, c2, cellsR rs⟩, ⟨a2, rs.length, c2, cellsR rs⟩] = cellsR (rs ++ rs) := by simp [allX, cellsR]
      have hn9 : sumN [⟨a2, rs.length, c2, cellsR rs⟩, ⟨a2, rs.length, c2, cellsR rs⟩] = (rs ++ rs).length := by simp [sumN]
      rw [hX] at hrow9
      rw [hn9] at hv9
      simp only [Value.slice.injEq] at hv9
      obtain ⟨rfl, rfl, rfl⟩ := hv9
      have h36 : m3.le m6 := Mem.le_trans hm5 (Mem.le_trans (Mem.le_add hf7 _) hm6)
      have hR6 := rgs_row hrow9 (by simp; omega) (fun r hr => (hreps r (by simpa using hr)).mono (Mem.le_trans hm3 h36))
      have hc2 := cx_First_ok (rs ++ rs) a9 c9 sa S (sc - 0) m6 hR6 (fun r hr => hgood r (by simpa using hr)) (by simp; omega) (by omega) (hS3.mono h36)
      rw [firstS_twice, hF, hH] at hc2
      refine call_any hc2 (fun v _ _ e => by rw [e]; rfl) ?_
      intro v1 v2 v3 bo2 er2 m7 hm7 hv7
      simp only [Value.tuple.injEq, Value.agg.injEq, Array.mk.injEq, List.cons.injEq, Value.bool.injEq, Value.int.injEq, true_and, and_true] at hv7
      obtain ⟨⟨rfl, rfl, rfl⟩, rfl, rfl⟩ := hv7
      intro b8
      have hwN : IntKind.i64.wrap ((S.length : Int) + 1) = ((S.length + 1 : Nat) : Int) := by rw [wrap64 (by omega) (by omega)]; rfl
      have hwa : IntKind.i64.wrap (at' : Int) = (at' : Int) := wrap64 (by omega) (by omega)
      have hmod : Int.tmod (at' : Int) ((S.length + 1 : Nat) : Int) = ((at' % (S.length + 1) : Nat) : Int) := rfl
      have hnn : at' % (S.length + 1) < S.length + 1 := Nat.mod_lt _ (by omega)
      simp only [hwN, hwa, hmod]
      generalize at' % (S.length + 1) = nn at *
      refine ⟨by omega, ?_⟩
      have hc3 := cx_Look_ok rs a2 c2 sa S (sc - 0) nn m7 (hR3.mono (Mem.le_trans h36 hm7)) hgood (by omega) (by omega) (by omega) (hS3.mono (Mem.le_trans h36 hm7))
      have hend : ∀ m8, m7.le m8 → m.le m8 := fun m8 h => Mem.le_trans h03 (Mem.le_trans h36 (Mem.le_trans hm7 h))
      cases hlk : lookS S nn rs 0 with
      | none =>
        rw [hlk] at hc3
        refine call_any hc3 (fun v _ _ e => by rw [e]; rfl) ?_
        intro w1 w2 w3 bo3 er3 m8 hm8 hv8
        simp only [lookV, List.cons_append, List.nil_append, Value.tuple.injEq, Value.agg.injEq, Array.mk.injEq, List.cons.injEq, Value.bool.injEq, Value.int.injEq, true_and, and_true] at hv8
        obtain ⟨⟨rfl, rfl, rfl⟩, rfl, rfl⟩ := hv8
        intro b9
        refine ⟨false, br_f (by decide) ⟨true, by have := eq_hit v1 v2 v3 v1 v2 v3; simpa using this, br_f rfl (br_f (by simp) ?_)⟩, br_f rfl ⟨true, br_intro (fun _ => ⟨by trivial, by trivial, rfl⟩) (fun _ => ⟨by trivial, by trivial, rfl⟩), ret_pure (hend m8 hm8) rfl⟩⟩
        cases F with
        | none => exact br_f rfl (br_f rfl ⟨by trivial, by trivial, rfl⟩)
        | some p =>
          obtain ⟨k, f, to⟩ := p
          simp only [hitC, List.cons.injEq, Value.int.injEq, true_and, and_true] at hH
          obtain ⟨rfl, rfl, rfl⟩ := hH
          have hsp := firstS_some hF
          refine br_t rfl (look_intro rfl (chk_intro rfl (br_intro (fun he => ?_) (fun he => br_f rfl ⟨by trivial, by trivial, rfl⟩))))
          have : nn = to := by simp [RowKit.intOf] at he; omega
          subst this
          rw [hlk] at hsp
          exact absurd hsp.2.2 (by simp)
      | some pr =>
        obtain ⟨k2, i2⟩ := pr
        rw [hlk] at hc3
        refine call_any hc3 (fun v _ _ e => by rw [e]; rfl) ?_
        intro w1 w2 w3 bo3 er3 m8 hm8 hv8
        simp only [lookV, List.cons_append, List.nil_append, Value.tuple.injEq, Value.agg.injEq, Array.mk.injEq, List.cons.injEq, Value.bool.injEq, Value.int.injEq, true_and, and_true] at hv8
        obtain ⟨⟨rfl, rfl, rfl⟩, rfl, rfl⟩ := hv8
        obtain ⟨k, f, to, hF', hto⟩ := firstS_le (l := rs) (s := S) (c := S.length + 1) (n := 0) (m := nn) (by omega) (by omega) (by rw [hlk]; simp)
        rw [hF] at hF'
        subst hF'
        simp only [hitC, List.cons.injEq, Value.int.injEq, true_and, and_true] at hH
        obtain ⟨rfl, rfl, rfl⟩ := hH
        have hsp := firstS_some hF
        intro b9
        have hlast : br (!((nn : Int) == (nn : Int))) True True := br_f (by simp) trivial
        refine ⟨false, br_f (by decide) ⟨true, by have := eq_hit (k : Int) (f : Int) (to : Int) (k : Int) (f : Int) (to : Int); simpa using this, br_f rfl (br_f (by simp) (br_t rfl (look_intro rfl (chk_intro rfl (br_intro (fun he => ⟨true, ?_, br_f rfl (br_f rfl (br_t rfl (br_f rfl (look_intro rfl (chk_intro rfl (br_f (by simp [RowKit.intOf]; omega) ⟨by trivial, by trivial, one_bool (by simp)⟩))))))⟩) (fun he => br_t rfl (br_f rfl (look_intro rfl (chk_intro rfl (br_f (by simp [RowKit.intOf]; omega) ⟨by trivial, by trivial, one_bool (by simp)⟩)))))))))) ⟩, br_f rfl ⟨true, br_t rfl ⟨by trivial, by trivial, rfl⟩, ret_pure (hend m8 hm8) rfl⟩⟩
        have : nn = to := by simp [RowKit.intOf] at he; omega
        subst this
        rw [hlk] at hsp
        simp at hsp
        obtain ⟨_, rfl, rfl⟩ := hsp
        have := eq_hit (k2 : Int) (i2 : Int) (nn : Int) (k2 : Int) (i2 : Int) (nn : Int)
        simpa using this
end Go.Proofs.Ythiefodednaikaa

