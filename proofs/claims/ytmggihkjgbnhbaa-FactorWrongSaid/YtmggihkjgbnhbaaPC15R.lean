/- Part of the proof: conditions and contracts of functions of this program. No condition of its own. -/
import Derived.Test.YtmggihkjgbnhbaaPC15U
import Derived.Test.YtmggihkjgbnhbaaPC15W
import Derived.Test.YtmggihkjgbnhbaaPVLH
import Derived.Test.YtmggihkjgbnhbaaMr
/- Contract: FactorWrong. -/
set_option linter.unusedVariables false
set_option linter.unusedSimpArgs false
set_option linter.unusedSectionVars false
namespace Go.Proofs.Ytmggihkjgbnhbaa
open Go Go.Eng Go.Rx Go.Proofs Go.RowKit
set_option maxRecDepth 100000

/-- What is no cut of a tree. -/
structure Q4 where
  a : Int
  f : Int
  t : Int
  n : Int
def q4cells (c : Q4) : List Value := [.int .i64 c.a, .int .i64 c.f, .int .i64 c.t, .int .i64 c.n]
def qsCells (L : List Q4) : List Value := (L.map q4cells).flatten
theorem qsCells_len (L : List Q4) : (qsCells L).length = L.length * 4 := by
  induction L with
  | nil => rfl
  | cons c L ih => simp [qsCells, q4cells] at ih ⊢; omega
theorem qsCells_append (l r : List Q4) : qsCells (l ++ r) = qsCells l ++ qsCells r := by simp [qsCells]
theorem q4_one (c : Q4) : ∀ u ∈ q4cells c, u.oneCell' = true := by
  intro u hu
  simp only [q4cells, List.mem_cons, List.not_mem_nil, or_false] at hu
  rcases hu with rfl | rfl | rfl | rfl <;> rfl
theorem row_getQ {m : Mem} {a : Option Addr} {ts : List Q4} (h : rowRd m a (qsCells ts)) {i : Nat} {t : Q4} (hi : ts[i]? = some t) : ∃ b o, a = some ⟨b, o, none⟩ ∧ m.reads b (o + i * 4) (q4cells t) := by
  have hlt := (List.getElem?_eq_some_iff.1 hi).1
  rcases h with h | ⟨b, o, ha, h⟩
  · have hl : (qsCells ts).length = 0 := by rw [h]; rfl
    rw [qsCells_len] at hl
    omega
  · refine ⟨b, o, ha, fun j v hj => ?_⟩
    rw [Nat.add_assoc]
    refine h (i * 4 + j) v ?_
    have e : ts = ts.take i ++ ([t] ++ ts.drop (i + 1)) := by
      have h2 := List.drop_eq_getElem_cons hlt
      rw [(List.getElem?_eq_some_iff.1 hi).2] at h2
      rw [List.singleton_append, ← h2, List.take_append_drop]
    have hj4 := (List.getElem?_eq_some_iff.1 hj).1
    rw [e, qsCells_append, List.getElem?_append_right (by rw [qsCells_len, List.length_take, Nat.min_eq_left (by omega)]; omega), qsCells_len, List.length_take, Nat.min_eq_left (by omega), show i * 4 + j - i * 4 = j by omega]
    rw [qsCells_append, show qsCells [t] = q4cells t by simp [qsCells], List.getElem?_append_left hj4]; exact hj
def NoCut (t : T) (c : Q4) : Prop := ∀ k ∈ t.cuts, ¬ (((k.a : Nat) : Int) = c.a ∧ ((k.f : Nat) : Int) = c.f ∧ ((k.t : Nat) : Int) = c.t ∧ ((k.n : Nat) : Int) = c.n)
theorem pairwise_lt {α : Type} {R : α → α → Prop} : ∀ {l : List α}, List.Pairwise R l → ∀ a ∈ l, ∀ b ∈ l, a = b ∨ R a b ∨ R b a
  | [], _, a, ha, _, _ => by simp at ha
  | x :: l, h, a, ha, b, hb => by
    rw [List.pairwise_cons] at h
    rcases List.mem_cons.1 ha with rfl | ha' <;> rcases List.mem_cons.1 hb with rfl | hb'
    · exact .inl rfl
    · exact .inr (.inl (h.1 b hb'))
    · exact .inr (.inr (h.1 a ha'))
    · exact pairwise_lt h.2 a ha' b hb'
theorem longer_no {t : T} {k : C4} (hk : k ∈ t.cuts) : NoCut t ⟨(k.a : Nat), (k.f : Nat), (k.t : Nat), (k.n : Int) + 1⟩ := by
  rintro k' hk' ⟨h1, h2, h3, h4⟩
  dsimp only at h1 h2 h3 h4
  rcases pairwise_lt (cuts_sorted t) k hk k' hk' with rfl | h | h
  · omega
  · unfold LtC at h; omega
  · unfold LtC at h; omega
theorem bd_no {t : T} (hz : t.nodes.length ≤ 60) {c : Q4} (h : c.a < 0 ∨ 60 ≤ c.a ∨ c.f < 0 ∨ c.t < c.f + 2 ∨ 60 ≤ c.t ∨ c.n < 1 ∨ 60 ≤ c.n) : NoCut t c := by
  rintro k hk ⟨h1, h2, h3, h4⟩
  have := cuts_bd hk
  omega
def odd8 (n : Int) : List Q4 := [⟨0, 0, 0, 0⟩, ⟨if 60 > n then 60 else n, 0, 2, 1⟩, ⟨if -1 < n then -1 else n, 0, 2, 1⟩, ⟨0, 0, 1, 1⟩, ⟨0, if -1 < n then -1 else n, 2, 1⟩, ⟨0, 0, if 61 > n then 61 else n, 1⟩, ⟨0, 0, 2, if 0 < n then 0 else n⟩, ⟨0, 0, 2, if 61 > n then 61 else n⟩]
theorem odd8_no {t : T} (hz : t.nodes.length ≤ 60) (n : Int) : ∀ c ∈ odd8 n, NoCut t c := by
  intro c hc
  simp only [odd8, List.mem_cons, List.not_mem_nil, or_false] at hc
  rcases hc with rfl | rfl | rfl | rfl | rfl | rfl | rfl | rfl <;> refine bd_no hz ?_ <;> dsimp only <;> (repeat' split) <;> omega
theorem bad_two {t : T} {e : Int} (h : e = 2) : (e == 2) = true := by rw [h]; rfl
/-- The four trees that are not right. -/
theorem bads (way : Nat) (t : T) (m : Mem) (b b3 : Nat) (la : Option Addr) (hr : Rep m t) (hc : t.caps) (hb : m.reads b 0 t.cs) (hL : RepL m la (List.replicate 120 (letterT 97))) (hz : t.nodes.length ≤ 60) :
    ∃ x : T, List.take 8 (List.drop (Int.toNat (Int.tmod (way : Int) 4) * 8) (X0_law15_FactorWrong la 120 120 b)) = x.cs ∧ Rep m x ∧ T.rgt x = false ∧ x.caps ∧ x.nodes.length ≤ 200 := by
  have hk : Int.tmod (way : Int) 4 = ((way % 4 : Nat) : Int) := by
    rw [Int.tmod_eq_emod_of_nonneg (by omega)]; omega
  rw [hk, Int.toNat_natCast]
  have h4 : way % 4 < 4 := by omega
  generalize way % 4 = k at h4
  have hno : ∀ {x : T}, x.right = false → T.rgt x = false := fun {x} h => by
    cases hh : T.rgt x with
    | false => rfl
    | true => rw [(right_of_good (rgt_iff.1 hh).1).1] at h; cases h
  rcases k with _ | _ | _ | _ | k
  · exact ⟨T0, rfl, rep_T0 _, by decide +kernel, caps_T0, by decide⟩
  · refine ⟨.node 4 0 0 0 0 0 0 (some ⟨b, 0, none⟩) 1 [t], rfl, ?_, hno rfl, caps_node (by simp) (by simpa using hc), by simp [T.nodes, nodesL]; omega⟩
    exact Rep_mk (by simp [T.subs]) (.inr ⟨b, 0, rfl, by simp only [T.subs, RepAt]; exact ⟨hb, hr, trivial⟩⟩) (by constructor <;> simp [T.k, T.s0, T.s1, T.s2, T.s3, T.mn, T.mx])
  · have hl : ∀ k : Nat, (nodesL (List.replicate k (letterT 97))).length = k := by
      intro k
      induction k with
      | zero => rfl
      | succ k ih => rw [List.replicate_succ, nodesL, List.length_append, ih]; simp [letterT, T.nodes, nodesL]; omega
    refine ⟨.node 3 0 0 0 0 0 0 la 120 (List.replicate 120 (letterT 97)), by simp only [T.cs, T.sl, T.subs, T.a, T.c, List.length_replicate]; rfl, ?_, ?_, caps_node (by simp) (fun x hx => by rw [List.eq_of_mem_replicate hx]; exact caps_node (by simp) (by simp)), by simp only [T.nodes, List.length_cons, hl]; omega⟩
    · exact Rep_mk (by simp [T.subs]) hL.2 (by constructor <;> simp [T.k, T.s0, T.s1, T.s2, T.s3, T.mn, T.mx])
    · cases hh : T.rgt (.node 3 0 0 0 0 0 0 la 120 (List.replicate 120 (letterT 97))) with
      | false => rfl
      | true =>
        have h2 := (rgt_iff.1 hh).2
        rw [nodes_eq, List.length_cons, show (T.node 3 0 0 0 0 0 0 la 120 (List.replicate 120 (letterT 97))).subs = List.replicate 120 (letterT 97) from rfl, hl] at h2
        omega
  · exact ⟨.node 2 0 0 0 0 0 0 none 0 [], rfl, Rep_mk (by simp [T.subs]) (.inl rfl) (by constructor <;> simp [T.k, T.s0, T.s1, T.s2, T.s3, T.mn, T.mx]), by decide +kernel, caps_node (by simp) (by simp), by decide⟩
  · omega
theorem q4_cs (c : Q4) : (.agg #[.int .i64 c.a, .int .i64 c.f, .int .i64 c.t, .int .i64 c.n] : Value) = .agg (q4cells c).toArray := rfl
set_option maxHeartbeats 1600000 in
theorem cx_FactorWrong (l : List Nat) (a : Option Addr) (c : Nat) (way : Nat) (n : Int) (hw : way < 256) (hn : -9223372036854775808 ≤ n ∧ n ≤ 9223372036854775807) (m : Mem) (hl : Byt m a l) (hc : l.length ≤ c) : CX Try.prog 7 #[.slice a l.length c, .int .u8 (way : Nat), .int .i64 n] m [] (Ret (.bool true)) := by
  apply cx_law15_FactorWrong
  unfold VC_law15_FactorWrong
  refine call_bool (cx_awake15 m) fun m1 hm1 => br_f rfl ?_
  refine call_any (cx_law_made l a c m1 (hl.mono hm1) hc) tree_fits (tree_k fun t m2 hm2 hr ho => ?_)
  intro b
  refine call_any (cx_Byte 97 (by omega) m2) tree_fits (tree_k fun u m3 hm3 hru hu => ?_)
  subst hu
  intro b1 hf1
  refine call_any (cx_Repeat (letterT 97) b1 _ (hru.mono (Mem.le_add hf1 _)) (fun j v hj => by rw [Nat.zero_add, Mem.add_same]; exact hj)) (fun v _ _ ⟨a, e, _⟩ => by rw [e]; rfl) ?_
  rintro la ln lc m4 hm4 ⟨la', hv, hL⟩
  cases hv
  intro b2 hf2 b3 hf3
  have hle2 := Mem.le_add hf2 t.cs
  have hle3 := Mem.le_add hf3 (X0_law15_FactorWrong la 120 120 b2)
  have hm24 : m2.le m4 := Mem.le_trans hm3 (Mem.le_trans (Mem.le_add hf1 _) hm4)
  have hm05 := Mem.le_trans hm24 (Mem.le_trans hle2 hle3)
  obtain ⟨x, hcs, hrx, hng, hcx, hxz⟩ := bads way t _ b2 b3 la (hr.mono hm05) ho.caps ((fun j v hj => hle3 _ _ _ (by rw [Nat.zero_add, Mem.add_same]; exact hj) : ((m4.add b2 t.cs).add b3 (X0_law15_FactorWrong la 120 120 b2)).reads b2 0 t.cs)) (hL.mono (Mem.le_trans hle2 hle3)) (fits_iff ho.fits).2.2
  have hk : Int.tmod (way : Int) 4 = ((way % 4 : Nat) : Int) := by
    rw [Int.tmod_eq_emod_of_nonneg (by omega)]; omega
  refine ⟨by omega, ⟨by rw [hk]; omega, by rw [hk]; omega⟩, chk_intro (by rw [hk, Int.toNat_natCast]; exact Nat.ble_eq_true_of_le (by omega)) fun b4 => ?_⟩
  rw [hcs]
  have hno : ∀ {α : Prop}, ¬ (T.rgt x = true ∧ α) := fun h => by rw [hng] at h; cases h.1
  refine chk_intro rfl (call_any ((cx_Factor x _ hrx hcx).mono fun v m' css _ h => by rw [if_neg (by rw [hng]; simp)] at h; exact h) treeE_fits ?_)
  rintro f1 f2 f3 f4 f5 f6 f7 fa fn fc e1 m5 hm5 ⟨x', hv, -, -, -⟩ b5
  obtain ⟨-, rfl⟩ : _ ∧ e1 = 2 := by simpa using hv
  refine call_any (cx_Steps x _ (hrx.mono hm5) hcx) orE_fits ?_
  rintro sa sn sc e2 m6 hm6 h2
  unfold OrE at h2; rw [if_pos hng] at h2
  obtain rfl : e2 = 2 := by simp only [Value.tuple.injEq, Array.mk.injEq, List.cons.injEq, Value.int.injEq, true_and, and_true] at h2; exact h2.2
  have hrx6 := hrx.mono (Mem.le_trans hm5 hm6)
  refine call_any (cx_Best x _ hrx6 hcx) (fun v _ _ e => by rw [e, if_pos hng]; rfl) ?_
  rintro g1 g2 g3 g4 g5 bb e3 m7 hm7 h3
  rw [if_pos hng] at h3
  obtain rfl : e3 = 2 := by simp only [C4.v, Value.tuple.injEq, Array.mk.injEq, List.cons.injEq, Value.int.injEq, true_and, and_true] at h3; exact h3.2.2.2
  intro b7
  have hrx7 := hrx6.mono hm7
  refine call_any (cx_Cuts x _ hrx7 hcx ?_) orE_fits ?_
  · have := cuts_len (t := x) (n := 200) (by omega)
    omega
  rintro ca cn cc e4 m8 hm8 h4
  unfold OrE at h4; rw [if_pos hng] at h4
  obtain rfl : e4 = 2 := by simp only [Value.tuple.injEq, Array.mk.injEq, List.cons.injEq, Value.int.injEq, true_and, and_true] at h4; exact h4.2
  have hrx8 := hrx7.mono hm8
  refine call_any (cx_Make x 0 0 2 1 _ hrx8 hcx) makeR_fits ?_
  rintro k1 k2 k3 k4 k5 k6 k7 ka kn kc e5 m9 hm9 h5
  unfold MakeR at h5; rw [if_pos hng] at h5
  obtain ⟨x5, hv5, -, -, -⟩ := h5
  obtain ⟨-, rfl⟩ : _ ∧ e5 = 2 := by simpa using hv5
  intro b8
  have hrx9 := hrx8.mono hm9
  refine call_any (cx_Gain x 0 0 2 1 _ hrx9 hcx) gain_fits ?_
  rintro g6 e6 m10 hm10 ⟨g6', e6', hv6, h6⟩
  obtain ⟨rfl, rfl⟩ : g6 = g6' ∧ e6 = e6' := by simpa using hv6
  obtain ⟨-, rfl, rfl⟩ : T.rgt x = false ∧ g6 = 0 ∧ e6 = 2 := by
    rcases h6 with h | h | h
    · exact h
    · exact absurd h hno
    · exact absurd h hno
  have hrx10 := hrx9.mono hm10
  refine call_any (cx_Head x _ hrx10 hcx) setsE_fits ?_
  rintro ha hn' hc' e7 m11 hm11 h7
  unfold SetsE at h7; rw [if_pos hng] at h7
  obtain rfl : e7 = 2 := by simp only [Value.tuple.injEq, Array.mk.injEq, List.cons.injEq, Value.int.injEq, true_and, and_true] at h7; exact h7.2
  intro b9 hf9
  have hm511 : m5.le m11 := Mem.le_trans hm6 (Mem.le_trans hm7 (Mem.le_trans hm8 (Mem.le_trans hm9 (Mem.le_trans hm10 hm11))))
  have hm211 : m2.le m11 := Mem.le_trans hm05 (Mem.le_trans hm5 hm511)
  have hm0 := Mem.le_trans hm1 hm2
  refine ⟨fun xs _ _ m' q => ∃ i : Nat, i ≤ 7 ∧ xs = [.int .i64 i] ∧ q = 7 - i, ⟨_, 0, by omega, rfl, rfl⟩, ?_⟩
  rintro z m12 q hm12 ⟨i, hi, hxs, hq⟩
  obtain rfl : z = i := by simpa using hxs
  have hm212 : m2.le m12 := Mem.le_trans hm211 (Mem.le_trans (Mem.le_add hf9 _) hm12)
  refine br_intro (fun hlt => ?_) (fun hge => ?_)
  · have hlt : i < 7 := by have := of_decide_eq_true hlt; omega
    refine ⟨⟨by omega, by omega⟩, look_intro (v := .int .i64 2) ?_ (chk_intro rfl (br_f rfl ⟨by trivial, 7 - (i + 1), by omega, i + 1, by omega, by rw [wrap64 (by omega) (by omega)]; rfl, rfl⟩))⟩
    rw [Int.toNat_natCast, Nat.mul_one]
    rcases i with _ | _ | _ | _ | _ | _ | _ | i <;> first | rfl | omega
  have hr12 := hr.mono hm212
  have hrg := ok_rgt ho
  have hz := (fits_iff ho.fits).2.2
  have hcl := cuts_len (t := t) (n := 59) hz
  refine call_any (cx_CutsC t m12 hr12 ho.caps (by omega)) ?_ ?_
  · intro v m' css h
    unfold OrC at h
    split at h
    · rw [h]; rfl
    · obtain ⟨_, _, h, _⟩ := h
      rw [h]; rfl
  rintro sa sn sc e8 m13 hm13 h8
  unfold OrC at h8; rw [if_neg (by rw [hrg]; simp)] at h8
  obtain ⟨sa', sc', hv8, hrow, hcap⟩ := h8
  obtain ⟨⟨rfl, rfl, rfl⟩, rfl⟩ : (sa = sa' ∧ sn = t.cuts.length ∧ sc = sc') ∧ e8 = 0 := by simpa using hv8
  refine br_f rfl fun b10 hf10 => ?_
  generalize hN : (if (20 : Int) < (t.cuts.length : Nat) then (20 : Int) else (t.cuts.length : Nat)) = N
  have hN' : 0 ≤ N ∧ N ≤ 20 ∧ N ≤ (t.cuts.length : Nat) := by rw [← hN]; split <;> omega
  obtain ⟨K, rfl⟩ : ∃ K : Nat, N = K := ⟨N.toNat, by omega⟩
  have hr13 := hr12.mono hm13
  refine ⟨⟨by omega, by omega⟩, ?_⟩
  rw [Int.toNat_natCast, Nat.sub_zero]
  refine ⟨fun xs css tvs m' q => ∃ (i : Nat) (L : List Q4) (a' : Option Addr) (c' : Nat), i ≤ K ∧ L.length = 8 + i ∧ xs = [.slice a' L.length c', .int .i64 i] ∧ tvs.length = 1 ∧ (∃ tv, tvs = [tv] ∧ (tv = .slice a' L.length c' ∨ c' < L.length + 1)) ∧ rowRd m' a' (qsCells L) ∧ (∀ k ∈ L, NoCut t k) ∧ q = K - i, ⟨_, 0, odd8 n, _, _, by omega, rfl, rfl, rfl, ⟨_, rfl, .inr (by simp [odd8])⟩, ?_, odd8_no hz n, rfl⟩, ?_⟩
  · exact .inr ⟨b10, 0, rfl, fun j v hj => by rw [Nat.zero_add, Mem.add_same]; exact hj⟩
  rintro a38 n53 c9 z a39 n55 c10 m14 q hm14 ⟨i, L, a', c', hi, hLl, hxs, -, ⟨tv, htv, htok⟩, hrowL, hnc, hq⟩
  obtain ⟨⟨rfl, rfl, rfl⟩, rfl⟩ : (a38 = a' ∧ n53 = L.length ∧ c9 = c') ∧ z = i := by simpa using hxs
  obtain rfl : tv = .slice a39 n55 c10 := by simpa using htv.symm
  have hm1314 : m13.le m14 := Mem.le_trans (Mem.le_add hf10 _) hm14
  refine br_intro (fun hlt => ?_) (fun hge => ?_)
  · have hlt : i < K := by have := of_decide_eq_true hlt; omega
    obtain ⟨k, hk⟩ := at_some (l := t.cuts) (k := i) (by omega)
    obtain ⟨b0, o0, ha0, hrd⟩ := row_getC (hrow.mono hm1314) hk
    have hw : IntKind.i64.wrap ((i : Int) + 1) = ((i + 1 : Nat) : Int) := by rw [wrap64 (by omega) (by omega)]; rfl
    have hkb := cuts_bd (List.mem_of_getElem? hk)
    have hwn : IntKind.i64.wrap ((k.n : Int) + 1) = (k.n : Int) + 1 := by rw [wrap64 (by omega) (by omega)]
    simp only [hw, Int.toNat_natCast]
    refine ⟨b0, o0, ha0, ⟨by omega, by omega⟩, _, _, _, _, hrd, fun b12 => chk_intro rfl fun b13 => chk_intro rfl (chk_intro rfl fun b14 hf14 => ⟨?_, ?_⟩)⟩
    · rcases htok with h | h
      · left; rw [h]
      · right; right; exact h
    refine ⟨qsCells L, q4cells ⟨(k.a : Nat), (k.f : Nat), (k.t : Nat), (k.n : Int) + 1⟩, qsCells_len L, rfl, hrowL.mono (Mem.le_add hf14 _), ?_, q4_one _, by omega, by omega, ?_⟩
    · refine .inr ⟨b14, 0, rfl, fun j v hj => ?_⟩
      rw [Nat.zero_add, Mem.add_same, show intOf (.int .i64 (k.n : Nat)) = (k.n : Int) from rfl, hwn]
      exact hj
    intro a'' c'' m15 hm15 hrow15
    refine ⟨by trivial, K - (i + 1), by omega, i + 1, L ++ [⟨(k.a : Nat), (k.f : Nat), (k.t : Nat), (k.n : Int) + 1⟩], a'', c'', by omega, by simp; omega, by simp, rfl, ⟨_, rfl, .inl (by simp)⟩, ?_, ?_, rfl⟩
    · rw [qsCells_append]; simpa [qsCells] using hrow15
    · intro k' hk'
      rcases List.mem_append.1 hk' with h | h
      · exact hnc k' h
      · rw [List.mem_singleton] at h; subst h
        exact longer_no (List.mem_of_getElem? hk)
  have hr14 := hr13.mono hm1314
  refine ⟨fun xs css tvs m' q => ∃ j : Nat, j ≤ L.length ∧ xs = [.int .i64 j] ∧ q = L.length - j, ⟨_, 0, by omega, rfl, rfl⟩, ?_⟩
  rintro z m15 q hm15 ⟨j, hj, hxs, hq⟩
  obtain rfl : z = j := by simpa using hxs
  refine br_intro (fun hlt => ?_) (fun hge => ret_pure ?_ (by simp [Ret]))
  · have hlt : j < L.length := by have := of_decide_eq_true hlt; omega
    obtain ⟨k, hk⟩ := at_some hlt
    obtain ⟨b0, o0, ha0, hrd⟩ := row_getQ (hrowL.mono hm15) hk
    have hw : IntKind.i64.wrap ((j : Int) + 1) = ((j + 1 : Nat) : Int) := by rw [wrap64 (by omega) (by omega)]; rfl
    have hkn := hnc k (List.mem_of_getElem? hk)
    simp only [hw, Int.toNat_natCast]
    refine ⟨b0, o0, ha0, ⟨by omega, by omega⟩, _, _, _, _, hrd, fun b12 => chk_intro rfl ?_⟩
    have hr15 := hr14.mono hm15
    refine call_any (cx_Make t k.a k.f k.t k.n _ hr15 ho.caps) makeR_fits ?_
    rintro k1 k2 k3 k4 k5 k6 k7 ka kn kc e5 m16 hm16 h5
    unfold MakeR at h5; rw [if_neg (by rw [hrg]; simp)] at h5
    obtain ⟨x5, hv5, -, rfl, -⟩ : TreeE 150 (fun t' => t' = T0) (.tuple #[.agg #[.int .u8 k1, .int .u64 k2, .int .u64 k3, .int .u64 k4, .int .u64 k5, .int .i64 k6, .int .i64 k7, .slice ka kn kc], .int .i64 e5]) m16 [] := by
      rcases h5 with ⟨k', hk', h1, h2, h3, h4, _⟩ | h5
      · exact absurd ⟨h1, h2, h3, h4⟩ (hkn k' hk')
      · exact h5.2
    simp only [T0, T.v, T.k, T.s0, T.s1, T.s2, T.s3, T.mn, T.mx, T.a, T.c, T.subs, List.length_nil, Value.tuple.injEq, Value.agg.injEq, Array.mk.injEq, List.cons.injEq, Value.int.injEq, Value.slice.injEq, true_and, and_true] at hv5
    obtain ⟨⟨rfl, rfl, rfl, rfl, rfl, rfl, rfl, rfl, rfl, rfl⟩, rfl⟩ := hv5
    intro b13
    refine call_any (cx_Gain t k.a k.f k.t k.n _ (hr15.mono hm16) ho.caps) gain_fits ?_
    rintro g6 e6 m17 hm17 ⟨g6', e6', hv6, h6⟩
    obtain ⟨rfl, rfl⟩ : g6 = g6' ∧ e6 = e6' := by simpa using hv6
    obtain ⟨rfl, rfl⟩ : g6 = 0 ∧ e6 = 150 := by
      rcases h6 with h | ⟨_, k', hk', h1, h2, h3, h4, _⟩ | h
      · rw [hrg] at h; cases h.1
      · exact absurd ⟨h1, h2, h3, h4⟩ (hkn k' hk')
      · exact h.2.2
    exact ⟨false, br_f rfl (br_f rfl (br_f rfl (br_f rfl ⟨by trivial, by trivial, rfl⟩))), br_f rfl ⟨by trivial, by trivial, L.length - (j + 1), by omega, j + 1, by omega, rfl, rfl⟩⟩
  · exact Mem.le_trans hm0 (Mem.le_trans hm212 (Mem.le_trans hm13 (Mem.le_trans hm1314 hm15)))
end Go.Proofs.Ytmggihkjgbnhbaa

