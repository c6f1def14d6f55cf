/- Part of the proof: conditions and contracts of functions of this program. No condition of its own. -/
import Derived.Test.YthiefodednaikaaPVE
import Derived.Test.YthiefodednaikaaPC13G
/- The examples of chapter 13. -/
set_option linter.unusedVariables false
set_option linter.unusedSimpArgs false
set_option linter.unusedSectionVars false
namespace Go.Proofs.Ythiefodednaikaa
open Go Go.Eng Go.Rx Go.Proofs Go.RowKit
set_option maxRecDepth 100000

theorem byt_add {m : Mem} {b : Nat} (s : List Nat) (h : ∀ c ∈ s, c < 256) : Byt (m.add b (s.map fun c : Nat => Value.int .u8 c)) (some ⟨b, 0, none⟩) s :=
  ⟨.inr ⟨b, 0, rfl, fun j v hj => by rw [Nat.zero_add, Mem.add_same]; exact hj⟩, h⟩
theorem repL_add {m : Mem} {b : Nat} {l : List T} (hf : m.free b) (hr : ∀ t ∈ l, Rep m t) (hl : l.length ≤ 1000000000000000) : RepL (m.add b (cellsL l)) (some ⟨b, 0, none⟩) l :=
  repL_of (.inr ⟨b, 0, rfl, fun j v hj => by rw [Nat.zero_add, Mem.add_same]; exact hj⟩) (fun t ht => (hr t ht).mono (Mem.le_add hf _)) hl
theorem rgs_of {m : Mem} {b : Nat} {l : List Rg} (h : m.reads b 0 (l.map Rg.cs).flatten) (hl : l.length ≤ 1000000000000000) (hr : ∀ r ∈ l, Rep m r.t) : Rgs m (some ⟨b, 0, none⟩) l := by
  refine ⟨hl, .inr ⟨b, 0, rfl, ?_⟩, hr⟩
  have key : ∀ (l : List Rg) (o : Nat), m.reads b o (l.map Rg.cs).flatten → ∀ i r, l[i]? = some r → m.reads b (o + i * 10) r.cs := by
    intro l
    induction l with
    | nil => intro o _ i r hi; simp at hi
    | cons x l ih =>
      intro o h i r hi
      cases i with
      | zero =>
        simp at hi; subst hi
        intro j v hj
        have hlt := (List.getElem?_eq_some_iff.1 hj).1
        rw [Nat.zero_mul, Nat.add_zero]
        exact h j v (by rw [List.map_cons, List.flatten_cons, List.getElem?_append_left hlt]; exact hj)
      | succ i =>
        rw [show o + (i + 1) * 10 = (o + 10) + i * 10 by omega]
        refine ih (o + 10) (fun j v hj => ?_) i r (by simpa using hi)
        have := h (10 + j) v (by
          rw [List.map_cons, List.flatten_cons, List.getElem?_append_right (by simp [Rg.cs]), show 10 + j - x.cs.length = j by simp [Rg.cs]]; exact hj)
        rw [show o + 10 + j = o + (10 + j) by omega]; exact this
  exact key l 0 h
theorem br_f {b : Bool} {p q : Prop} (h : b = false) (k : q) : br b p q := by subst h; exact k
theorem br_t {b : Bool} {p q : Prop} (h : b = true) (k : p) : br b p q := by subst h; exact k
theorem eq_hit (a b c a' b' c' : Int) : EqIs Try.prog 46 (.agg #[.int .i64 a, .int .i64 b, .int .i64 c]) (.agg #[.int .i64 a', .int .i64 b', .int .i64 c']) (a == a' && b == b' && c == c') := by
  refine ⟨fun w => ?_, fun op ox oy w => eqGuard_free (by kernel_rfl) op ox oy _ _ w⟩
  have u3 := Try.underlying3
  have a3 := Try.isAgg3
  have z3 := Try.sizeOf3
  rw [Op.equal, Op.maxDepth, show (10000 : Nat) = 9999 + 1 from rfl]
  rw [run_equalIn_agg _ _ _ _ _ (by kernel_rfl) (by kernel_rfl)]
  have hf : (Try.prog.fieldsOf 46).toList = [⟨ "Rule", 3, 0, false, "", "", 0⟩, ⟨ "From", 3, 1, false, "", "", 8⟩, ⟨ "To", 3, 2, false, "", "", 16⟩] := by kernel_rfl
  rw [hf]
  go_simp
  by_cases h1 : a = a' <;> by_cases h2 : b = b' <;> by_cases h3 : c = c' <;> simp [h1, h2, h3]
theorem cx_awake (m : Mem) : CX Try.prog 11 #[] m [] (Ret (.bool true)) := by
  apply cx_law13_awake
  unfold VC_law13_awake
  refine call_any (cx_letter 97 (by omega) m) tree_fits (tree_k fun t1 m1 hm1 hr1 ht1 => ?_)
  refine call_any (cx_star t1 m1 hr1) tree_fits (tree_k fun u m2 hm2 hr2 ht2 b b1 hf1 => ?_)
  refine call_any (cx_Ends u (some ⟨b1, 0, none⟩) [98, 97, 97, 98] 4 1 (m2.add b1 _) (hr2.mono (Mem.le_add hf1 _)) (fun _ => byt_add _ (by decide))) ListR_fits ?_
  obtain ⟨ga, gc, rfl⟩ := ht2
  subst ht1
  have e1 : T.wrong (nodeT 5 0 (-1) ga gc [letterT 97]) [98, 97, 97, 98].length 1 = 0 := by kernel_rfl
  have e2 : T.list (nodeT 5 0 (-1) ga gc [letterT 97]) [98, 97, 97, 98] 1 false = [1, 2, 3] := by kernel_rfl
  have e3 : T.wrong (nodeT 5 0 (-1) ga gc [letterT 97]) [98, 97, 97, 98].length 3 = 0 := by kernel_rfl
  have e4 : T.list (nodeT 5 0 (-1) ga gc [letterT 97]) [98, 97, 97, 98] 3 true = [1, 2, 3] := by kernel_rfl
  rw [e1, e2]
  rintro a3 n3 c3 x3 m3 hm3 ⟨a3', c3', hv3, hrow3⟩ b2 hf2
  simp only [Value.tuple.injEq, Array.mk.injEq, List.cons.injEq, Value.slice.injEq, Value.int.injEq, true_and, and_true] at hv3
  obtain ⟨⟨rfl, rfl, rfl⟩, rfl⟩ := hv3
  have hle3 := Mem.le_trans (Mem.le_add hf1 _) hm3
  have hle3' := Mem.le_trans hle3 (Mem.le_add hf2 ([98, 97, 97, 98].map fun c : Nat => Value.int .u8 c))
  refine call_any (cx_Begins _ (some ⟨b2, 0, none⟩) [98, 97, 97, 98] 4 3 (m3.add b2 _) (hr2.mono hle3') (fun _ => byt_add _ (by decide))) ListR_fits ?_
  rw [e3, e4]
  rintro a4 n4 c4 x4 m4 hm4 ⟨a4', c4', hv4, hrow4⟩
  simp only [Value.tuple.injEq, Array.mk.injEq, List.cons.injEq, Value.slice.injEq, Value.int.injEq, true_and, and_true] at hv4
  obtain ⟨⟨rfl, rfl, rfl⟩, rfl⟩ := hv4
  refine call_any (cx_text ⟨#[97, 98]⟩ (by decide) m4) tree_fits (tree_k fun ab m5 hm5 hrab hab b3 b4 hf4 => ?_)
  obtain ⟨xa, xc, rfl⟩ := hab
  have hb97 : (bytesN ⟨#[97, 98]⟩) = [97, 98] := by rfl
  rw [hb97] at hrab ⊢
  generalize habT : nodeT 3 0 0 xa xc (([97, 98] : List Nat).map letterT) = abT at *
  have f1 : Rg.wrong ⟨false, false, abT⟩ [120, 97, 98].length 3 = 0 := by subst habT; kernel_rfl
  have f2 : fromE ⟨false, false, abT⟩ [120, 97, 98] 3 = some 1 := by subst habT; kernel_rfl
  have f3 : Rg.wrong ⟨true, false, abT⟩ [120, 97, 98].length 3 = 0 := by subst habT; kernel_rfl
  have f4 : fromE ⟨true, false, abT⟩ [120, 97, 98] 3 = none := by subst habT; kernel_rfl
  have f5 : Rg.wrong ⟨false, true, abT⟩ [120, 97, 98, 99].length 3 = 0 := by subst habT; kernel_rfl
  have f6 : fromE ⟨false, true, abT⟩ [120, 97, 98, 99] 3 = none := by subst habT; kernel_rfl
  have hle5 := Mem.le_trans hm5 (Mem.le_add hf4 ([120, 97, 98].map fun c : Nat => Value.int .u8 c))
  refine call_any (cx_From ⟨false, false, abT⟩ (some ⟨b4, 0, none⟩) [120, 97, 98] 3 3 (m5.add b4 _) (hrab.mono (Mem.le_add hf4 _)) (fun _ => byt_add _ (by decide))) (fun v _ _ e => by rw [e, f2]; rfl) ?_
  rw [f1, f2]
  intro i5 bb5 e5 m6 hm6 hv6 b6 hf6
  simp only [fromV, List.cons_append, List.nil_append, Value.tuple.injEq, Array.mk.injEq, List.cons.injEq, Value.bool.injEq, Value.int.injEq, true_and, and_true] at hv6
  obtain ⟨rfl, rfl, rfl⟩ := hv6
  refine call_any (cx_Holds ⟨true, false, abT⟩ (some ⟨b6, 0, none⟩) [120, 97, 98] 3 3 (m6.add b6 _) ((hrab.mono (Mem.le_add hf4 _)).mono (Mem.le_trans hm6 (Mem.le_add hf6 _))) (fun _ => byt_add _ (by decide))) (fun v _ _ e => by rw [e]; rfl) ?_
  rw [f3, f4]
  intro bb7 e7 m7 hm7 hv7 b8 hf8
  simp only [Option.isSome_none, Value.tuple.injEq, Array.mk.injEq, List.cons.injEq, Value.bool.injEq, Value.int.injEq, true_and, and_true] at hv7
  obtain ⟨rfl, rfl⟩ := hv7
  have hr7 : Rep m7 abT := (hrab.mono (Mem.le_add hf4 _)).mono (Mem.le_trans hm6 (Mem.le_trans (Mem.le_add hf6 _) hm7))
  refine call_any (cx_Holds ⟨false, true, abT⟩ (some ⟨b8, 0, none⟩) [120, 97, 98, 99] 4 3 (m7.add b8 _) (hr7.mono (Mem.le_add hf8 _)) (fun _ => byt_add _ (by decide))) (fun v _ _ e => by rw [e]; rfl) ?_
  rw [f5, f6]
  intro bb9 e9 m9 hm9 hv9
  simp only [Option.isSome_none, Value.tuple.injEq, Array.mk.injEq, List.cons.injEq, Value.bool.injEq, Value.int.injEq, true_and, and_true] at hv9
  obtain ⟨rfl, rfl⟩ := hv9
  refine br_f rfl ?_
  intro b10 hf10
  have hle35 : m3.le m5 := Mem.le_trans (Mem.le_add hf2 _) (Mem.le_trans hm4 hm5)
  have hle59 : m5.le m9 := Mem.le_trans (Mem.le_add hf4 _) (Mem.le_trans hm6 (Mem.le_trans (Mem.le_add hf6 _) (Mem.le_trans hm7 (Mem.le_trans (Mem.le_add hf8 _) hm9))))
  refine call_bool (cx_EqualInts [1, 2, 3] [1, 2, 3] _ (some ⟨b10, 0, none⟩) _ 3 (m9.add b10 _) (hrow3.mono (Mem.le_trans hle35 (Mem.le_trans hle59 (Mem.le_add hf10 _)))) (.inr ⟨b10, 0, rfl, fun j v hj => by rw [Nat.zero_add, Mem.add_same]; exact hj⟩) (by decide)) fun m10 hm10 => br_f rfl ?_
  intro b12 hf12
  refine call_bool (cx_EqualInts [1, 2, 3] [1, 2, 3] _ (some ⟨b12, 0, none⟩) _ 3 (m10.add b12 _) (hrow4.mono (Mem.le_trans hm5 (Mem.le_trans hle59 (Mem.le_trans (Mem.le_add hf10 _) (Mem.le_trans hm10 (Mem.le_add hf12 _)))))) (.inr ⟨b12, 0, rfl, fun j v hj => by rw [Nat.zero_add, Mem.add_same]; exact hj⟩) (by decide)) fun m11 hm11 => br_f rfl ?_
  refine br_f rfl (br_f rfl (br_f rfl (br_f rfl ?_)))
  refine ⟨fun i _ _ => if i = 0 then TreeR (fun t => ∃ a c, t = nodeT 3 0 0 a c ([98, 99].map letterT)) else TreeR (fun t => t = letterT 98), ?_⟩
  have hxs : (bytesN ⟨#[98, 99]⟩) = [98, 99] := by rfl
  refine ⟨TreeR (fun t => ∃ a c, t = nodeT 3 0 0 a c ([98, 99].map letterT)), rfl, by have := cx_text ⟨#[98, 99]⟩ (by decide) m11; rw [hxs] at this; exact this, tree_fits, tree_k fun bc m12 hm12 hrbc hbc => ?_⟩
  refine ⟨TreeR (fun t => t = letterT 98), rfl, cx_letter 98 (by omega) m12, tree_fits, tree_k fun l1 m13 hm13 hrl1 hl1 b14 hf14 => ?_⟩
  refine ⟨TreeR (fun t => t = letterT 98), rfl, cx_letter 98 (by omega) m13, tree_fits, tree_k fun l2 m14 hm14 hrl2 hl2 b15 hf15 => ?_⟩
  refine ⟨TreeR (fun t => t = letterT 98), rfl, cx_letter 98 (by omega) m14, tree_fits, tree_k fun l3 m15 hm15 hrl3 hl3 b16 hf16 b17 hf17 => ?_⟩
  intro V hV1 hV2 hV3 hV4 hV5 b18 hf18 M hM1 hM2 hM3 hM4 hM5 hM6 hM7 hM8 hM9 hM10
  subst hl1 hl2 hl3
  obtain ⟨ya, yc, rfl⟩ := hbc
  have hab : Rep M abT := (hr7.mono (Mem.le_trans (Mem.le_add hf8 _) hm9)).mono (Mem.le_trans (Mem.le_add hf10 _) (Mem.le_trans hm10 (Mem.le_trans (Mem.le_add hf12 _) (Mem.le_trans hm11 hM1))))
  have R14 : Rgs M (some ⟨b14, 0, none⟩) [⟨false, false, nodeT 3 0 0 ya yc ([98, 99].map letterT)⟩, ⟨false, false, letterT 98⟩] := rgs_of (fun j v hj => by rw [Nat.zero_add]; exact hM4 _ _ _ (by rw [Mem.add_same]; exact hj)) (by simp) (by intro r hr; simp at hr; rcases hr with rfl | rfl; exact hrbc.mono hM2; exact rep_letter _ _)
  have R15 : Rgs M (some ⟨b15, 0, none⟩) [⟨false, true, letterT 98⟩, ⟨false, false, abT⟩] := rgs_of (fun j v hj => by rw [Nat.zero_add]; exact hM6 _ _ _ (by rw [Mem.add_same]; exact hj)) (by simp) (by intro r hr; simp at hr; rcases hr with rfl | rfl; exact rep_letter _ _; exact hab)
  have R16 : Rgs M (some ⟨b16, 0, none⟩) [⟨false, true, letterT 98⟩, ⟨false, false, abT⟩] := rgs_of (fun j v hj => by rw [Nat.zero_add]; exact hM8 _ _ _ (by rw [Mem.add_same]; exact hj)) (by simp) (by intro r hr; simp at hr; rcases hr with rfl | rfl; exact rep_letter _ _; exact hab)
  have R17 : Rgs M (some ⟨b17, 0, none⟩) [⟨false, false, nodeT 5 0 (-1) ga gc [letterT 97]⟩] := rgs_of (fun j v hj => by rw [Nat.zero_add]; exact hM9 _ _ _ (by rw [Mem.add_same]; exact hj)) (by simp) (by intro r hr; simp at hr; subst hr; exact hr2.mono (Mem.le_trans hle3' (Mem.le_trans hm4 (Mem.le_trans hm5 (Mem.le_trans hle59 (Mem.le_trans (Mem.le_add hf10 _) (Mem.le_trans hm10 (Mem.le_trans (Mem.le_add hf12 _) (Mem.le_trans hm11 hM1)))))))))
  refine ⟨fun xs css tvs m' q => ∃ k : Nat, k ≤ 4 ∧ xs = [.int .i64 k] ∧ q = 4 - k, ⟨4, 0, by omega, rfl, rfl⟩, ?_⟩
  rintro z m16 q hm16 ⟨k, hk, hz, hq⟩
  obtain rfl : z = k := by simpa using hz
  refine br_intro (fun hlt => ?_) (fun hge => ?_)
  · have h4 : k = 0 ∨ k = 1 ∨ k = 2 ∨ k = 3 := by have := of_decide_eq_true hlt; omega
    rcases h4 with rfl | rfl | rfl | rfl
    · have g1 : firstE [⟨false, false, nodeT 3 0 0 ya yc ([98, 99].map letterT)⟩, ⟨false, false, letterT 98⟩] [97, 98, 99] = some (1, 1, 2) := by kernel_rfl
      have g2 : rulesW [⟨false, false, nodeT 3 0 0 ya yc ([98, 99].map letterT)⟩, ⟨false, false, letterT 98⟩] [97, 98, 99].length 0 = 0 := by kernel_rfl
      refine ⟨⟨by omega, by omega⟩, chk_intro rfl fun b19 => chk_intro rfl (look_intro rfl (look_intro rfl (chk_intro rfl fun b20 c8 hf20 hc8 => ?_)))⟩
      refine call_any (cx_First [⟨false, false, nodeT 3 0 0 ya yc ([98, 99].map letterT)⟩, ⟨false, false, letterT 98⟩] (some ⟨b14, 0, none⟩) 2 (some ⟨b20, 0, none⟩) [97, 98, 99] c8 (m16.add b20 _) (fun _ => R14.mono (Mem.le_trans hm16 (Mem.le_add hf20 _))) (fun _ => byt_add _ (by decide))) (fun v _ _ e => by rw [e, g1]; rfl) ?_
      rw [g1, g2]
      intro u1 u2 u3 bo er m17 hm17 hv17 b22
      simp only [firstV, List.cons_append, List.nil_append, Value.tuple.injEq, Value.agg.injEq, Array.mk.injEq, List.cons.injEq, Value.bool.injEq, Value.int.injEq, true_and, and_true] at hv17
      obtain ⟨⟨rfl, rfl, rfl⟩, rfl, rfl⟩ := hv17
      refine ⟨false, chk_intro rfl ⟨true, eq_hit _ _ _ _ _ _, br_f rfl (br_f rfl ⟨by trivial, rfl⟩)⟩, br_f rfl ⟨by trivial, 3, by omega, 1, by omega, rfl, rfl⟩⟩
    · have g1 : firstE [⟨false, true, letterT 98⟩, ⟨false, false, abT⟩] [97, 98] = some (0, 1, 2) := by subst habT; kernel_rfl
      have g2 : rulesW [⟨false, true, letterT 98⟩, ⟨false, false, abT⟩] [97, 98].length 0 = 0 := by subst habT; kernel_rfl
      refine ⟨⟨by omega, by omega⟩, chk_intro rfl fun b19 => chk_intro rfl (look_intro rfl (look_intro rfl (chk_intro rfl fun b20 c8 hf20 hc8 => ?_)))⟩
      refine call_any (cx_First [⟨false, true, letterT 98⟩, ⟨false, false, abT⟩] (some ⟨b15, 0, none⟩) 2 (some ⟨b20, 0, none⟩) [97, 98] c8 (m16.add b20 _) (fun _ => R15.mono (Mem.le_trans hm16 (Mem.le_add hf20 _))) (fun _ => byt_add _ (by decide))) (fun v _ _ e => by rw [e, g1]; rfl) ?_
      rw [g1, g2]
      intro u1 u2 u3 bo er m17 hm17 hv17 b22
      simp only [firstV, List.cons_append, List.nil_append, Value.tuple.injEq, Value.agg.injEq, Array.mk.injEq, List.cons.injEq, Value.bool.injEq, Value.int.injEq, true_and, and_true] at hv17
      obtain ⟨⟨rfl, rfl, rfl⟩, rfl, rfl⟩ := hv17
      refine ⟨false, chk_intro rfl ⟨true, eq_hit _ _ _ _ _ _, br_f rfl (br_f rfl ⟨by trivial, rfl⟩)⟩, br_f rfl ⟨by trivial, 2, by omega, 2, by omega, rfl, rfl⟩⟩
    · have g1 : firstE [⟨false, true, letterT 98⟩, ⟨false, false, abT⟩] [97, 98, 99] = some (1, 0, 2) := by subst habT; kernel_rfl
      have g2 : rulesW [⟨false, true, letterT 98⟩, ⟨false, false, abT⟩] [97, 98, 99].length 0 = 0 := by subst habT; kernel_rfl
      refine ⟨⟨by omega, by omega⟩, chk_intro rfl fun b19 => chk_intro rfl (look_intro rfl (look_intro rfl (chk_intro rfl fun b20 c8 hf20 hc8 => ?_)))⟩
      refine call_any (cx_First [⟨false, true, letterT 98⟩, ⟨false, false, abT⟩] (some ⟨b16, 0, none⟩) 2 (some ⟨b20, 0, none⟩) [97, 98, 99] c8 (m16.add b20 _) (fun _ => R16.mono (Mem.le_trans hm16 (Mem.le_add hf20 _))) (fun _ => byt_add _ (by decide))) (fun v _ _ e => by rw [e, g1]; rfl) ?_
      rw [g1, g2]
      intro u1 u2 u3 bo er m17 hm17 hv17 b22
      simp only [firstV, List.cons_append, List.nil_append, Value.tuple.injEq, Value.agg.injEq, Array.mk.injEq, List.cons.injEq, Value.bool.injEq, Value.int.injEq, true_and, and_true] at hv17
      obtain ⟨⟨rfl, rfl, rfl⟩, rfl, rfl⟩ := hv17
      refine ⟨false, chk_intro rfl ⟨true, eq_hit _ _ _ _ _ _, br_f rfl (br_f rfl ⟨by trivial, rfl⟩)⟩, br_f rfl ⟨by trivial, 1, by omega, 3, by omega, rfl, rfl⟩⟩
    · have g1 : firstE [⟨false, false, nodeT 5 0 (-1) ga gc [letterT 97]⟩] [98, 97] = some (0, 0, 0) := by kernel_rfl
      have g2 : rulesW [⟨false, false, nodeT 5 0 (-1) ga gc [letterT 97]⟩] [98, 97].length 0 = 0 := by kernel_rfl
      refine ⟨⟨by omega, by omega⟩, chk_intro rfl fun b19 => chk_intro rfl (look_intro rfl (look_intro rfl (chk_intro rfl fun b20 c8 hf20 hc8 => ?_)))⟩
      refine call_any (cx_First [⟨false, false, nodeT 5 0 (-1) ga gc [letterT 97]⟩] (some ⟨b17, 0, none⟩) 1 (some ⟨b20, 0, none⟩) [98, 97] c8 (m16.add b20 _) (fun _ => R17.mono (Mem.le_trans hm16 (Mem.le_add hf20 _))) (fun _ => byt_add _ (by decide))) (fun v _ _ e => by rw [e, g1]; rfl) ?_
      rw [g1, g2]
      intro u1 u2 u3 bo er m17 hm17 hv17 b22
      simp only [firstV, List.cons_append, List.nil_append, Value.tuple.injEq, Value.agg.injEq, Array.mk.injEq, List.cons.injEq, Value.bool.injEq, Value.int.injEq, true_and, and_true] at hv17
      obtain ⟨⟨rfl, rfl, rfl⟩, rfl, rfl⟩ := hv17
      refine ⟨false, chk_intro rfl ⟨true, eq_hit _ _ _ _ _ _, br_f rfl (br_f rfl ⟨by trivial, rfl⟩)⟩, br_f rfl ⟨by trivial, 0, by omega, 4, by omega, rfl, rfl⟩⟩
  · refine call_any (cx_text ⟨#[97, 98]⟩ (by decide) m16) tree_fits (tree_k fun t5 m17 hm17 hr5 ht5 => ?_)
    refine call_any (cx_letter 97 (by omega) m17) tree_fits (tree_k fun t6 m18 hm18 hr6 ht6 b19 hf19 => ?_)
    refine call_any (cx_lalt (some ⟨b19, 0, none⟩) 2 [t5, t6] (m18.add b19 _) (repL_add hf19 (by intro t ht; simp at ht; rcases ht with rfl | rfl; exact hr5.mono hm18; exact hr6) (by simp))) tree_fits (tree_k fun t7 m19 hm19 hr7' ht7 => ?_)
    refine call_any (cx_letter 99 (by omega) m19) tree_fits (tree_k fun t8 m20 hm20 hr8 ht8 => ?_)
    refine call_any (cx_text ⟨#[98, 99]⟩ (by decide) m20) tree_fits (tree_k fun t9 m21 hm21 hr9 ht9 b20 hf20 => ?_)
    refine call_any (cx_lalt (some ⟨b20, 0, none⟩) 2 [t8, t9] (m21.add b20 _) (repL_add hf20 (by intro t ht; simp at ht; rcases ht with rfl | rfl; exact hr8.mono hm21; exact hr9) (by simp))) tree_fits (tree_k fun t10 m22 hm22 hr10 ht10 b21 hf21 => ?_)
    refine call_any (cx_lcat (some ⟨b21, 0, none⟩) 2 [t7, t10] (m22.add b21 _) (repL_add hf21 (by intro t ht; simp at ht; rcases ht with rfl | rfl; exact hr7'.mono (Mem.le_trans hm20 (Mem.le_trans hm21 (Mem.le_trans (Mem.le_add hf20 _) hm22))); exact hr10) (by simp))) tree_fits (tree_k fun t11 m23 hm23 hr11 ht11 b22 b23 hf23 => ?_)
    rw [hb97] at ht5
    rw [hxs] at ht9
    obtain ⟨p1, p2, rfl⟩ := ht5
    obtain ⟨p3, p4, rfl⟩ := ht9
    subst ht6 ht8 ht7 ht10
    have w3 : t11.wrong [97, 98, 99].length 0 = 0 := by subst ht11; kernel_rfl
    have w2 : t11.wrong [97, 99].length 0 = 0 := by subst ht11; kernel_rfl
    have w4 : t11.wrong [97, 98, 98, 99].length 0 = 0 := by subst ht11; kernel_rfl
    have y1 : T.matches t11 [97, 98, 99] = true := by subst ht11; kernel_rfl
    have y2 : T.matches t11 [97, 99] = true := by subst ht11; kernel_rfl
    have y3 : T.matches t11 [97, 98, 98, 99] = true := by subst ht11; kernel_rfl
    refine ⟨fun xs css tvs m' q => ∃ k : Nat, k ≤ 3 ∧ xs = [.int .i64 k] ∧ q = 3 - k, ⟨3, 0, by omega, rfl, rfl⟩, ?_⟩
    rintro z m24 q hm24 ⟨k, hk, hz, hq⟩
    obtain rfl : z = k := by simpa using hz
    refine br_intro (fun hlt => ?_) (fun hge => ?_)
    · have h4 : k = 0 ∨ k = 1 ∨ k = 2 := by have := of_decide_eq_true hlt; omega
      rcases h4 with rfl | rfl | rfl
      · refine ⟨⟨by omega, by omega⟩, look_intro rfl (chk_intro rfl fun b24 c15 hf24 hc15 => ?_)⟩
        refine call_any (cx_Matches t11 (some ⟨b24, 0, none⟩) [97, 98, 99] c15 (m24.add b24 _) (hr11.mono (Mem.le_trans (Mem.le_add hf23 _) (Mem.le_trans hm24 (Mem.le_add hf24 _)))) (fun _ => byt_add _ (by decide))) (fun v _ _ e => by rw [e]; rfl) ?_
        rw [y1, w3]
        intro bo er m25 hm25 hv25
        simp only [Value.tuple.injEq, Array.mk.injEq, List.cons.injEq, Value.bool.injEq, Value.int.injEq, true_and, and_true] at hv25
        obtain ⟨rfl, rfl⟩ := hv25
        exact ⟨false, br_f rfl ⟨by trivial, rfl⟩, br_f rfl ⟨by trivial, 2, by omega, 1, by omega, rfl, rfl⟩⟩
      · refine ⟨⟨by omega, by omega⟩, look_intro rfl (chk_intro rfl fun b24 c15 hf24 hc15 => ?_)⟩
        refine call_any (cx_Matches t11 (some ⟨b24, 0, none⟩) [97, 99] c15 (m24.add b24 _) (hr11.mono (Mem.le_trans (Mem.le_add hf23 _) (Mem.le_trans hm24 (Mem.le_add hf24 _)))) (fun _ => byt_add _ (by decide))) (fun v _ _ e => by rw [e]; rfl) ?_
        rw [y2, w2]
        intro bo er m25 hm25 hv25
        simp only [Value.tuple.injEq, Array.mk.injEq, List.cons.injEq, Value.bool.injEq, Value.int.injEq, true_and, and_true] at hv25
        obtain ⟨rfl, rfl⟩ := hv25
        exact ⟨false, br_f rfl ⟨by trivial, rfl⟩, br_f rfl ⟨by trivial, 1, by omega, 2, by omega, rfl, rfl⟩⟩
      · refine ⟨⟨by omega, by omega⟩, look_intro rfl (chk_intro rfl fun b24 c15 hf24 hc15 => ?_)⟩
        refine call_any (cx_Matches t11 (some ⟨b24, 0, none⟩) [97, 98, 98, 99] c15 (m24.add b24 _) (hr11.mono (Mem.le_trans (Mem.le_add hf23 _) (Mem.le_trans hm24 (Mem.le_add hf24 _)))) (fun _ => byt_add _ (by decide))) (fun v _ _ e => by rw [e]; rfl) ?_
        rw [y3, w4]
        intro bo er m25 hm25 hv25
        simp only [Value.tuple.injEq, Array.mk.injEq, List.cons.injEq, Value.bool.injEq, Value.int.injEq, true_and, and_true] at hv25
        obtain ⟨rfl, rfl⟩ := hv25
        exact ⟨false, br_f rfl ⟨by trivial, rfl⟩, br_f rfl ⟨by trivial, 0, by omega, 3, by omega, rfl, rfl⟩⟩
    · exact ret_pure (Mem.le_trans hm1 (Mem.le_trans hm2 (Mem.le_trans hle3 (Mem.le_trans hle35 (Mem.le_trans hle59 (Mem.le_trans (Mem.le_add hf10 _) (Mem.le_trans hm10 (Mem.le_trans (Mem.le_add hf12 _) (Mem.le_trans hm11 (Mem.le_trans hM1 (Mem.le_trans hm16 (Mem.le_trans hm17 (Mem.le_trans hm18 (Mem.le_trans (Mem.le_add hf19 _) (Mem.le_trans hm19 (Mem.le_trans hm20 (Mem.le_trans hm21 (Mem.le_trans (Mem.le_add hf20 _) (Mem.le_trans hm22 (Mem.le_trans (Mem.le_add hf21 _) (Mem.le_trans hm23 (Mem.le_trans (Mem.le_add hf23 _) hm24)))))))))))))))))))))) rfl
end Go.Proofs.Ythiefodednaikaa

