/- Part of the proof: conditions and contracts of functions of this program. No condition of its own. -/
import Derived.Test.YtmggihkjgbnhbaaPC15L
/- What the laws of factoring have in common: the cuts of a tree that is right. -/
set_option linter.unusedVariables false
set_option linter.unusedSimpArgs false
set_option linter.unusedSectionVars false
namespace Go.Proofs.Ytmggihkjgbnhbaa
open Go Go.Eng Go.Rx Go.Proofs Go.RowKit
set_option maxRecDepth 100000

theorem ok_rgt {t : T} (h : OkT t) : T.rgt t = true := rgt_iff.2 ⟨h.good, by have := (fits_iff h.fits).2.2; omega⟩
theorem ok_pos {t : T} (h : OkT t) : t.pos ≤ 400 := by
  have hc := (fits_iff h.fits).1
  have h2 := clean_good (check_clean hc)
  unfold T.check at hc
  rw [if_neg (by rw [check_clean (fits_iff h.fits).1]; simp)] at hc
  split at hc
  · cases hc
  · split at hc
    · cases hc
    · rename_i h4
      unfold T.positions T.light at h4
      rw [decide_eq_true h2.2, if_pos rfl] at h4
      omega
theorem cx_FactorOk (t : T) (m : Mem) (hr : Rep m t) (ho : OkT t) : CX Try.prog 13 #[t.v] m [] (TreeE 0 (fun t' => t'.er = (factorE t).1)) :=
  (cx_Factor t m hr ho.caps).mono fun v m' css _ h => by rw [if_pos (ok_rgt ho)] at h; exact h
theorem treeE_fits {e : Int} {φ : T → Prop} : ∀ (v : Value) (m' : Mem) (css : List (List Value)), TreeE e φ v m' css → Shape.fits (.tup [.agg [.int .u8, .int .u64, .int .u64, .int .u64, .int .u64, .int .i64, .int .i64, .slice], .int .i64]) v = true := fun v _ _ ⟨t, e, _⟩ => by rw [e]; rfl
theorem sameL_refl : ∀ l : List T, (∀ t ∈ l, t.same t = true) → sameL l l = true
  | [], _ => rfl
  | t :: l, h => by simp only [sameL, h t (by simp), sameL_refl l fun x hx => h x (by simp [hx]), Bool.and_self]
theorem same_refl : ∀ t : T, t.same t = true
  | .node k s0 s1 s2 s3 mn mx a c l => by
    have := same_reflL l
    simp only [T.same, this, beq_self_eq_true, Bool.and_self]
where same_reflL : ∀ l : List T, sameL l l = true
  | [] => rfl
  | t :: l => by simp only [sameL, same_refl t, same_reflL l, Bool.and_self]
theorem same_of_er {t u : T} (h : t.er = u.er) : t.same u = true := by
  rw [← same_er, h]; exact same_refl _
theorem sz_small {t : T} (h : t.nodes.length ≤ 10000) : t.light = true := by unfold T.light; exact decide_eq_true h
theorem groups_gr {t : T} (h : t.nodes.length ≤ 10000) : t.groups = (t.gr : Nat) := by
  unfold T.groups
  rw [sz_small h, if_pos rfl]
  rfl
theorem positions_pos {t : T} (h : t.nodes.length ≤ 10000) : t.positions = t.pos := by
  unfold T.positions
  rw [sz_small h, if_pos rfl]
theorem cutsCells_append (l r : List C4) : cutsCells (l ++ r) = cutsCells l ++ cutsCells r := by simp [cutsCells]
theorem row_getC {m : Mem} {a : Option Addr} {ts : List C4} (h : rowRd m a (cutsCells ts)) {i : Nat} {t : C4} (hi : ts[i]? = some t) : ∃ b o, a = some ⟨b, o, none⟩ ∧ m.reads b (o + i * 4) (c4cells t) := by
  have hlt := (List.getElem?_eq_some_iff.1 hi).1
  rcases h with h | ⟨b, o, ha, h⟩
  · have hl : (cutsCells ts).length = 0 := by rw [h]; rfl
    rw [cutsCells_len] at hl
    omega
  · refine ⟨b, o, ha, fun j v hj => ?_⟩
    rw [Nat.add_assoc]
    refine h (i * 4 + j) v ?_
    have e : ts = ts.take i ++ ([t] ++ ts.drop (i + 1)) := by
      have h2 := List.drop_eq_getElem_cons hlt
      rw [(List.getElem?_eq_some_iff.1 hi).2] at h2
      rw [List.singleton_append, ← h2, List.take_append_drop]
    have hj4 := (List.getElem?_eq_some_iff.1 hj).1
    rw [e, cutsCells_append, List.getElem?_append_right (by rw [cutsCells_len, List.length_take, Nat.min_eq_left (by omega)]; omega), cutsCells_len, List.length_take, Nat.min_eq_left (by omega), show i * 4 + j - i * 4 = j by omega]
    rw [cutsCells_append, show cutsCells [t] = c4cells t by simp [cutsCells], List.getElem?_append_left hj4]; exact hj
theorem c4_ext {k c : C4} (h1 : ((k.a : Nat) : Int) = c.a) (h2 : ((k.f : Nat) : Int) = c.f) (h3 : ((k.t : Nat) : Int) = c.t) (h4 : ((k.n : Nat) : Int) = c.n) : k = c := by
  cases k; cases c
  simp only [C4.mk.injEq] at *
  omega
theorem cx_StepsOk (t : T) (m : Mem) (hr : Rep m t) (hk : T.rgt t = true) (hc : t.caps) : CX Try.prog 23 #[t.v] m [] (CutsE 0 (factorE t).2) :=
  (cx_Steps t m hr hc).mono fun v m' css _ h => by unfold OrE at h; rw [if_neg (by rw [hk]; simp)] at h; exact h
theorem cx_CutsOk (t : T) (m : Mem) (hr : Rep m t) (hk : T.rgt t = true) (hc : t.caps) (hl : t.cuts.length ≤ 1000000) : CX Try.prog 27 #[t.v] m [] (CutsE 0 t.cuts) :=
  (cx_Cuts t m hr hc hl).mono fun v m' css _ h => by unfold OrE at h; rw [if_neg (by rw [hk]; simp)] at h; exact h
theorem cx_FactorR (t : T) (m : Mem) (hr : Rep m t) (hk : T.rgt t = true) (hc : t.caps) : CX Try.prog 13 #[t.v] m [] (TreeE 0 (fun t' => t'.er = (factorE t).1)) :=
  (cx_Factor t m hr hc).mono fun v m' css _ h => by rw [if_pos hk] at h; exact h
def BestOk (t : T) : Value → Mem → List (List Value) → Prop := fun v _ _ => v = .tuple #[(bestE t).c.v, .int .i64 (bestE t).g, .bool (decide (0 < (bestE t).g)), .int .i64 0]
theorem bestOk_fits {t : T} : ∀ (v : Value) (m' : Mem) (css : List (List Value)), BestOk t v m' css → Shape.fits (.tup [.agg [.int .i64, .int .i64, .int .i64, .int .i64], .int .i64, .bool, .int .i64]) v = true := fun v _ _ h => by rw [h]; rfl
theorem cx_BestOk (t : T) (m : Mem) (hr : Rep m t) (hk : T.rgt t = true) (hc : t.caps) : CX Try.prog 24 #[t.v] m [] (BestOk t) :=
  (cx_Best t m hr hc).mono fun v m' css _ h => by
    rw [if_neg (by rw [hk]; simp)] at h
    unfold BestOk
    rw [h]
    rcases (bestE_ok t).or with ⟨h1, h2, _⟩ | ⟨h1, _⟩
    · rw [if_pos (by omega), h1, h2]; rfl
    · rw [if_neg (by omega), decide_eq_true h1]
theorem cx_MakeOk (t : T) (k : C4) (m : Mem) (hr : Rep m t) (hg : T.rgt t = true) (hc : t.caps) (hk : k ∈ t.cuts) : CX Try.prog 26 #[t.v, k.v] m [] (TreeE 0 (fun t' => t'.er = (t.cutAt k 0).1)) :=
  (cx_Make t _ _ _ _ m hr hc).mono fun v m' css _ h => by
    unfold MakeR at h
    rw [if_neg (by rw [hg]; simp)] at h
    rcases h with ⟨k', _, h1, h2, h3, h4, h⟩ | ⟨h, _⟩
    · rw [c4_ext h1 h2 h3 h4] at h; exact h
    · exact absurd ⟨rfl, rfl, rfl, rfl⟩ (h k hk)
def GainOk (g : Int) : Value → Mem → List (List Value) → Prop := fun v _ _ => v = .tuple #[.int .i64 g, .int .i64 0]
theorem gainOk_fits {g : Int} : ∀ (v : Value) (m' : Mem) (css : List (List Value)), GainOk g v m' css → Shape.fits (.tup [.int .i64, .int .i64]) v = true := fun v _ _ h => by rw [h]; rfl
theorem cx_GainOk (t : T) (k : C4) (m : Mem) (hr : Rep m t) (hg : T.rgt t = true) (hc : t.caps) (hk : k ∈ t.cuts) : CX Try.prog 25 #[t.v, k.v] m [] (GainOk (gainE t k)) :=
  (cx_Gain t _ _ _ _ m hr hc).mono fun v m' css _ h => by
    obtain ⟨g, e, rfl, h⟩ := h
    rcases h with ⟨h, _⟩ | ⟨_, k', _, h1, h2, h3, h4, rfl, rfl⟩ | ⟨_, h, _⟩
    · rw [hg] at h; cases h
    · rw [c4_ext h1 h2 h3 h4]; rfl
    · exact absurd ⟨rfl, rfl, rfl, rfl⟩ (h k hk)
end Go.Proofs.Ytmggihkjgbnhbaa

