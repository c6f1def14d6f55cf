/- Part of the proof: conditions and contracts of functions of this program. No condition of its own. -/
import Derived.Test.YthiefodednaikaaPVC
import Derived.Test.YthiefodednaikaaPC13C
import Derived.Test.YthiefodednaikaaPC13R
/- Contracts of package denote: to which indices a tree leads. -/
set_option linter.unusedVariables false
set_option linter.unusedSimpArgs false
set_option linter.unusedSectionVars false
namespace Go.Proofs.Ythiefodednaikaa
open Go Go.Eng Go.Rx Go.Proofs Go.RowKit
set_option maxRecDepth 100000

abbrev txV (a : Option Addr) (s : List Nat) (c : Nat) (back : Bool) : Value := .agg #[.slice a s.length c, .bool back]
theorem at_some {α : Type} {l : List α} {k : Nat} (h : k < l.length) : ∃ x, l[k]? = some x := ⟨l[k], List.getElem?_eq_getElem h⟩
theorem cx_class (t : T) (a : Option Addr) (s : List Nat) (c : Nat) (back : Bool) (f : Nat) (m : Mem) (hr : Rep m t) (hb : Byt m a s) (hs : s.length ≤ 512) : CX Try.prog 101 #[txV a s c back, t.v, plV f] m [] (Ret (plV (clsL t back f s 0 0))) := by
  apply cx_denote_text_class
  unfold VC_denote_text_class
  intro b m1 hm1 _ b1 m2 hm2 _ b2 m3 hm3 hb2 b3 b4
  refine ⟨fun xs css _ m' q => ∃ k o : Nat, k ≤ s.length ∧ xs = [.int .i64 k] ∧ css = [plL o] ∧ clsL t back f (s.drop k) k o = clsL t back f s 0 0 ∧ m3.le m' ∧ q = s.length - k, ⟨_, 0, 0, by omega, rfl, rfl, rfl, Mem.le_refl _, rfl⟩, ?_⟩
  rintro n cs m4 q hm4 ⟨k, o, hk, hn, hcs, hgo, _, hq⟩
  obtain rfl : n = k := by simpa using hn
  obtain rfl : cs = plL o := by simpa using hcs
  have hM4 : m.le m4 := Mem.le_trans hm1 (Mem.le_trans hm2 (Mem.le_trans hm3 hm4))
  refine br_intro (fun hlt => ?_) (fun hge => ?_)
  · have hlt' : k < s.length := by have := of_decide_eq_true hlt; omega
    obtain ⟨ch, hch⟩ := at_some hlt'
    have hw : IntKind.i64.wrap ((k : Int) + 1) = ((k + 1 : Nat) : Int) := by rw [wrap64 (by omega) (by omega)]; rfl
    have hstep : clsL t back f (s.drop (k + 1)) (k + 1) (clsAt t back f k ch o) = clsL t back f s 0 0 := by rw [drop_at hch] at hgo; exact hgo
    obtain ⟨⟨b5, o5, ha, hv⟩, hc256⟩ := (hb.mono hM4).get hch
    simp only [hw, Int.toNat_natCast, Nat.mul_one]
    refine ⟨b5, o5, ha, ⟨by omega, by omega⟩, _, hv, ?_⟩
    cases back with
    | true =>
      refine br_val (x := true) rfl ?_
      refine ⟨f.testBit (k + 1) && t.hasB ch, call_bool (cx_phas f (k + 1) (by omega) b2 m4 (hb2.mono hm4)) fun m5 hm5 => br_intro (fun h => call_bool (cx_sHas t ch hc256 m5 (hr.mono (Mem.le_trans hM4 hm5))) fun m6 hm6 => ⟨by trivial, by rw [h, Bool.true_and]⟩) (fun h => ⟨by trivial, by rw [h, Bool.false_and]⟩), br_intro (fun h => ?_) (fun h => ?_)⟩
      · refine ⟨fun i _ _ => if i = 2 then Ret (plV (2 ^ k)) else Ret (plV (o ||| 2 ^ k)), Ret (plV (2 ^ k)), rfl, cx_at k (by omega) m4, pl_fits, pl_k fun m5 hm5 => ⟨Ret (plV (o ||| 2 ^ k)), rfl, cx_or o (2 ^ k) m5, pl_fits, pl_k fun m6 hm6 M hM1 hM2 hM3 => ⟨by trivial, s.length - (k + 1), by omega, k + 1, o ||| 2 ^ k, by omega, rfl, rfl, ?_, Mem.le_trans hm4 hM1, rfl⟩⟩⟩
        rw [← hstep]; unfold clsAt; rw [if_pos (by simpa using h)]; rfl
      · refine ⟨by trivial, s.length - (k + 1), by omega, k + 1, o, by omega, rfl, rfl, ?_, hm4, rfl⟩
        rw [← hstep]; unfold clsAt; rw [if_neg (by simpa using h)]
    | false =>
      refine br_val (x := false) rfl ?_
      refine ⟨f.testBit k && t.hasB ch, call_bool (cx_phas f k (by omega) b2 m4 (hb2.mono hm4)) fun m5 hm5 => br_intro (fun h => call_bool (cx_sHas t ch hc256 m5 (hr.mono (Mem.le_trans hM4 hm5))) fun m6 hm6 => ⟨by trivial, by rw [h, Bool.true_and]⟩) (fun h => ⟨by trivial, by rw [h, Bool.false_and]⟩), br_intro (fun h => ?_) (fun h => ?_)⟩
      · refine ⟨fun i _ _ => if i = 2 then Ret (plV (2 ^ (k + 1))) else Ret (plV (o ||| 2 ^ (k + 1))), Ret (plV (2 ^ (k + 1))), rfl, cx_at (k + 1) (by omega) m4, pl_fits, pl_k fun m5 hm5 => ⟨Ret (plV (o ||| 2 ^ (k + 1))), rfl, cx_or o (2 ^ (k + 1)) m5, pl_fits, pl_k fun m6 hm6 M hM1 hM2 hM3 => ⟨by trivial, s.length - (k + 1), by omega, k + 1, o ||| 2 ^ (k + 1), by omega, rfl, rfl, ?_, Mem.le_trans hm4 hM1, rfl⟩⟩⟩
        rw [← hstep]; unfold clsAt; rw [if_pos (by simpa using h)]; rfl
      · refine ⟨by trivial, s.length - (k + 1), by omega, k + 1, o, by omega, rfl, rfl, ?_, hm4, rfl⟩
        rw [← hstep]; unfold clsAt; rw [if_neg (by simpa using h)]
  · have : k = s.length := by have := of_decide_eq_false hge; omega
    subst this
    refine chk_intro rfl (ret_pure hM4 ?_)
    rw [List.drop_length] at hgo
    rw [← hgo]; rfl
theorem cx_none (t : T) (f : Nat) (m : Mem) : CX Try.prog 99 #[t.v, plV f] m [] (Ret (plV 0)) := by
  apply cx_denote_text_kinds_1
  unfold VC_denote_text_kinds_1
  intro b m1 hm1 _ b1 m2 hm2 _ b2
  exact ret_pure (Mem.le_trans hm1 hm2) rfl
theorem cx_empty (t : T) (f : Nat) (m : Mem) : CX Try.prog 100 #[t.v, plV f] m [] (Ret (plV f)) := by
  apply cx_denote_text_kinds_2
  unfold VC_denote_text_kinds_2
  intro b m1 hm1 _ b1 m2 hm2 _ b2
  exact ret_pure (Mem.le_trans hm1 hm2) rfl
/-- What is known of the subs of a tree, when these are walked. -/
def IH (a : Option Addr) (s : List Nat) (c : Nat) (back : Bool) (t : T) : Prop := ∀ x ∈ t.subs, ∀ (f : Nat) (m : Mem), f < B576 → Rep m x → Byt m a s → CX Try.prog 53 #[txV a s c back, x.v, plV f] m [] (Ret (plV (x.lead s back f)))
section
variable (t : T) (a : Option Addr) (s : List Nat) (c : Nat) (back : Bool) (f : Nat) (m : Mem) (hr : Rep m t) (hb : Byt m a s) (hs : s.length ≤ 512) (ih : IH a s c back t) (hf : f < B576)
include hr hb hs ih hf
theorem cx_cat (pb po : Nat) (hp : m.reads pb po [.slice a s.length c, .bool back]) : CX Try.prog 102 #[t.v, plV f, .pointer (some ⟨pb, po, none⟩)] m [] (Ret (plV (if back then leadB s back t.subs f else leadF s back t.subs f))) := by
  apply cx_denote_text_kinds_3
  unfold VC_denote_text_kinds_3
  intro b m1 hm1 _ b1 b2
  obtain ⟨hlen, hsub⟩ := Rep_iff hr
  refine ⟨fun xs css _ m' q => ∃ k o : Nat, k ≤ t.subs.length ∧ xs = [.int .i64 k] ∧ css = [plL o] ∧ o < B576 ∧ (if back then leadB s back (t.subs.take (t.subs.length - k)) o else leadF s back (t.subs.drop k) o) = (if back then leadB s back t.subs f else leadF s back t.subs f) ∧ m1.le m' ∧ q = t.subs.length - k, ⟨_, 0, f, by omega, rfl, rfl, hf, by rw [Nat.sub_zero, List.take_length, List.drop_zero], Mem.le_refl _, rfl⟩, ?_⟩
  rintro n cs m4 q hm4 ⟨k, o, hk, hn, hcs, ho, hgo, _, hq⟩
  obtain rfl : n = k := by simpa using hn
  obtain rfl : cs = plL o := by simpa using hcs
  have hM4 : m.le m4 := Mem.le_trans hm1 hm4
  refine br_intro (fun hlt => ?_) (fun hge => ?_)
  · have hlt' : k < t.subs.length := by have := of_decide_eq_true hlt; omega
    have hw : IntKind.i64.wrap ((k : Int) + 1) = ((k + 1 : Nat) : Int) := by rw [wrap64 (by omega) (by omega)]; rfl
    have hw1 : IntKind.i64.wrap ((t.subs.length : Int) - 1) = ((t.subs.length - 1 : Nat) : Int) := by rw [wrap64 (by omega) (by omega)]; omega
    have hw2 : IntKind.i64.wrap (((t.subs.length - 1 : Nat) : Int) - k) = ((t.subs.length - 1 - k : Nat) : Int) := by rw [wrap64 (by omega) (by omega)]; omega
    rcases hsub with hsub | ⟨sb, so, hsa, hsr⟩
    · rw [hsub] at hlt'; simp at hlt'
    simp only [hw, hw1, hw2, Int.toNat_natCast]
    refine ⟨.bool back, hM4 _ _ _ (hp 1 _ rfl), chk_intro rfl ?_⟩
    cases back with
    | true =>
      refine br_val (x := true) rfl ?_
      obtain ⟨x, hx⟩ := at_some (l := t.subs) (k := t.subs.length - 1 - k) (by omega)
      obtain ⟨hx1, hx2⟩ := hsr.get hx
      refine ⟨fun _ _ _ => Ret (plV (x.lead s true o)), _, _, hp.mono hM4, sb, so, hsa, ⟨by omega, by omega⟩, _, _, _, _, _, _, _, _, hx1.mono hM4, Ret (plV (x.lead s true o)), rfl, ih x (List.mem_of_getElem? hx) o m4 ho (hx2.mono hM4) (hb.mono hM4), pl_fits, pl_k fun m6 hm6 M hM1 hM2 => ⟨by trivial, t.subs.length - (k + 1), by omega, k + 1, x.lead s true o, by omega, rfl, rfl, lead_lt s true hs x o ho, ?_, Mem.le_trans hm4 hM1, rfl⟩⟩
      rw [if_pos rfl, if_pos rfl] at hgo ⊢
      rw [show t.subs.length - k = t.subs.length - 1 - k + 1 by omega, take_at hx, leadB_snoc] at hgo
      rw [show t.subs.length - (k + 1) = t.subs.length - 1 - k by omega]
      exact hgo
    | false =>
      refine br_val (x := false) rfl ?_
      obtain ⟨x, hx⟩ := at_some hlt'
      obtain ⟨hx1, hx2⟩ := hsr.get hx
      refine ⟨fun _ _ _ => Ret (plV (x.lead s false o)), _, _, hp.mono hM4, sb, so, hsa, ⟨by omega, by omega⟩, _, _, _, _, _, _, _, _, hx1.mono hM4, Ret (plV (x.lead s false o)), rfl, ih x (List.mem_of_getElem? hx) o m4 ho (hx2.mono hM4) (hb.mono hM4), pl_fits, pl_k fun m6 hm6 M hM1 hM2 => ⟨by trivial, t.subs.length - (k + 1), by omega, k + 1, x.lead s false o, by omega, rfl, rfl, lead_lt s false hs x o ho, ?_, Mem.le_trans hm4 hM1, rfl⟩⟩
      rw [if_neg (by simp), if_neg (by simp)] at hgo ⊢
      rw [drop_at hx, leadF_cons] at hgo
      exact hgo
  · have : k = t.subs.length := by have := of_decide_eq_false hge; omega
    subst this
    refine chk_intro rfl (ret_pure hM4 ?_)
    rw [Nat.sub_self, List.drop_length] at hgo
    rw [← hgo]; cases back <;> rfl
theorem cx_alt (pb po : Nat) (hp : m.reads pb po [.slice a s.length c, .bool back]) : CX Try.prog 103 #[t.v, plV f, .pointer (some ⟨pb, po, none⟩)] m [] (Ret (plV (altL s back t.subs f 0))) := by
  apply cx_denote_text_kinds_4
  unfold VC_denote_text_kinds_4
  intro b m1 hm1 _ b1 m2 hm2 _ b2 b3
  obtain ⟨hlen, hsub⟩ := Rep_iff hr
  refine ⟨fun xs css _ m' q => ∃ k o : Nat, k ≤ t.subs.length ∧ xs = [.int .i64 k] ∧ css = [plL o] ∧ altL s back (t.subs.drop k) f o = altL s back t.subs f 0 ∧ m2.le m' ∧ q = t.subs.length - k, ⟨_, 0, 0, by omega, rfl, rfl, rfl, Mem.le_refl _, rfl⟩, ?_⟩
  rintro n cs m4 q hm4 ⟨k, o, hk, hn, hcs, hgo, _, hq⟩
  obtain rfl : n = k := by simpa using hn
  obtain rfl : cs = plL o := by simpa using hcs
  have hM4 : m.le m4 := Mem.le_trans hm1 (Mem.le_trans hm2 hm4)
  refine br_intro (fun hlt => ?_) (fun hge => ?_)
  · have hlt' : k < t.subs.length := by have := of_decide_eq_true hlt; omega
    have hw : IntKind.i64.wrap ((k : Int) + 1) = ((k + 1 : Nat) : Int) := by rw [wrap64 (by omega) (by omega)]; rfl
    rcases hsub with hsub | ⟨sb, so, hsa, hsr⟩
    · rw [hsub] at hlt'; simp at hlt'
    simp only [hw, Int.toNat_natCast]
    obtain ⟨x, hx⟩ := at_some hlt'
    obtain ⟨hx1, hx2⟩ := hsr.get hx
    refine ⟨sb, so, hsa, ⟨by omega, by omega⟩, _, _, _, _, _, _, _, _, hx1.mono hM4, fun b5 => chk_intro rfl ⟨fun i _ _ => if i = 4 then Ret (plV (x.lead s back f)) else Ret (plV (o ||| x.lead s back f)), _, _, hp.mono hM4, Ret (plV (x.lead s back f)), rfl, ih x (List.mem_of_getElem? hx) f m4 hf (hx2.mono hM4) (hb.mono hM4), pl_fits, pl_k fun m5 hm5 => ⟨Ret (plV (o ||| x.lead s back f)), rfl, cx_or o _ m5, pl_fits, pl_k fun m6 hm6 M hM1 hM2 hM3 => ⟨by trivial, t.subs.length - (k + 1), by omega, k + 1, o ||| x.lead s back f, by omega, rfl, rfl, ?_, Mem.le_trans hm4 hM1, rfl⟩⟩⟩⟩
    rw [drop_at hx, altL_cons] at hgo
    exact hgo
  · have : k = t.subs.length := by have := of_decide_eq_false hge; omega
    subst this
    refine chk_intro rfl (ret_pure hM4 ?_)
    rw [List.drop_length, altL_nil] at hgo
    rw [hgo]; rfl
theorem cx_grp (x : T) (hx : t.subs = [x]) (pb po : Nat) (hp : m.reads pb po [.slice a s.length c, .bool back]) : CX Try.prog 106 #[t.v, plV f, .pointer (some ⟨pb, po, none⟩)] m [] (Ret (plV (headL s back t.subs f))) := by
  apply cx_denote_text_kinds_5
  unfold VC_denote_text_kinds_5
  intro b m1 hm1 _ b1 m2 hm2 _ b2
  obtain ⟨hlen, hsub⟩ := Rep_iff hr
  have hM4 : m.le m2 := Mem.le_trans hm1 hm2
  rcases hsub with hsub | ⟨sb, so, hsa, hsr⟩
  · rw [hsub] at hx; cases hx
  have hx0 : t.subs[0]? = some x := by rw [hx]; rfl
  obtain ⟨hx1, hx2⟩ := hsr.get hx0
  refine ⟨fun _ _ _ => Ret (plV (x.lead s back f)), _, _, hp.mono hM4, sb, so, hsa, ⟨by omega, by rw [hx]; simp⟩, _, _, _, _, _, _, _, _, hx1.mono hM4, Ret (plV (x.lead s back f)), rfl, ih x (List.mem_of_getElem? hx0) f m2 hf (hx2.mono hM4) (hb.mono hM4), pl_fits, pl_k fun m6 hm6 M hM1 hM2 => ret_pure (Mem.le_trans hM4 hM1) ?_⟩
  rw [hx]; unfold headL; rfl
theorem cx_repeat (x : T) (hx : t.subs = [x]) (hmn : 0 ≤ t.mn) : CX Try.prog 105 #[txV a s c back, t.v, plV f] m [] (Ret (plV (repN (headL s back t.subs) t.mn t.mx f))) := by
  apply cx_denote_text_repeat
  unfold VC_denote_text_repeat
  intro b m1 hm1 _ b1 m2 hm2 _ b2 b3
  obtain ⟨hlen, hsub⟩ := Rep_iff hr
  rcases hsub with hsub | ⟨sb, so, hsa, hsr⟩
  · rw [hsub] at hx; cases hx
  have hx0 : t.subs[0]? = some x := by rw [hx]; rfl
  obtain ⟨hx1, hx2⟩ := hsr.get hx0
  have hg : headL s back t.subs = x.lead s back := by rw [hx]; rfl
  have hl1 : t.subs.length = 1 := by rw [hx]; rfl
  have hok := Rep_ok hr
  obtain ⟨N, hN⟩ : ∃ N : Nat, t.mn = N := ⟨t.mn.toNat, by omega⟩
  have hNb := hok.mn
  rw [hg, hN]
  unfold repN
  rw [Int.toNat_natCast]
  refine ⟨fun xs css _ m' q => ∃ k o : Nat, k ≤ N ∧ xs = [.int .i64 k] ∧ css = [plL o] ∧ o < B576 ∧ iter (x.lead s back) (N - k) o = iter (x.lead s back) N f ∧ m2.le m' ∧ q = N - k, ⟨_, 0, f, by omega, rfl, rfl, hf, rfl, Mem.le_refl _, rfl⟩, ?_⟩
  rintro n cs m4 q hm4 ⟨k, o, hk, hn, hcs, ho, hgo, _, hq⟩
  obtain rfl : n = k := by simpa using hn
  obtain rfl : cs = plL o := by simpa using hcs
  have hM4 : m.le m4 := Mem.le_trans hm1 (Mem.le_trans hm2 hm4)
  refine br_intro (fun hlt => ?_) (fun hge => ?_)
  · have hlt' : k < N := by have := of_decide_eq_true hlt; omega
    have hw : IntKind.i64.wrap ((k : Int) + 1) = ((k + 1 : Nat) : Int) := by rw [wrap64 (by omega) (by omega)]; rfl
    simp only [hw]
    refine ⟨fun _ _ _ => Ret (plV (x.lead s back o)), sb, so, hsa, ⟨by omega, by rw [hx]; simp⟩, _, _, _, _, _, _, _, _, hx1.mono hM4, Ret (plV (x.lead s back o)), rfl, ih x (List.mem_of_getElem? hx0) o m4 ho (hx2.mono hM4) (hb.mono hM4), pl_fits, pl_k fun m6 hm6 M hM1 hM2 => ⟨by trivial, N - (k + 1), by omega, k + 1, x.lead s back o, by omega, rfl, rfl, lead_lt s back hs x o ho, ?_, Mem.le_trans hm4 hM1, rfl⟩⟩
    rw [show N - k = N - (k + 1) + 1 by omega] at hgo
    exact hgo
  · have : k = N := by have := of_decide_eq_false hge; omega
    subst this
    replace hgo : o = iter (x.lead s back) k f := by rw [Nat.sub_self] at hgo; exact hgo
    rw [← hgo]
    intro b4 b5
    refine chk_intro rfl (chk_intro rfl ?_)
    refine ⟨fun xs css _ m' q => ∃ (i : Int) (c1 : List Value) (out last : Nat), xs = [.int .i64 i] ∧ css = [c1, plL out, plL last] ∧ out < B576 ∧ last < B576 ∧ B576 - out < q ∧ starF (x.lead s back) t.mx q i out last = starF (x.lead s back) t.mx (B576 + 1) k o o ∧ m4.le m', ⟨B576 + 1, k, _, o, o, rfl, rfl, ho, ho, by omega, rfl, Mem.le_refl _⟩, ?_⟩
    rintro i cs1 cs2 cs3 m5 q hm5 ⟨i', c1, out, last, hi, hcs, hout, hlast, hq, hst, _⟩
    obtain rfl : i = i' := by simpa using hi
    obtain ⟨rfl, rfl, rfl⟩ : cs1 = c1 ∧ cs2 = plL out ∧ cs3 = plL last := by simpa using hcs
    have hM5 : m.le m5 := Mem.le_trans hM4 hm5
    obtain ⟨q, rfl⟩ : ∃ q', q = q' + 1 := ⟨q - 1, by omega⟩
    rw [starF_succ (n := q)] at hst
    refine br_intro (fun hne => ?_) (fun he => ?_)
    · have hne' : ¬ i = t.mx := by simpa using hne
      rw [if_neg hne'] at hst
      refine ⟨fun _ _ _ => Ret (plV (x.lead s back last)), sb, so, hsa, ⟨by omega, by rw [hx]; simp⟩, _, _, _, _, _, _, _, _, hx1.mono hM5, Ret (plV (x.lead s back last)), rfl, ih x (List.mem_of_getElem? hx0) last m5 hlast (hx2.mono hM5) (hb.mono hM5), pl_fits, pl_k fun m6 hm6 M hM1 hM2 => call_any (cx_or out (x.lead s back last) M) pl_fits (pl_k fun m7 hm7 b7 => ?_)⟩
      have hll := lead_lt s back hs x last hlast
      have hlo := Nat.or_lt_two_pow hout hll
      refine ⟨(out ||| x.lead s back last) == out, eq_pl hlo hout, br_intro (fun h => ?_) (fun h => ?_)⟩
      · rw [if_pos (by simpa using h)] at hst
        refine chk_intro rfl (ret_pure (Mem.le_trans hM5 (Mem.le_trans hM1 hm7)) ?_)
        rw [← hst]; rfl
      · have hno : ¬ (out ||| x.lead s back last) = out := by simpa using h
        rw [if_neg hno] at hst
        have hle : out ≤ out ||| x.lead s back last := Nat.left_le_or
        refine ⟨by trivial, q, by omega, _, _, out ||| x.lead s back last, x.lead s back last, rfl, rfl, hlo, hll, by omega, hst, Mem.le_trans hm5 (Mem.le_trans hM1 hm7)⟩
    · have he' : i = t.mx := by simpa using he
      rw [if_pos he'] at hst
      refine chk_intro rfl ⟨m, Mem.le_refl _, hM5, ?_⟩
      rw [← hst]; rfl
end
/-- The table of what is done for each kind. -/
def KR (a : Option Addr) (s : List Nat) (c : Nat) (back : Bool) : Value → Mem → List (List Value) → Prop := fun v m' _ => ∃ b, v = .agg #[.func (.func 99) #[] #[], .func (.func 100) #[] #[], .func (.func 101) #[txV a s c back] #[], .func (.func 102) #[] #[.pointer (some ⟨b, 0, none⟩)], .func (.func 103) #[] #[.pointer (some ⟨b, 0, none⟩)], .func (.func 105) #[txV a s c back] #[], .func (.func 106) #[] #[.pointer (some ⟨b, 0, none⟩)]] ∧ m'.reads b 0 [.slice a s.length c, .bool back]
theorem cx_kinds (a : Option Addr) (s : List Nat) (c : Nat) (back : Bool) (m : Mem) : CX Try.prog 84 #[txV a s c back] m [] (KR a s c back) := by
  apply cx_denote_text_kinds
  unfold VC_denote_text_kinds
  intro b m1 hm1 hb b1
  exact ⟨m1, hm1, Mem.le_refl _, b, rfl, hb⟩
theorem KR_fits {a s c back} : ∀ (v : Value) (m' : Mem) (css : List (List Value)), KR a s c back v m' css → Shape.fits (.agg [.fn, .fn, .fn, .fn, .fn, .fn, .fn]) v = true := fun v _ _ ⟨b, e, _⟩ => by rw [e]; rfl
theorem one_sub {t : T} (h : (t.subs.length == 1) = true) : ∃ x, t.subs = [x] := List.length_eq_one_iff.1 (by simpa using h)
theorem cx_lead0 (t : T) (a : Option Addr) (s : List Nat) (c : Nat) (back : Bool) (f : Nat) (m : Mem) (hr : Rep m t) (hb : Byt m a s) (hs : s.length ≤ 512) (hf : f < B576) (hk : t.k = 0) : CX Try.prog 53 #[txV a s c back, t.v, plV f] m [] (Ret (plV (0))) := by
  have key : VC_denote_text_lead_0 a s.length c back t.s0 t.s1 t.s2 t.s3 t.mn t.mx t.a t.subs.length t.c (wdN f 0 : Nat) (wdN f 1 : Nat) (wdN f 2 : Nat) (wdN f 3 : Nat) (wdN f 4 : Nat) (wdN f 5 : Nat) (wdN f 6 : Nat) (wdN f 7 : Nat) (wdN f 8 : Nat) m (Ret (plV (0))) := by
    unfold VC_denote_text_lead_0
    intro b1 m1 hm1 _ b2 m2 hm2 _ b3 m3 hm3 _ b4
    refine ⟨fun i _ _ => if i = 1 then KR a s c back else Ret (plV (0)), KR a s c back, rfl, cx_kinds a s c back m3, KR_fits, ?_⟩
    rintro g0 i0 c0 g1 i1 c1 g2 i2 c2 g3 i3 c3 g4 i4 c4 g5 i5 c5 g6 i6 c6 m5 hm5 ⟨b, hv, hrd⟩
    simp only [Value.agg.injEq, Array.mk.injEq, List.cons.injEq, Value.func.injEq, Fn.func.injEq, and_true] at hv
    obtain ⟨⟨rfl, rfl, rfl⟩, ⟨rfl, rfl, rfl⟩, ⟨rfl, rfl, rfl⟩, ⟨rfl, rfl, rfl⟩, ⟨rfl, rfl, rfl⟩, ⟨rfl, rfl, rfl⟩, ⟨rfl, rfl, rfl⟩⟩ := hv
    have hM : m.le m5 := Mem.le_trans hm1 (Mem.le_trans hm2 (Mem.le_trans hm3 hm5))
    have hcall := cx_none t f m5
    rw [T.v, hk] at hcall
    exact ⟨⟨by omega, by omega⟩, Ret (plV (0)), rfl, hcall, pl_fits, pl_k fun m6 hm6 M hM1 hM2 hM3 => ret_pure (Mem.le_trans hM hM2) rfl⟩
  have h := cx_denote_text_lead_0 a s.length c back t.s0 t.s1 t.s2 t.s3 t.mn t.mx t.a t.subs.length t.c (wdN f 0 : Nat) (wdN f 1 : Nat) (wdN f 2 : Nat) (wdN f 3 : Nat) (wdN f 4 : Nat) (wdN f 5 : Nat) (wdN f 6 : Nat) (wdN f 7 : Nat) (wdN f 8 : Nat) m _ key
  rw [T.v, hk]
  exact h
theorem cx_lead1 (t : T) (a : Option Addr) (s : List Nat) (c : Nat) (back : Bool) (f : Nat) (m : Mem) (hr : Rep m t) (hb : Byt m a s) (hs : s.length ≤ 512) (hf : f < B576) (hk : t.k = 1) : CX Try.prog 53 #[txV a s c back, t.v, plV f] m [] (Ret (plV (f))) := by
  have key : VC_denote_text_lead_1 a s.length c back t.s0 t.s1 t.s2 t.s3 t.mn t.mx t.a t.subs.length t.c (wdN f 0 : Nat) (wdN f 1 : Nat) (wdN f 2 : Nat) (wdN f 3 : Nat) (wdN f 4 : Nat) (wdN f 5 : Nat) (wdN f 6 : Nat) (wdN f 7 : Nat) (wdN f 8 : Nat) m (Ret (plV (f))) := by
    unfold VC_denote_text_lead_1
    intro b1 m1 hm1 _ b2 m2 hm2 _ b3 m3 hm3 _ b4
    refine ⟨fun i _ _ => if i = 1 then KR a s c back else Ret (plV (f)), KR a s c back, rfl, cx_kinds a s c back m3, KR_fits, ?_⟩
    rintro g0 i0 c0 g1 i1 c1 g2 i2 c2 g3 i3 c3 g4 i4 c4 g5 i5 c5 g6 i6 c6 m5 hm5 ⟨b, hv, hrd⟩
    simp only [Value.agg.injEq, Array.mk.injEq, List.cons.injEq, Value.func.injEq, Fn.func.injEq, and_true] at hv
    obtain ⟨⟨rfl, rfl, rfl⟩, ⟨rfl, rfl, rfl⟩, ⟨rfl, rfl, rfl⟩, ⟨rfl, rfl, rfl⟩, ⟨rfl, rfl, rfl⟩, ⟨rfl, rfl, rfl⟩, ⟨rfl, rfl, rfl⟩⟩ := hv
    have hM : m.le m5 := Mem.le_trans hm1 (Mem.le_trans hm2 (Mem.le_trans hm3 hm5))
    have hcall := cx_empty t f m5
    rw [T.v, hk] at hcall
    exact ⟨⟨by omega, by omega⟩, Ret (plV (f)), rfl, hcall, pl_fits, pl_k fun m6 hm6 M hM1 hM2 hM3 => ret_pure (Mem.le_trans hM hM2) rfl⟩
  have h := cx_denote_text_lead_1 a s.length c back t.s0 t.s1 t.s2 t.s3 t.mn t.mx t.a t.subs.length t.c (wdN f 0 : Nat) (wdN f 1 : Nat) (wdN f 2 : Nat) (wdN f 3 : Nat) (wdN f 4 : Nat) (wdN f 5 : Nat) (wdN f 6 : Nat) (wdN f 7 : Nat) (wdN f 8 : Nat) m _ key
  rw [T.v, hk]
  exact h
theorem cx_lead2 (t : T) (a : Option Addr) (s : List Nat) (c : Nat) (back : Bool) (f : Nat) (m : Mem) (hr : Rep m t) (hb : Byt m a s) (hs : s.length ≤ 512) (hf : f < B576) (hk : t.k = 2) : CX Try.prog 53 #[txV a s c back, t.v, plV f] m [] (Ret (plV (clsL t back f s 0 0))) := by
  have key : VC_denote_text_lead_2 a s.length c back t.s0 t.s1 t.s2 t.s3 t.mn t.mx t.a t.subs.length t.c (wdN f 0 : Nat) (wdN f 1 : Nat) (wdN f 2 : Nat) (wdN f 3 : Nat) (wdN f 4 : Nat) (wdN f 5 : Nat) (wdN f 6 : Nat) (wdN f 7 : Nat) (wdN f 8 : Nat) m (Ret (plV (clsL t back f s 0 0))) := by
    unfold VC_denote_text_lead_2
    intro b1 m1 hm1 _ b2 m2 hm2 _ b3 m3 hm3 _ b4
    refine ⟨fun i _ _ => if i = 1 then KR a s c back else Ret (plV (clsL t back f s 0 0)), KR a s c back, rfl, cx_kinds a s c back m3, KR_fits, ?_⟩
    rintro g0 i0 c0 g1 i1 c1 g2 i2 c2 g3 i3 c3 g4 i4 c4 g5 i5 c5 g6 i6 c6 m5 hm5 ⟨b, hv, hrd⟩
    simp only [Value.agg.injEq, Array.mk.injEq, List.cons.injEq, Value.func.injEq, Fn.func.injEq, and_true] at hv
    obtain ⟨⟨rfl, rfl, rfl⟩, ⟨rfl, rfl, rfl⟩, ⟨rfl, rfl, rfl⟩, ⟨rfl, rfl, rfl⟩, ⟨rfl, rfl, rfl⟩, ⟨rfl, rfl, rfl⟩, ⟨rfl, rfl, rfl⟩⟩ := hv
    have hM : m.le m5 := Mem.le_trans hm1 (Mem.le_trans hm2 (Mem.le_trans hm3 hm5))
    have hcall := cx_class t a s c back f m5 (hr.mono hM) (hb.mono hM) hs
    rw [T.v, hk] at hcall
    exact ⟨⟨by omega, by omega⟩, Ret (plV (clsL t back f s 0 0)), rfl, hcall, pl_fits, pl_k fun m6 hm6 M hM1 hM2 hM3 => ret_pure (Mem.le_trans hM hM2) rfl⟩
  have h := cx_denote_text_lead_2 a s.length c back t.s0 t.s1 t.s2 t.s3 t.mn t.mx t.a t.subs.length t.c (wdN f 0 : Nat) (wdN f 1 : Nat) (wdN f 2 : Nat) (wdN f 3 : Nat) (wdN f 4 : Nat) (wdN f 5 : Nat) (wdN f 6 : Nat) (wdN f 7 : Nat) (wdN f 8 : Nat) m _ key
  rw [T.v, hk]
  exact h
theorem cx_lead3 (t : T) (a : Option Addr) (s : List Nat) (c : Nat) (back : Bool) (f : Nat) (m : Mem) (hr : Rep m t) (hb : Byt m a s) (hs : s.length ≤ 512) (hf : f < B576) (ih : IH a s c back t) (hk : t.k = 3) : CX Try.prog 53 #[txV a s c back, t.v, plV f] m [] (Ret (plV (if back then leadB s back t.subs f else leadF s back t.subs f))) := by
  have key : VC_denote_text_lead_3 a s.length c back t.s0 t.s1 t.s2 t.s3 t.mn t.mx t.a t.subs.length t.c (wdN f 0 : Nat) (wdN f 1 : Nat) (wdN f 2 : Nat) (wdN f 3 : Nat) (wdN f 4 : Nat) (wdN f 5 : Nat) (wdN f 6 : Nat) (wdN f 7 : Nat) (wdN f 8 : Nat) m (Ret (plV (if back then leadB s back t.subs f else leadF s back t.subs f))) := by
    unfold VC_denote_text_lead_3
    intro b1 m1 hm1 _ b2 m2 hm2 _ b3 m3 hm3 _ b4
    refine ⟨fun i _ _ => if i = 1 then KR a s c back else Ret (plV (if back then leadB s back t.subs f else leadF s back t.subs f)), KR a s c back, rfl, cx_kinds a s c back m3, KR_fits, ?_⟩
    rintro g0 i0 c0 g1 i1 c1 g2 i2 c2 g3 i3 c3 g4 i4 c4 g5 i5 c5 g6 i6 c6 m5 hm5 ⟨b, hv, hrd⟩
    simp only [Value.agg.injEq, Array.mk.injEq, List.cons.injEq, Value.func.injEq, Fn.func.injEq, and_true] at hv
    obtain ⟨⟨rfl, rfl, rfl⟩, ⟨rfl, rfl, rfl⟩, ⟨rfl, rfl, rfl⟩, ⟨rfl, rfl, rfl⟩, ⟨rfl, rfl, rfl⟩, ⟨rfl, rfl, rfl⟩, ⟨rfl, rfl, rfl⟩⟩ := hv
    have hM : m.le m5 := Mem.le_trans hm1 (Mem.le_trans hm2 (Mem.le_trans hm3 hm5))
    have hcall := cx_cat t a s c back f m5 (hr.mono hM) (hb.mono hM) hs ih hf b 0 hrd
    rw [T.v, hk] at hcall
    exact ⟨⟨by omega, by omega⟩, Ret (plV (if back then leadB s back t.subs f else leadF s back t.subs f)), rfl, hcall, pl_fits, pl_k fun m6 hm6 M hM1 hM2 hM3 => ret_pure (Mem.le_trans hM hM2) rfl⟩
  have h := cx_denote_text_lead_3 a s.length c back t.s0 t.s1 t.s2 t.s3 t.mn t.mx t.a t.subs.length t.c (wdN f 0 : Nat) (wdN f 1 : Nat) (wdN f 2 : Nat) (wdN f 3 : Nat) (wdN f 4 : Nat) (wdN f 5 : Nat) (wdN f 6 : Nat) (wdN f 7 : Nat) (wdN f 8 : Nat) m _ key
  rw [T.v, hk]
  exact h
theorem cx_lead4 (t : T) (a : Option Addr) (s : List Nat) (c : Nat) (back : Bool) (f : Nat) (m : Mem) (hr : Rep m t) (hb : Byt m a s) (hs : s.length ≤ 512) (hf : f < B576) (ih : IH a s c back t) (hk : t.k = 4) : CX Try.prog 53 #[txV a s c back, t.v, plV f] m [] (Ret (plV (altL s back t.subs f 0))) := by
  have key : VC_denote_text_lead_4 a s.length c back t.s0 t.s1 t.s2 t.s3 t.mn t.mx t.a t.subs.length t.c (wdN f 0 : Nat) (wdN f 1 : Nat) (wdN f 2 : Nat) (wdN f 3 : Nat) (wdN f 4 : Nat) (wdN f 5 : Nat) (wdN f 6 : Nat) (wdN f 7 : Nat) (wdN f 8 : Nat) m (Ret (plV (altL s back t.subs f 0))) := by
    unfold VC_denote_text_lead_4
    intro b1 m1 hm1 _ b2 m2 hm2 _ b3 m3 hm3 _ b4
    refine ⟨fun i _ _ => if i = 1 then KR a s c back else Ret (plV (altL s back t.subs f 0)), KR a s c back, rfl, cx_kinds a s c back m3, KR_fits, ?_⟩
    rintro g0 i0 c0 g1 i1 c1 g2 i2 c2 g3 i3 c3 g4 i4 c4 g5 i5 c5 g6 i6 c6 m5 hm5 ⟨b, hv, hrd⟩
    simp only [Value.agg.injEq, Array.mk.injEq, List.cons.injEq, Value.func.injEq, Fn.func.injEq, and_true] at hv
    obtain ⟨⟨rfl, rfl, rfl⟩, ⟨rfl, rfl, rfl⟩, ⟨rfl, rfl, rfl⟩, ⟨rfl, rfl, rfl⟩, ⟨rfl, rfl, rfl⟩, ⟨rfl, rfl, rfl⟩, ⟨rfl, rfl, rfl⟩⟩ := hv
    have hM : m.le m5 := Mem.le_trans hm1 (Mem.le_trans hm2 (Mem.le_trans hm3 hm5))
    have hcall := cx_alt t a s c back f m5 (hr.mono hM) (hb.mono hM) hs ih hf b 0 hrd
    rw [T.v, hk] at hcall
    exact ⟨⟨by omega, by omega⟩, Ret (plV (altL s back t.subs f 0)), rfl, hcall, pl_fits, pl_k fun m6 hm6 M hM1 hM2 hM3 => ret_pure (Mem.le_trans hM hM2) rfl⟩
  have h := cx_denote_text_lead_4 a s.length c back t.s0 t.s1 t.s2 t.s3 t.mn t.mx t.a t.subs.length t.c (wdN f 0 : Nat) (wdN f 1 : Nat) (wdN f 2 : Nat) (wdN f 3 : Nat) (wdN f 4 : Nat) (wdN f 5 : Nat) (wdN f 6 : Nat) (wdN f 7 : Nat) (wdN f 8 : Nat) m _ key
  rw [T.v, hk]
  exact h
theorem cx_lead5 (t : T) (a : Option Addr) (s : List Nat) (c : Nat) (back : Bool) (f : Nat) (m : Mem) (hr : Rep m t) (hb : Byt m a s) (hs : s.length ≤ 512) (hf : f < B576) (ih : IH a s c back t) (x : T) (hx : t.subs = [x]) (hmn : 0 ≤ t.mn) (hk : t.k = 5) : CX Try.prog 53 #[txV a s c back, t.v, plV f] m [] (Ret (plV (repN (headL s back t.subs) t.mn t.mx f))) := by
  have key : VC_denote_text_lead_5 a s.length c back t.s0 t.s1 t.s2 t.s3 t.mn t.mx t.a t.subs.length t.c (wdN f 0 : Nat) (wdN f 1 : Nat) (wdN f 2 : Nat) (wdN f 3 : Nat) (wdN f 4 : Nat) (wdN f 5 : Nat) (wdN f 6 : Nat) (wdN f 7 : Nat) (wdN f 8 : Nat) m (Ret (plV (repN (headL s back t.subs) t.mn t.mx f))) := by
    unfold VC_denote_text_lead_5
    intro b1 m1 hm1 _ b2 m2 hm2 _ b3 m3 hm3 _ b4
    refine ⟨fun i _ _ => if i = 1 then KR a s c back else Ret (plV (repN (headL s back t.subs) t.mn t.mx f)), KR a s c back, rfl, cx_kinds a s c back m3, KR_fits, ?_⟩
    rintro g0 i0 c0 g1 i1 c1 g2 i2 c2 g3 i3 c3 g4 i4 c4 g5 i5 c5 g6 i6 c6 m5 hm5 ⟨b, hv, hrd⟩
    simp only [Value.agg.injEq, Array.mk.injEq, List.cons.injEq, Value.func.injEq, Fn.func.injEq, and_true] at hv
    obtain ⟨⟨rfl, rfl, rfl⟩, ⟨rfl, rfl, rfl⟩, ⟨rfl, rfl, rfl⟩, ⟨rfl, rfl, rfl⟩, ⟨rfl, rfl, rfl⟩, ⟨rfl, rfl, rfl⟩, ⟨rfl, rfl, rfl⟩⟩ := hv
    have hM : m.le m5 := Mem.le_trans hm1 (Mem.le_trans hm2 (Mem.le_trans hm3 hm5))
    have hcall := cx_repeat t a s c back f m5 (hr.mono hM) (hb.mono hM) hs ih hf x hx hmn
    rw [T.v, hk] at hcall
    exact ⟨⟨by omega, by omega⟩, Ret (plV (repN (headL s back t.subs) t.mn t.mx f)), rfl, hcall, pl_fits, pl_k fun m6 hm6 M hM1 hM2 hM3 => ret_pure (Mem.le_trans hM hM2) rfl⟩
  have h := cx_denote_text_lead_5 a s.length c back t.s0 t.s1 t.s2 t.s3 t.mn t.mx t.a t.subs.length t.c (wdN f 0 : Nat) (wdN f 1 : Nat) (wdN f 2 : Nat) (wdN f 3 : Nat) (wdN f 4 : Nat) (wdN f 5 : Nat) (wdN f 6 : Nat) (wdN f 7 : Nat) (wdN f 8 : Nat) m _ key
  rw [T.v, hk]
  exact h
theorem cx_lead6 (t : T) (a : Option Addr) (s : List Nat) (c : Nat) (back : Bool) (f : Nat) (m : Mem) (hr : Rep m t) (hb : Byt m a s) (hs : s.length ≤ 512) (hf : f < B576) (ih : IH a s c back t) (x : T) (hx : t.subs = [x]) (hk : t.k = 6) : CX Try.prog 53 #[txV a s c back, t.v, plV f] m [] (Ret (plV (headL s back t.subs f))) := by
  have key : VC_denote_text_lead_6 a s.length c back t.s0 t.s1 t.s2 t.s3 t.mn t.mx t.a t.subs.length t.c (wdN f 0 : Nat) (wdN f 1 : Nat) (wdN f 2 : Nat) (wdN f 3 : Nat) (wdN f 4 : Nat) (wdN f 5 : Nat) (wdN f 6 : Nat) (wdN f 7 : Nat) (wdN f 8 : Nat) m (Ret (plV (headL s back t.subs f))) := by
    unfold VC_denote_text_lead_6
    intro b1 m1 hm1 _ b2 m2 hm2 _ b3 m3 hm3 _ b4
    refine ⟨fun i _ _ => if i = 1 then KR a s c back else Ret (plV (headL s back t.subs f)), KR a s c back, rfl, cx_kinds a s c back m3, KR_fits, ?_⟩
    rintro g0 i0 c0 g1 i1 c1 g2 i2 c2 g3 i3 c3 g4 i4 c4 g5 i5 c5 g6 i6 c6 m5 hm5 ⟨b, hv, hrd⟩
    simp only [Value.agg.injEq, Array.mk.injEq, List.cons.injEq, Value.func.injEq, Fn.func.injEq, and_true] at hv
    obtain ⟨⟨rfl, rfl, rfl⟩, ⟨rfl, rfl, rfl⟩, ⟨rfl, rfl, rfl⟩, ⟨rfl, rfl, rfl⟩, ⟨rfl, rfl, rfl⟩, ⟨rfl, rfl, rfl⟩, ⟨rfl, rfl, rfl⟩⟩ := hv
    have hM : m.le m5 := Mem.le_trans hm1 (Mem.le_trans hm2 (Mem.le_trans hm3 hm5))
    have hcall := cx_grp t a s c back f m5 (hr.mono hM) (hb.mono hM) hs ih hf x hx b 0 hrd
    rw [T.v, hk] at hcall
    exact ⟨⟨by omega, by omega⟩, Ret (plV (headL s back t.subs f)), rfl, hcall, pl_fits, pl_k fun m6 hm6 M hM1 hM2 hM3 => ret_pure (Mem.le_trans hM hM2) rfl⟩
  have h := cx_denote_text_lead_6 a s.length c back t.s0 t.s1 t.s2 t.s3 t.mn t.mx t.a t.subs.length t.c (wdN f 0 : Nat) (wdN f 1 : Nat) (wdN f 2 : Nat) (wdN f 3 : Nat) (wdN f 4 : Nat) (wdN f 5 : Nat) (wdN f 6 : Nat) (wdN f 7 : Nat) (wdN f 8 : Nat) m _ key
  rw [T.v, hk]
  exact h
theorem cx_lead (a : Option Addr) (s : List Nat) (c : Nat) (back : Bool) (hs : s.length ≤ 512) (t : T) (hw : t.walks) (f : Nat) (m : Mem) (hf : f < B576) (hr : Rep m t) (hb : Byt m a s) : CX Try.prog 53 #[txV a s c back, t.v, plV f] m [] (Ret (plV (t.lead s back f))) := by
  have ih : t.k ≠ 0 → IH a s c back t := fun h0 x hx f m hf hr hb => by
    have hsz := sub_lt hx
    exact cx_lead a s c back hs x (walks_sub hw h0 hx) f m hf hr hb
  by_cases k0 : t.k = 0
  · rw [lead_0 k0]; exact cx_lead0 t a s c back f m hr hb hs hf k0
  have hR : t.right = true := by
    rcases hw with h | h
    · exact absurd h k0
    · exact h t (by rw [nodes_eq]; simp)
  have ih := ih k0
  by_cases k1 : t.k = 1
  · rw [lead_1 k1]; exact cx_lead1 t a s c back f m hr hb hs hf k1
  by_cases k2 : t.k = 2
  · rw [lead_2 k2]; exact cx_lead2 t a s c back f m hr hb hs hf k2
  by_cases k3 : t.k = 3
  · rw [lead_3 k3]; exact cx_lead3 t a s c back f m hr hb hs hf ih k3
  by_cases k4 : t.k = 4
  · rw [lead_4 k4]; exact cx_lead4 t a s c back f m hr hb hs hf ih k4
  unfold T.right at hR
  rw [Bool.and_eq_true] at hR
  replace hR := hR.2
  rw [if_neg k1, if_neg k2, if_neg k3, if_neg k4] at hR
  by_cases k5 : t.k = 5
  · rw [if_pos k5, Bool.and_eq_true, Bool.and_eq_true] at hR
    obtain ⟨x, hx⟩ := one_sub hR.1
    have hmn : 0 ≤ t.mn := by
      have := hR.2.1
      simp [bounds] at this
      omega
    rw [lead_5 k5]; exact cx_lead5 t a s c back f m hr hb hs hf ih x hx hmn k5
  rw [if_neg k5, Bool.and_eq_true] at hR
  have k6 : t.k = 6 := by simpa using hR.1
  obtain ⟨x, hx⟩ := one_sub hR.2
  rw [lead_6 k6]; exact cx_lead6 t a s c back f m hr hb hs hf ih x hx k6
termination_by SizeOf.sizeOf t
decreasing_by exact hsz
end Go.Proofs.Ythiefodednaikaa

