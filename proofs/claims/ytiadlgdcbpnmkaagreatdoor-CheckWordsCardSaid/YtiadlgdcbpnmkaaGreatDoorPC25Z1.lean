/- Part of the proof: conditions and contracts of functions of this program. No condition of its own. -/
import Derived.Test.YtiadlgdcbpnmkaaGreatDoorPC25L
import Derived.Test.YtiadlgdcbpnmkaaGreatDoorMr
import Derived.Test.YtiadlgdcbpnmkaaGreatDoorCards
import Derived.Test.YtiadlgdcbpnmkaaGreatDoorTie
import Derived.Test.YtiadlgdcbpnmkaaGreatDoorMc
import Derived.LaidMore
import Derived.Lay
import Derived.SevenTiedAt
import Derived.OpenShut
import Derived.ProofKit
set_option linter.unusedVariables false
set_option linter.unusedSimpArgs false
namespace Go.Proofs.YtiadlgdcbpnmkaaGreatDoor
open Go Go.Eng Go.Rx Go.Proofs Go.RowKit
set_option maxRecDepth 100000
def probs (s : Sc) (l : List Pl) : List (Pl × Int) := l.filterMap fun p => if atS s p = 0 then none else some (p, atS s p)
theorem problems_eq (s : Sc) : s.problems = probs s s.places := rfl
def probV (z : Pl × Int) : Value := .agg #[.int .i64 z.1.v, .int .i64 z.1.s, .int .i64 z.1.r, .int .i64 z.1.a, .int .i64 z.1.p, .int .i64 z.2]
theorem cx_problems (s : Sc) (m : Mem) : CX Tryz.prog 23 #[s.v] m [] (fun v m' _ => ∃ b, v = .func (.func 36) #[] #[.pointer (some ⟨b, 0, none⟩)] ∧ m'.reads b 0 s.cs) := by
 apply cx_check_problems
 unfold VC_check_problems
 intro b m' hm hb
 exact ⟨m', hm, Mem.le_refl _, b, rfl, hb⟩
theorem ix_problems1 (s : Sc) (m : Mem) (c0b : Nat) (hr : RepC m s) (ho : Sc.oneName s) (hb : m.reads c0b 0 s.cs) : IX Tryz.prog 36 [] [.pointer (some ⟨c0b, 0, none⟩)] m (s.problems.map fun z => [probV z]) := by
 apply ix_check_problems_1 0 [] [] c0b 0
 unfold VC_check_problems_1
 intro l
 refine ⟨_, _, _, hb, call_any (cx_totals s m hr) tot_fits ?_⟩
 rintro a n c m1 hm1 ⟨a', c', vs, hv, hT⟩
 simp only [Value.slice.injEq] at hv
 obtain ⟨rfl, rfl, rfl⟩ := hv
 refine ⟨_, _, _, hb.mono hm1, call_any (cx_Places s m1 (hr.mono hm1)) places_fits ?_⟩
 rintro a3 n1 c1 m2 hm2 ⟨a', c', hv, hrow⟩
 simp only [Value.slice.injEq] at hv
 obtain ⟨rfl, rfl, rfl⟩ := hv
 have hpl := places_len s
 have h02 := mLt hm1 hm2
 refine ⟨fun xs _ _ m' q => ∃ i : Nat, i ≤ s.places.length ∧ xs = [.int .i64 ((probs s (s.places.take i)).length : Nat), .int .i64 i] ∧ q = s.places.length - i, ⟨s.places.length, 0, by omega, rfl, rfl⟩, ?_⟩
 rintro y n2 m3 q hm3 ⟨i, hi, hx, rfl⟩
 simp only [List.cons.injEq, Value.int.injEq, and_true, true_and] at hx
 obtain ⟨rfl, rfl⟩ := hx
 have h03 := mLt h02 hm3
 have hw : i ≤ 20001 → IntKind.i64.wrap ((i : Int) + 1) = ((i + 1 : Nat) : Int) := fun hi => by rw [wrap64 (by omega) (by omega)]; rfl
 have hw := hw (by omega)
 refine br_dec (fun hlt => ?_) (fun hge => ?_)
 ·have hlt : (i : Int) < (s.places.length : Int) := hlt
  obtain ⟨p, hp⟩ := at_lt (show i < s.places.length by omega)
  have hstep : probs s (s.places.take (i + 1)) = probs s (s.places.take i) ++ (if atS s p = 0 then [] else [(p, atS s p)]) := by
   unfold probs
   rw [List.take_add_one, hp, List.filterMap_append]
   congr 1
   by_cases h : atS s p = 0
   ·simp [h]
   ·simp [h]
  obtain ⟨b1, o1, ha, hx1⟩ := rows_get (cs := Pl.cs) (n := 5) (fun _ => rfl) (hrow.mono hm3) hp (by omega)
  refine ⟨b1, o1, ha, ⟨by omega, hlt⟩, _, _, _, _, _, hx1, fun b2 => chk_intro rfl ⟨_, _, _, hb.mono h03, ?_⟩⟩
  refine call_int (cx_at s a c vs p m3 (hr.mono h03) ho (hT.mono (mLt hm2 hm3)) (places_ok s p (List.mem_of_getElem? hp))) fun m4 hm4 => br_intro (fun h => ?_) (fun h => ?_)
  ·have h : ¬ atS s p = 0 := by
    intro e; rw [e] at h; simp at h
   rw [if_neg h] at hstep
   refine ⟨⟨rfl, Int.natCast_nonneg _, ?_⟩, ⟨s.places.length - (i + 1), by omega, i + 1, by omega, ?_, rfl⟩, .inr rfl⟩
   ·rw [Int.toNat_natCast]
    show (List.map (fun z => [probV z]) s.problems)[(probs s (s.places.take i)).length]? = some [probV (p, atS s p)]
    rw [List.getElem?_map]
    have : s.problems[(probs s (s.places.take i)).length]? = some (p, atS s p) := by
     have e : s.problems = probs s (s.places.take (i + 1)) ++ probs s (s.places.drop (i + 1)) := by
      rw [problems_eq]; unfold probs; rw [← List.filterMap_append, List.take_append_drop]
     rw [e, hstep, List.append_assoc, List.getElem?_append_right (Nat.le_refl _)]
     simp
    rw [this]; rfl
   ·rw [hw, hstep, List.length_append]; rfl
  ·have h : atS s p = 0 := by simpa using h
   rw [if_pos h, List.append_nil] at hstep
   exact ⟨s.places.length - (i + 1), by omega, i + 1, by omega, by rw [hw, hstep], rfl⟩
 ·have hge : ¬ (i : Int) < (s.places.length : Int) := hge
  obtain rfl : i = s.places.length := by omega
  left
  rw [List.take_length, ← problems_eq, List.length_map]
def CheckV (z : Pl × Int) : Value := .tuple #[.agg z.1.cs.toArray, .int .i64 z.2]
theorem cx_sCheck (s : Sc) (m : Mem) (hr : RepC m s) (ho : Sc.oneName s) : CX Tryz.prog 13 #[s.v] m [] (Ret (CheckV s.check)) := by
 apply cx_check_Check
 unfold VC_check_Check
 intro b m1 hm1 _ b1 b2 b3
 refine call_bool (cx_aLight s m1 (hr.mono hm1)) fun m2 hm2 => br_intro (fun hl => ret_pure (mLt hm1 hm2) ?_) (fun hl => ?_)
 ·have hl : s.light = false := by simpa using hl
  show _ = CheckV s.check
  unfold Sc.check; rw [hl]; rfl
 have hl : s.light = true := by simpa using hl
 refine call_any (cx_problems s m2) (fun v m' css h => by obtain ⟨_, rfl, _⟩ := h; rfl) ?_
 rintro g fi ca m3 hm3 ⟨b4, hv, hb4⟩
 obtain ⟨rfl, rfl, rfl⟩ := func_inj hv
 have hle := mLt hm1 (mLt hm2 hm3)
 refine ⟨_, ix_problems1 s m3 b4 (hr.mono hle) ho hb4, fun y hy => ?_, fun _ _ _ m' q => q = 0, rfl, ?_, ?_⟩
 ·obtain ⟨z, _, rfl⟩ := List.mem_map.1 hy; rfl
 ·rintro n n1 n2 n3 n4 n5 cs cs1 m4 q hm4 hq rfl b5
  have hq : (List.map (fun z => [probV z]) s.problems)[0]? = some [Value.agg #[.int .i64 n, .int .i64 n1, .int .i64 n2, .int .i64 n3, .int .i64 n4, .int .i64 n5]] := hq
  rw [List.getElem?_map] at hq
  obtain ⟨z, hz, hzv⟩ := Option.map_eq_some_iff.1 hq
  refine ⟨rfl, ret_pure (mLt hle hm4) ?_⟩
  have hz' : s.check = z := by
   unfold Sc.check; rw [hl, if_pos rfl]
   cases hs : s.problems with
   | nil => rw [hs] at hz; simp at hz
   | cons x l => rw [hs] at hz; simpa using hz
  show _ = CheckV s.check
  rw [hz']
  simp only [probV, List.cons.injEq, Value.agg.injEq, Array.mk.injEq, Value.int.injEq, true_and, and_true] at hzv
  obtain ⟨rfl, rfl, rfl, rfl, rfl, rfl⟩ := hzv
  rfl
 ·rintro cs cs1 m4 hm4 hq
  refine ret_pure (mLt hle hm4) ?_
  have hs : s.problems = [] := by
   have hq : (List.map (fun z => [probV z]) s.problems).length = 0 := hq
   rw [List.length_map] at hq
   exact List.eq_nil_of_length_eq_zero hq
  show _ = CheckV s.check
  unfold Sc.check; rw [hl, if_pos rfl, hs]; rfl
theorem cx_sRight (s : Sc) (m : Mem) (hr : RepC m s) (ho : Sc.oneName s) : CX Tryz.prog 14 #[s.v] m [] (Ret (.bool (s.check.2 == 0))) := by
 apply cx_check_Right
 unfold VC_check_Right
 intro b m1 hm1 _
 refine call_any (cx_sCheck s m1 (hr.mono hm1) ho) (fun v _ _ e => by rw [show v = _ from e]; rfl) ?_
 intro n n1 n2 n3 n4 n5 m2 hm2 hv
 have hv : Value.tuple #[.agg #[.int .i64 n, .int .i64 n1, .int .i64 n2, .int .i64 n3, .int .i64 n4], .int .i64 n5] = CheckV s.check := hv
 simp only [CheckV, Value.tuple.injEq, Array.mk.injEq, List.cons.injEq, Value.int.injEq, true_and, and_true] at hv
 intro b2
 refine ret_pure (mLt hm1 hm2) ?_
 show Value.bool _ = Value.bool _
 rw [hv.2]
end Go.Proofs.YtiadlgdcbpnmkaaGreatDoor
set_option linter.unusedVariables false
set_option linter.unusedSimpArgs false
namespace Go.Proofs.YtiadlgdcbpnmkaaGreatDoor
open Go Go.Eng Go.Rx Go.Proofs Go.RowKit
set_option maxRecDepth 100000
def words10 : List ByteArray := [⟨#[98, 117, 102, 102, 101, 114]⟩, ⟨#[118, 97, 114, 105, 97, 98, 108, 101]⟩, ⟨#[115, 116, 97, 116, 101, 115]⟩, ⟨#[115, 116, 97, 116, 101]⟩, ⟨#[114, 117, 108, 101]⟩, ⟨#[114, 101, 103, 101, 120]⟩, ⟨#[101, 110, 100]⟩, ⟨#[97, 99, 116, 105, 111, 110]⟩, ⟨#[110, 97, 109, 101]⟩, ⟨#[99, 97, 112, 116, 117, 114, 101]⟩]
def wordS (e : Int) : ByteArray := if e = 5 then ⟨#[108, 111, 110, 103]⟩ else if e ≥ 300 ∧ e ≤ 309 then words10.getD (e - 300).toNat ⟨#[]⟩ else ⟨#[]⟩
theorem cx_Word (e : Int) (m : Mem) : CX Tryz.prog 15 #[.int .i64 e] m [] (Ret (.string (wordS e))) := by
 apply cx_check_Word
 unfold VC_check_Word
 intro b hf
 have hle := Mem.le_add hf (words10.map Value.string)
 refine br_intro (fun h => ret_pure hle ?_) (fun h => ?_)
 ·have h : e = 5 := by simpa using h
  show Value.string _ = Value.string _
  unfold wordS; rw [if_pos h]
 have h : ¬ e = 5 := by simpa using h
 by_cases h1 : e ≥ 300
 ·by_cases h2 : e ≤ 309
  ·refine ⟨true, br_t (decide_eq_true h1) ⟨by trivial, one_bool (decide_eq_true h2)⟩, br_t rfl ?_⟩
   have hw : IntKind.i64.wrap (e - 300) = e - 300 := wrap64 (by omega) (by omega)
   rw [hw]
   obtain ⟨w, hw'⟩ := at_lt (show (e - 300).toNat < words10.length by show (e - 300).toNat < 10; omega)
   refine ⟨⟨by omega, by omega⟩, look_intro (v := .string w) ?_ (ret_pure hle ?_)⟩
   ·show (words10.map Value.string)[(e - 300).toNat * 1]? = _
    rw [Nat.mul_one, List.getElem?_map, hw']; rfl
   ·show Value.string _ = Value.string _
    unfold wordS; rw [if_neg h, if_pos ⟨h1, h2⟩, List.getD_eq_getElem?_getD, hw']; rfl
  ·refine ⟨false, br_t (decide_eq_true h1) ⟨by trivial, one_bool (decide_eq_false h2)⟩, br_f rfl (ret_pure hle ?_)⟩
   show Value.string _ = Value.string _
   unfold wordS; rw [if_neg h, if_neg (by omega)]
 ·refine ⟨false, br_f (decide_eq_false h1) ⟨by trivial, rfl⟩, br_f rfl (ret_pure hle ?_)⟩
  show Value.string _ = Value.string _
  unfold wordS; rw [if_neg h, if_neg (by omega)]
theorem cx_words (e : Int) (m : Mem) : CX Tryz.prog 5 #[.int .i64 e] m [] (Ret (.bool true)) := by
 apply cx_law30_words
 unfold VC_law30_words
 have W : ∀ (x : ByteArray), (wordS e).toList = x.toList → ∃ R : RT, True ∧ CX Tryz.prog 15 #[.int .i64 e] m [] R ∧ Fits .str R ∧ ∀ (s : ByteArray) (m1 : Mem), m.le m1 → R (.string s) m1 [] → ∃ m'' : Mem, m.le m'' ∧ m''.le m1 ∧ Ret (.bool true) (.bool (s.toList == x.toList)) m'' [] := fun x h => call_any (cx_Word e m) (fun v _ _ e => by rw [show v = _ from e]; rfl) fun s m1 hm1 hs => ret_pure hm1 (by
  have hs : s = wordS e := by simpa [Ret] using hs
  show Value.bool _ = Value.bool true
  rw [hs, h]; simp)
 have K : ∀ {k : Int} {x : ByteArray}, (e == k) = true → (wordS k).toList = x.toList → (wordS e).toList = x.toList := fun {k x} h hx => by rw [show e = k by simpa using h]; exact hx
 refine br_intro (fun h => W _ (K h rfl)) (fun h0 => br_intro (fun h => W _ (K h rfl)) (fun h1 => br_intro (fun h => W _ (K h rfl)) (fun h2 => br_intro (fun h => W _ (K h rfl)) (fun h3 => br_intro (fun h => W _ (K h rfl)) (fun h4 => br_intro (fun h => W _ (K h rfl)) (fun h5 => br_intro (fun h => W _ (K h rfl)) (fun h6 => br_intro (fun h => W _ (K h rfl)) (fun h7 => br_intro (fun h => W _ (K h rfl)) (fun h8 => br_intro (fun h => W _ (K h rfl)) (fun h9 => br_intro (fun h => W _ (K h rfl)) (fun h10 => W _ ?_)))))))))))
 have n0 : ¬ e = 5 := by simpa using h0
 have n1 : ¬ e = 300 := by simpa using h1
 have n2 : ¬ e = 301 := by simpa using h2
 have n3 : ¬ e = 302 := by simpa using h3
 have n4 : ¬ e = 303 := by simpa using h4
 have n5 : ¬ e = 304 := by simpa using h5
 have n6 : ¬ e = 305 := by simpa using h6
 have n7 : ¬ e = 306 := by simpa using h7
 have n8 : ¬ e = 307 := by simpa using h8
 have n9 : ¬ e = 308 := by simpa using h9
 have n10 : ¬ e = 309 := by simpa using h10
 unfold wordS; rw [if_neg n0, if_neg (by omega)]
theorem rep_clsX (m : Mem) : Rep m clsX := by simp only [clsX, Rep]; exact ⟨by simp, .inl trivial, by constructor <;> decide⟩
theorem rep_clsY (m : Mem) : Rep m clsY := by simp only [clsY, Rep]; exact ⟨by simp, .inl trivial, by constructor <;> decide⟩
theorem cx_clsX (m : Mem) : CX Tryz.prog 29 #[.int .u8 120] m [] (Ret clsX.v) := by
 apply cx_law30_class
 unfold VC_law30_class
 intro b b1
 exact ⟨by decide, by decide, by decide, ⟨by decide, by decide⟩, chk_intro (by kernel_rfl) (chk_intro (by kernel_rfl) (ret_pure (Mem.le_refl m) (by show _ = clsX.v; kernel_rfl)))⟩
theorem cx_clsY (m : Mem) : CX Tryz.prog 29 #[.int .u8 121] m [] (Ret clsY.v) := by
 apply cx_law30_class
 unfold VC_law30_class
 intro b b1
 exact ⟨by decide, by decide, by decide, ⟨by decide, by decide⟩, chk_intro (by kernel_rfl) (chk_intro (by kernel_rfl) (ret_pure (Mem.le_refl m) (by show _ = clsY.v; kernel_rfl)))⟩
def RegexR : Value → Mem → List (List Value) → Prop := fun v m' _ => ∃ a1 a2, v = rgxV false false (rxT a1 a2) ∧ Rep m' (rxT a1 a2)
theorem regex_fits : ∀ (v : Value) (m' : Mem) (css : List (List Value)), RegexR v m' css → Shape.fits (.agg [.bool, .bool, .int .u8, .int .u64, .int .u64, .int .u64, .int .u64, .int .i64, .int .i64, .slice]) v = true := fun v _ _ ⟨_, _, e, _⟩ => by rw [e]; rfl
theorem cx_regex (m : Mem) : CX Tryz.prog 18 #[] m [] RegexR := by
 apply cx_law30_regex
 unfold VC_law30_regex
 intro b
 refine call_any (cx_clsX m) (fun v _ _ e => by rw [show v = _ from e]; rfl) ?_
 intro n n1 n2 n3 n4 n5 n6 a n7 c m1 hm1 hv
 simp only [Ret, clsX, T.v, T.k, T.s0, T.s1, T.s2, T.s3, T.mn, T.mx, T.a, T.c, T.subs, Value.agg.injEq, Array.mk.injEq, List.cons.injEq, Value.int.injEq, Value.slice.injEq, true_and, and_true, List.length_nil] at hv
 obtain ⟨rfl, rfl, rfl, rfl, rfl, rfl, rfl, rfl, rfl, rfl⟩ := hv
 intro b1 hf1
 have hl1 : m1.le (m1.add b1 clsX.cs) := Mem.le_add hf1 _
 refine call_any (cx_clsY _) (fun v _ _ e => by rw [show v = _ from e]; rfl) ?_
 intro n n1 n2 n3 n4 n5 n6 a n7 c m2 hm2 hv
 simp only [Ret, clsY, T.v, T.k, T.s0, T.s1, T.s2, T.s3, T.mn, T.mx, T.a, T.c, T.subs, Value.agg.injEq, Array.mk.injEq, List.cons.injEq, Value.int.injEq, Value.slice.injEq, true_and, and_true, List.length_nil] at hv
 obtain ⟨rfl, rfl, rfl, rfl, rfl, rfl, rfl, rfl, rfl, rfl⟩ := hv
 intro b2 hf2
 have hg : Rep m2 (nodeT 6 0 0 (some ⟨b1, 0, none⟩) 1 [clsX]) := rep_node_mk (repL_one ((reads_new m1 b1 clsX.cs).mono hm2) (rep_clsX m2)) (by omega) (by omega) (by omega)
 have hl2 := Mem.le_add hf2 ((nodeT 6 0 0 (some ⟨b1, 0, none⟩) 1 [clsX]).cs ++ clsY.cs)
 refine ⟨_, mLt hm1 (mLt hl1 (mLt hm2 hl2)), Mem.le_refl _, some ⟨b1, 0, none⟩, some ⟨b2, 0, none⟩, rfl, ?_⟩
 have hR := reads_new m2 b2 ((nodeT 6 0 0 (some ⟨b1, 0, none⟩) 1 [clsX]).cs ++ clsY.cs)
 refine rep_node_mk (k := 3) (l := [nodeT 6 0 0 (some ⟨b1, 0, none⟩) 1 [clsX], clsY]) ⟨by simp, .inr ⟨b2, 0, rfl, ?_⟩⟩ (by omega) (by omega) (by omega)
 simp only [RepAt]
 exact ⟨reads_sub hR 0 8, hg.mono hl2, reads_sub hR 8 8, rep_clsY _, trivial⟩
def OneR (P : Ru → Prop) : Value → Mem → List (List Value) → Prop := fun v m' _ => ∃ va sa ra r, P r ∧ v = (oneS va sa ra r).v ∧ RepC m' (oneS va sa ra r)
theorem one_fits {P} : ∀ (v : Value) (m' : Mem) (css : List (List Value)), OneR P v m' css → Shape.fits (.agg [.int .i64, .slice, .slice]) v = true := fun v _ _ ⟨_, _, _, _, _, e, _⟩ => by rw [e]; rfl
theorem cx_one {P : Ru → Prop} (r : Ru) (hP : P r) (m : Mem) (hr : RepR m r) : CX Tryz.prog 17 #[.agg r.cs.toArray] m [] (OneR P) := by
 apply cx_law30_one
 unfold VC_law30_one
 intro b m1 hm1 _ b0 b1 hf1 b2 hf2 b3 hf3
 have l1 : m1.le _ := Mem.le_add hf1 (vars2.map Va.cs).flatten
 have l2 := Mem.le_add hf2 r.cs
 have l3 := Mem.le_add hf3 [.string ⟨#[97]⟩, .slice (some ⟨b2, 0, none⟩) 1 1]
 have r1 := reads_new m1 b1 (vars2.map Va.cs).flatten
 have r2 := reads_new (m1.add b1 (vars2.map Va.cs).flatten) b2 r.cs
 have r3 := reads_new ((m1.add b1 (vars2.map Va.cs).flatten).add b2 r.cs) b3 [.string ⟨#[97]⟩, .slice (some ⟨b2, 0, none⟩) 1 1]
 refine ⟨_, mLt hm1 (mLt l1 (mLt l2 l3)), Mem.le_refl _, some ⟨b1, 0, none⟩, some ⟨b3, 0, none⟩, some ⟨b2, 0, none⟩, r, hP, rfl, ?_⟩
 refine ⟨by show (-9223372036854775808 : Int) ≤ 9 ∧ (9 : Int) ≤ 9223372036854775807; decide, by show 2 ≤ few; decide, .inr ⟨b1, 0, rfl, r1.mono (mLt l2 l3)⟩, fun v hv => ?_, by show 1 ≤ few; decide, .inr ⟨b3, 0, rfl, r3⟩, fun x hx => ?_, Nat.le_refl 2, Nat.le_refl 1⟩
 ·simp only [oneS, vars2, List.mem_cons, List.not_mem_nil, or_false] at hv
  rcases hv with rfl | rfl <;> exact ⟨by decide, by decide⟩
 ·simp only [oneS, List.mem_cons, List.not_mem_nil, or_false] at hx
  subst hx
  refine ⟨by show ByteArray.size ⟨#[97]⟩ ≤ _; decide, by show 1 ≤ few; decide, .inr ⟨b2, 0, rfl, ?_⟩, fun z hz => ?_⟩
  ·have : (List.map Ru.cs [r]).flatten = r.cs := by simp
   rw [this]; exact r2.mono l3
  ·simp only [List.mem_cons, List.not_mem_nil, or_false] at hz
   subst hz
   exact hr.mono (mLt hm1 (mLt l1 (mLt l2 l3)))
def SendR (l : List Int) : Value → Mem → List (List Value) → Prop := fun v m' _ => ∃ pa pc b, v = .slice (some ⟨b, 0, none⟩) 1 1 ∧ m'.reads b 0 (sendA pa pc l).cs ∧ RepA m' (sendA pa pc l)
theorem send_fits {l} : ∀ (v : Value) (m' : Mem) (css : List (List Value)), SendR l v m' css → Shape.fits .slice v = true := fun v _ _ ⟨_, _, _, e, _⟩ => by rw [e]; rfl
theorem repP_cap (n : Int) (hn : I64 n) (m : Mem) : RepP m (capP n) := ⟨by show (0 : Int) ≤ 3 ∧ (3 : Int) < 256; decide, by show ByteArray.size ⟨#[]⟩ ≤ _; decide, hn, repE0 m⟩
theorem cx_send (l : List Int) (a : Option Addr) (c : Nat) (m : Mem) (hl : l.length ≤ 2) (hn : ∀ n ∈ l, I64 n) (hrow : rowRd m a (l.map (Value.int .i64))) : CX Tryz.prog 19 #[.slice a l.length c] m [] (SendR l) := by
 apply cx_law30_send
 unfold VC_law30_send
 intro b
 refine ⟨fun xs css tks m' q => ∃ (i : Nat) (pa : Option Addr) (pc : Nat), i ≤ l.length ∧ xs = [.int .i64 i] ∧ css = [[.int .u8 1, .string ⟨#[]⟩, .slice pa i pc, .int .u8 0, .float .f64 0, .string ⟨#[]⟩, .int .i64 0, .slice none 0 0]] ∧ tks = [.slice pa i pc] ∧ rowRd m' pa (((l.take i).map capP).map Pt.cs).flatten ∧ q = l.length - i,
  ⟨l.length, 0, none, 0, by omega, rfl, rfl, rfl, .inl rfl, rfl⟩, ?_⟩
 rintro n cs a1 n1 c1 m1 q hm1 ⟨i, pa, pc, hi, hx, hcs, ht, hr, rfl⟩
 simp only [List.cons.injEq, Value.int.injEq, and_true, true_and] at hx
 subst hx
 obtain rfl : cs = _ := by simpa using hcs
 obtain ⟨rfl, rfl, rfl⟩ : a1 = pa ∧ n1 = i ∧ c1 = pc := by simpa using ht
 refine br_dec (fun hlt => ?_) (fun hge => ?_)
 ·have hlt : (n1 : Int) < (l.length : Int) := hlt
  obtain ⟨n, hnk⟩ := at_lt (show n1 < l.length by omega)
  obtain ⟨b2, o2, ha, hc⟩ := row1 (hrow.mono hm1) (show (l.map (Value.int .i64))[n1]? = some (.int .i64 n) by rw [List.getElem?_map, hnk]; rfl)
  refine ⟨b2, o2, ha, ⟨by omega, hlt⟩, _, hc, look_intro (v := .slice a1 n1 c1) rfl (chk_intro rfl (chk_intro rfl fun b3 hf3 => chk_intro rfl ?_))⟩
  have hle : m1.le (m1.add b3 (capP n).cs) := Mem.le_add hf3 _
  have hlen : (((l.take n1).map capP).map Pt.cs).flatten.length = n1 * 8 := by
   have : ∀ L : List Int, ((L.map capP).map Pt.cs).flatten.length = L.length * 8 := fun L => by
    induction L with
    | nil => rfl
    | cons x L ih => rw [List.map_cons, List.map_cons, List.flatten_cons, List.length_append, ih, List.length_cons, Nat.succ_mul]; show 8 + _ = _; omega
   rw [this, List.length_take, Nat.min_eq_left (by omega)]
  refine ⟨.inl rfl, (((l.take n1).map capP).map Pt.cs).flatten, (capP n).cs, hlen, rfl, hr.mono hle, .inr ⟨b3, 0, rfl, reads_new m1 b3 _⟩, ?_, by show (n1 + 1) * 96 ≤ _; omega, by show n1 + 1 ≤ _; omega, fun a' c' m2 hm2 hr2 => chk_intro rfl ⟨rfl, l.length - (n1 + 1), by omega, n1 + 1, a', c', by omega, ?_, rfl, rfl, ?_, rfl⟩⟩
  ·intro u hu
   simp only [capP, Pt.cs, List.mem_cons, List.not_mem_nil, or_false] at hu
   rcases hu with rfl | rfl | rfl | rfl | rfl | rfl | rfl | rfl <;> rfl
  ·rw [wrap64 (by omega) (by omega)]; rfl
  ·rw [List.take_add_one, hnk, List.map_append, List.map_append, List.flatten_append]
   have : (List.map Pt.cs (List.map capP (some n).toList)).flatten = (capP n).cs := by simp
   rw [this]; exact hr2
 ·have hge : ¬ (n1 : Int) < (l.length : Int) := hge
  obtain rfl : n1 = l.length := by omega
  refine chk_intro rfl fun b2 hf2 => ?_
  have hle : m1.le (m1.add b2 (sendA a1 c1 l).cs) := Mem.le_add hf2 _
  have hml : (l.map capP).length = l.length := List.length_map _
  have hcs : (sendA a1 c1 l).cs = [.int .u8 1, .string ⟨#[]⟩, .slice a1 l.length c1, .int .u8 0, .float .f64 0, .string ⟨#[]⟩, .int .i64 0, .slice none 0 0] := by
   show [Value.int .u8 1, .string ⟨#[]⟩, .slice a1 (l.map capP).length c1, .int .u8 0, .float .f64 0, .string .empty, .int .i64 0, .slice none 0 0] = _
   rw [hml]; rfl
  rw [hcs] at hle
  refine ⟨_, mLt hm1 hle, Mem.le_refl _, a1, c1, b2, rfl, ?_, ?_⟩
  ·rw [hcs]; exact reads_new m1 b2 _
  ·rw [List.take_length] at hr
   refine ⟨by show (0 : Int) ≤ 1 ∧ (1 : Int) < 256; decide, by show ByteArray.size ⟨#[]⟩ ≤ _; decide, ?_, hr.mono hle, fun p hp => ?_, repE0 _⟩
   ·show (l.map capP).length ≤ few
    rw [hml]; unfold few; omega
   ·obtain ⟨n, hn', rfl⟩ := List.mem_map.1 hp
    exact repP_cap n (hn n hn') _
theorem cx_place (p0 p1 p2 p3 : Int) (m : Mem) : CX Tryz.prog 16 #[.int .i64 p0, .int .i64 p1, .int .i64 p2, .int .i64 p3] m [] (Ret (.agg #[.int .i64 (-1), .int .i64 p0, .int .i64 p1, .int .i64 p2, .int .i64 p3])) := by
 apply cx_law30_awake_1
 unfold VC_law30_awake_1
 exact fun b => ret_pure (Mem.le_refl m) rfl
end Go.Proofs.YtiadlgdcbpnmkaaGreatDoor
set_option linter.unusedVariables false
set_option linter.unusedSimpArgs false
namespace Go.Proofs.YtiadlgdcbpnmkaaGreatDoor
open Go Go.Eng Go.Rx Go.Proofs Go.RowKit
set_option maxRecDepth 100000
theorem eq_place (a b c d e a' b' c' d' e' : Int) : EqIs Tryz.prog 34 (.agg #[.int .i64 a, .int .i64 b, .int .i64 c, .int .i64 d, .int .i64 e]) (.agg #[.int .i64 a', .int .i64 b', .int .i64 c', .int .i64 d', .int .i64 e']) (a == a' && b == b' && c == c' && d == d' && e == e') := by
 refine ⟨fun w => ?_, fun op ox oy w => eqGuard_free (by kernel_rfl) op ox oy _ _ w⟩
 have u3 := Tryz.underlying3
 have a3 := Tryz.isAgg3
 have z3 := Tryz.sizeOf3
 rw [Op.equal, Op.maxDepth, show (10000 : Nat) = 9999 + 1 from rfl]
 rw [run_equalIn_agg _ _ _ _ _ (by kernel_rfl) (by kernel_rfl)]
 have hf : (Tryz.prog.fieldsOf 34).toList = [⟨ "Var", 3, 0, false, "", "", 0⟩, ⟨ "State", 3, 1, false, "", "", 8⟩, ⟨ "Rule", 3, 2, false, "", "", 16⟩, ⟨ "Action", 3, 3, false, "", "", 24⟩, ⟨ "Part", 3, 4, false, "", "", 32⟩] := by kernel_rfl
 rw [hf]
 go_simp
 by_cases h1 : a = a' <;> by_cases h2 : b = b' <;> by_cases h3 : c = c' <;> by_cases h4 : d = d' <;> by_cases h5 : e = e' <;> simp [h1, h2, h3, h4, h5]
theorem eq_pl (p : Pl) : EqIs Tryz.prog 34 (.agg p.cs.toArray) (.agg p.cs.toArray) true := by
 have h := eq_place p.v p.s p.r p.a p.p p.v p.s p.r p.a p.p
 simp only [beq_self_eq_true, Bool.and_self] at h
 exact h
structure Item where
 s : Sc
 p : Pl
 e : Int
def Item.cs (it : Item) : List Value := it.s.cs ++ (it.p.cs ++ [.int .i64 it.e])
structure ItemOk (m : Mem) (it : Item) : Prop where
 rep : RepC m it.s
 one : Sc.oneName it.s
 eq : it.s.check = (it.p, it.e)
theorem items_at {l : List Item} {i : Nat} {it : Item} (h : l[i]? = some it) : List.take 9 (List.drop (i * 9) (l.map Item.cs).flatten) = it.cs := by
 induction l generalizing i with
 | nil => simp at h
 | cons x l ih =>
  cases i with
  | zero =>
   obtain rfl : x = it := by simpa using h
   simp only [Nat.zero_mul, List.drop_zero, List.map_cons, List.flatten_cons]
   exact List.take_left' rfl
  | succ i =>
   have h : l[i]? = some it := by simpa using h
   rw [← ih h, List.map_cons, List.flatten_cons, show (i + 1) * 9 = x.cs.length + i * 9 by show _ = 9 + i * 9; omega, ← List.drop_drop]
   rw [List.drop_left]
theorem oneN_one (va sa ra : Option Addr) (r : Ru) (h : ∀ a ∈ r.acts, (a.k = 3 → a.e.vars.length ≤ 1) ∧ ∀ p ∈ a.parts, p.k = 4 → p.e.vars.length ≤ 1) : Sc.oneName (oneS va sa ra r) := by
 intro x hx r' hr a ha
 simp only [oneS, List.mem_cons, List.not_mem_nil, or_false] at hx
 subst hx
 simp only [List.mem_cons, List.not_mem_nil, or_false] at hr
 subst hr
 exact h a ha
theorem send_one (pa : Option Addr) (pc : Nat) (l : List Int) : ((sendA pa pc l).k = 3 → (sendA pa pc l).e.vars.length ≤ 1) ∧ ∀ p ∈ (sendA pa pc l).parts, p.k = 4 → p.e.vars.length ≤ 1 :=
 ⟨fun h => absurd h (by show ¬ (1 : Int) = 3; decide), fun p hp h => by
  obtain ⟨n, _, rfl⟩ := List.mem_map.1 hp
  exact absurd h (by show ¬ (3 : Int) = 4; decide)⟩
theorem in_one {α : Type} {x y : α} (h : x ∈ [y]) : x = y := by simpa using h
theorem rowOf {cs : List Value} {m : Mem} {b : Nat} (h : m.reads b 0 cs) : rowRd m (some ⟨b, 0, none⟩) ([cs]).flatten := .inr ⟨b, 0, rfl, by simpa using h⟩
theorem i64_small {n : Int} (h : 0 ≤ n ∧ n ≤ 1000) : I64 n := by unfold I64; omega
theorem repR_of {m : Mem} {k : Int} {t : T} {s go : ByteArray} {code : Int} {b : Nat} {a : Ac} (hk : 0 ≤ k ∧ k < 256) (ht : Rep m t) (hs : s.size ≤ 1000000000000000) (hb : m.reads b 0 a.cs) (ha : RepA m a) (hg : go.size ≤ 1000000000000000) (hc : 0 ≤ code ∧ code ≤ 1000) : RepR m ⟨k, false, false, t, s, 0, some ⟨b, 0, none⟩, 1, [a], go, code⟩ :=
 ⟨hk, ht, hs, i64_small (n := 0) (by decide), by show 1 ≤ few; decide, rowOf hb, fun x hx => by rw [in_one hx]; exact ha, hg, i64_small hc⟩
theorem repR_0 (k : Int) (hk : 0 ≤ k ∧ k < 256) (m : Mem) : RepR m (ru0 k) := ⟨hk, rep_T0 m, by show ByteArray.size ⟨#[]⟩ ≤ _; decide, i64_small (n := 0) (by decide), by show 0 ≤ few; decide, .inl rfl, fun x hx => by simp [ru0] at hx, by show ByteArray.size ⟨#[]⟩ ≤ _; decide, i64_small (n := 0) (by decide)⟩
def isRx (l : List Int) (r : Ru) : Prop := ∃ a1 a2 aa pa pc, r = ruRx a1 a2 aa pa 1 pc l
def isEx (r : Ru) : Prop := ∃ aa pa pc, r = ruEx aa pa 1 pc [0]
def isTm (r : Ru) : Prop := r = ru0 4
def isLet (r : Ru) : Prop := ∃ aa, r = ruAc aa 1 letA
def isSet (r : Ru) : Prop := ∃ aa pa, r = ruAc aa 1 (setA pa)
def isSn (r : Ru) : Prop := ∃ aa pa pc, r = ruAc aa 1 (sendA pa pc [0])
def PlaceR (a b c d : Int) : Value → Mem → List (List Value) → Prop := Ret (.agg #[.int .i64 (-1), .int .i64 a, .int .i64 b, .int .i64 c, .int .i64 d])
def awF : Fx := fun i _ _ => match i with
 | 0 => RegexR
 | 2 => SendR [1, 2]
 | 4 => OneR (isRx [1, 2])
 | 6 => PlaceR 0 0 0 1
 | 8 => RegexR
 | 10 => SendR [1, 0]
 | 12 => OneR (isRx [1, 0])
 | 14 => PlaceR (-1) (-1) (-1) (-1)
 | 17 => SendR [0]
 | 19 => OneR isEx
 | 21 => PlaceR 0 0 (-1) (-1)
 | 24 => OneR isTm
 | 26 => PlaceR 0 0 (-1) (-1)
 | 30 => OneR isLet
 | 32 => PlaceR 0 0 0 (-1)
 | 36 => OneR isSet
 | 38 => PlaceR 0 0 0 (-1)
 | 42 => PlaceR 1 (-1) (-1) (-1)
 | 46 => PlaceR (-1) (-1) (-1) (-1)
 | 50 => PlaceR (-1) (-1) (-1) (-1)
 | 53 => SendR [0]
 | 55 => OneR isSn
 | 57 => PlaceR 0 0 0 0
 | _ => RegexR
def litP : Pt := ⟨1, ⟨#[120]⟩, 0, E0⟩
set_option maxHeartbeats 6400000 in
theorem cx_awake (m : Mem) : CX Tryz.prog 6 #[] m [] (Ret (.bool true)) := by
 apply cx_law30_awake
 unfold VC_law30_awake
 intro b0 hf0 b1 hf1 b2 hf2
 have l0 : m.le (m.add b0 letA.cs) := Mem.le_add hf0 _
 have l1 : (m.add b0 letA.cs).le ((m.add b0 letA.cs).add b1 litP.cs) := Mem.le_add hf1 _
 have l2 : ((m.add b0 letA.cs).add b1 litP.cs).le (((m.add b0 letA.cs).add b1 litP.cs).add b2 (setA (some ⟨b1, 0, none⟩)).cs) := Mem.le_add hf2 _
 have x0 : (((m.add b0 letA.cs).add b1 litP.cs).add b2 (setA (some ⟨b1, 0, none⟩)).cs).reads b0 0 letA.cs := (reads_new m b0 _).mono (mLt l1 l2)
 have x1 : (((m.add b0 letA.cs).add b1 litP.cs).add b2 (setA (some ⟨b1, 0, none⟩)).cs).reads b1 0 litP.cs := (reads_new (m.add b0 letA.cs) b1 _).mono l2
 have x2 := reads_new ((m.add b0 letA.cs).add b1 litP.cs) b2 (setA (some ⟨b1, 0, none⟩)).cs
 have hm3 := mLt l0 (mLt l1 l2)
 refine call_any (cx_one (P := fun r => r = ru0 3) (ru0 3) rfl (((m.add b0 letA.cs).add b1 litP.cs).add b2 (setA (some ⟨b1, 0, none⟩)).cs) (repR_0 3 (by decide) _)) one_fits ?_
 rintro n a n1 c a1 n2 c1 m1 hm1 ⟨va, sa, ra, r, rfl, hv, hC⟩
 simp only [oneS, Sc.v, vars2, Value.agg.injEq, Array.mk.injEq, List.cons.injEq, Value.int.injEq, Value.slice.injEq, true_and, and_true, List.length_cons, List.length_nil] at hv
 obtain ⟨rfl, ⟨rfl, rfl, rfl⟩, rfl, rfl, rfl⟩ := hv
 intro b3 b4 hf4
 have l4 : m1.le (m1.add b4 (Sta.cs ⟨⟨#[97]⟩, none, 0, []⟩)) := Mem.le_add hf4 _
 refine ⟨.inr (by decide), (List.map Sta.cs [⟨⟨#[97]⟩, ra, 1, [ru0 3]⟩]).flatten, Sta.cs ⟨⟨#[97]⟩, none, 0, []⟩, rfl, rfl, hC.row.mono l4, .inr ⟨b4, 0, rfl, reads_new m1 b4 _⟩, ?_, by decide, by decide, fun a' c' m2 hm2 hr2 hcap => ?_⟩
 ·intro u hu
  simp only [Sta.cs, List.mem_cons, List.not_mem_nil, or_false] at hu
  rcases hu with rfl | rfl <;> rfl
 have l12 := mLt l4 hm2
 have hC2 := hC.mono l12
 have h7 : RepC m2 (twoS a a' ra c') := ⟨hC2.n, hC2.vlen, hC2.vrow, hC2.vall, by show 2 ≤ few; decide, hr2, fun x hx => by
  simp only [twoS, List.mem_cons, List.not_mem_nil, or_false] at hx
  rcases hx with rfl | rfl
  ·exact hC2.all _ (by simp [oneS])
  ·exact ⟨by show ByteArray.size ⟨#[97]⟩ ≤ _; decide, by show 0 ≤ few; decide, .inl rfl, fun z hz => by simp at hz⟩, hC2.vcap, hcap⟩
 have hm02 := mLt hm3 (mLt hm1 l12)
 have l32 := mLt hm1 l12
 have y0 := x0.mono l32
 have y1 := x1.mono l32
 have y2 := x2.mono l32
 have rA0 : ∀ M, RepA M letA := fun M => ⟨by show (0 : Int) ≤ 3 ∧ (3 : Int) < 256; decide, by show ByteArray.size ⟨#[110]⟩ ≤ _; decide, by show 0 ≤ few; decide, .inl rfl, fun p hp => by simp [letA] at hp, by simp only [letA, RepE]; exact ⟨by simp, .inl trivial, by constructor <;> decide⟩⟩
 have rA2 : ∀ M, m2.le M → RepA M (setA (some ⟨b1, 0, none⟩)) := fun M hM => ⟨by show (0 : Int) ≤ 2 ∧ (2 : Int) < 256; decide, by show ByteArray.size ⟨#[110]⟩ ≤ _; decide, by show 1 ≤ few; decide, rowOf (y1.mono hM), fun p hp => by
  obtain rfl : p = litP := in_one hp
  exact ⟨by show (0 : Int) ≤ 1 ∧ (1 : Int) < 256; decide, by show ByteArray.size ⟨#[120]⟩ ≤ _; decide, i64_small (n := 0) (by decide), repE0 M⟩, repE0 M⟩
 refine ⟨awF, ?_⟩
 have g0 : m2.le m2 := Mem.le_refl _
 refine ⟨_, rfl, cx_regex m2, regex_fits, ?_⟩
 rintro z0_0 z0_1 z0_2 z0_3 z0_4 z0_5 z0_6 z0_7 z0_8 z0_9 z0_10 z0_11 k0 hk0 ⟨a1k0, a2k0, hv, rrk0⟩
 simp only [rgxV, rxT, T.k, T.s0, T.s1, T.s2, T.s3, T.mn, T.mx, T.a, T.c, T.subs, Value.agg.injEq, Array.mk.injEq, List.cons.injEq, Value.bool.injEq, Value.int.injEq, Value.slice.injEq, true_and, and_true, List.length_cons, List.length_nil] at hv
 obtain ⟨rfl, rfl, rfl, rfl, rfl, rfl, rfl, rfl, rfl, rfl, rfl, rfl⟩ := hv
 have gk0 : m2.le k0 := mLt g0 hk0
 intro bk2 fk2 Vk2 uk2 vk2 wk2
 have gV2 : m2.le Vk2 := uk2
 refine ⟨_, rfl, cx_send [(1 : Int), (2 : Int)] _ _ _ (by decide) (fun n hn => i64_small (by simp only [List.mem_cons, List.not_mem_nil, or_false] at hn; omega)) (.inr ⟨_, 0, rfl, (reads_new m2 _ _).mono wk2⟩), send_fits, ?_⟩
 rintro z2_0 z2_1 z2_2 k2 hk2 ⟨pak2, pck2, sbk2, hv, srk2, rrk2⟩
 simp only [Value.slice.injEq] at hv
 obtain ⟨rfl, rfl, rfl⟩ := hv
 have gk2 : m2.le k2 := mLt gV2 hk2
 refine ⟨_, rfl, cx_one (P := isRx [1, 2]) (ruRx a1k0 z0_9 (some ⟨sbk2, 0, none⟩) pak2 1 pck2 [1, 2]) ⟨_, _, _, _, _, rfl⟩ k2 (repR_of (by decide) (rrk0.mono (mLt vk2 hk2)) (by decide) srk2 rrk2 (by decide) (by decide)), one_fits, ?_⟩
 rintro z4_0 z4_1 z4_2 z4_3 z4_4 z4_5 z4_6 k4 hk4 ⟨vak4, sak4, rak4, ruk4, hpk4, hv, rck4⟩
 simp only [oneS, Sc.v, vars2, Value.agg.injEq, Array.mk.injEq, List.cons.injEq, Value.int.injEq, Value.slice.injEq, true_and, and_true, List.length_cons, List.length_nil] at hv
 obtain ⟨rfl, ⟨rfl, rfl, rfl⟩, rfl, rfl, rfl⟩ := hv
 have gk4 : m2.le k4 := mLt gk2 hk4
 refine ⟨_, rfl, cx_place _ _ _ _ k4, (fun v _ _ e => by rw [show v = _ from e]; rfl), ?_⟩
 rintro z6_0 z6_1 z6_2 z6_3 z6_4 k6 hk6 hv
 simp only [awF, PlaceR, Ret, Value.agg.injEq, Array.mk.injEq, List.cons.injEq, Value.int.injEq, and_true, true_and] at hv
 obtain ⟨rfl, rfl, rfl, rfl, rfl⟩ := hv
 have gk6 : m2.le k6 := mLt gk4 hk6
 refine ⟨_, rfl, cx_regex k6, regex_fits, ?_⟩
 rintro z8_0 z8_1 z8_2 z8_3 z8_4 z8_5 z8_6 z8_7 z8_8 z8_9 z8_10 z8_11 k8 hk8 ⟨a1k8, a2k8, hv, rrk8⟩
 simp only [rgxV, rxT, T.k, T.s0, T.s1, T.s2, T.s3, T.mn, T.mx, T.a, T.c, T.subs, Value.agg.injEq, Array.mk.injEq, List.cons.injEq, Value.bool.injEq, Value.int.injEq, Value.slice.injEq, true_and, and_true, List.length_cons, List.length_nil] at hv
 obtain ⟨rfl, rfl, rfl, rfl, rfl, rfl, rfl, rfl, rfl, rfl, rfl, rfl⟩ := hv
 have gk8 : m2.le k8 := mLt gk6 hk8
 intro bk10 fk10 Vk10 uk10 vk10 wk10
 have gV10 : m2.le Vk10 := uk10
 refine ⟨_, rfl, cx_send [(1 : Int), (0 : Int)] _ _ _ (by decide) (fun n hn => i64_small (by simp only [List.mem_cons, List.not_mem_nil, or_false] at hn; omega)) (.inr ⟨_, 0, rfl, (reads_new m2 _ _).mono wk10⟩), send_fits, ?_⟩
 rintro z10_0 z10_1 z10_2 k10 hk10 ⟨pak10, pck10, sbk10, hv, srk10, rrk10⟩
 simp only [Value.slice.injEq] at hv
 obtain ⟨rfl, rfl, rfl⟩ := hv
 have gk10 : m2.le k10 := mLt gV10 hk10
 refine ⟨_, rfl, cx_one (P := isRx [1, 0]) (ruRx a1k8 z8_9 (some ⟨sbk10, 0, none⟩) pak10 1 pck10 [1, 0]) ⟨_, _, _, _, _, rfl⟩ k10 (repR_of (by decide) (rrk8.mono (mLt vk10 hk10)) (by decide) srk10 rrk10 (by decide) (by decide)), one_fits, ?_⟩
 rintro z12_0 z12_1 z12_2 z12_3 z12_4 z12_5 z12_6 k12 hk12 ⟨vak12, sak12, rak12, ruk12, hpk12, hv, rck12⟩
 simp only [oneS, Sc.v, vars2, Value.agg.injEq, Array.mk.injEq, List.cons.injEq, Value.int.injEq, Value.slice.injEq, true_and, and_true, List.length_cons, List.length_nil] at hv
 obtain ⟨rfl, ⟨rfl, rfl, rfl⟩, rfl, rfl, rfl⟩ := hv
 have gk12 : m2.le k12 := mLt gk10 hk12
 refine ⟨_, rfl, cx_place _ _ _ _ k12, (fun v _ _ e => by rw [show v = _ from e]; rfl), ?_⟩
 rintro z14_0 z14_1 z14_2 z14_3 z14_4 k14 hk14 hv
 simp only [awF, PlaceR, Ret, Value.agg.injEq, Array.mk.injEq, List.cons.injEq, Value.int.injEq, and_true, true_and] at hv
 obtain ⟨rfl, rfl, rfl, rfl, rfl⟩ := hv
 have gk14 : m2.le k14 := mLt gk12 hk14
 intro bk17 fk17 Vk17 uk17 vk17 wk17
 have gV17 : m2.le Vk17 := uk17
 refine ⟨_, rfl, cx_send [(0 : Int)] _ _ _ (by decide) (fun n hn => i64_small (by simp only [List.mem_cons, List.not_mem_nil, or_false] at hn; omega)) (.inr ⟨_, 0, rfl, (reads_new m2 _ _).mono wk17⟩), send_fits, ?_⟩
 rintro z17_0 z17_1 z17_2 k17 hk17 ⟨pak17, pck17, sbk17, hv, srk17, rrk17⟩
 simp only [Value.slice.injEq] at hv
 obtain ⟨rfl, rfl, rfl⟩ := hv
 have gk17 : m2.le k17 := mLt gV17 hk17
 refine ⟨_, rfl, cx_one (P := isEx) (ruEx (some ⟨sbk17, 0, none⟩) pak17 1 pck17 [0]) ⟨_, _, _, rfl⟩ k17 (repR_of (by decide) (rep_T0 _) (by decide) srk17 rrk17 (by decide) (by decide)), one_fits, ?_⟩
 rintro z19_0 z19_1 z19_2 z19_3 z19_4 z19_5 z19_6 k19 hk19 ⟨vak19, sak19, rak19, ruk19, hpk19, hv, rck19⟩
 simp only [oneS, Sc.v, vars2, Value.agg.injEq, Array.mk.injEq, List.cons.injEq, Value.int.injEq, Value.slice.injEq, true_and, and_true, List.length_cons, List.length_nil] at hv
 obtain ⟨rfl, ⟨rfl, rfl, rfl⟩, rfl, rfl, rfl⟩ := hv
 have gk19 : m2.le k19 := mLt gk17 hk19
 refine ⟨_, rfl, cx_place _ _ _ _ k19, (fun v _ _ e => by rw [show v = _ from e]; rfl), ?_⟩
 rintro z21_0 z21_1 z21_2 z21_3 z21_4 k21 hk21 hv
 simp only [awF, PlaceR, Ret, Value.agg.injEq, Array.mk.injEq, List.cons.injEq, Value.int.injEq, and_true, true_and] at hv
 obtain ⟨rfl, rfl, rfl, rfl, rfl⟩ := hv
 have gk21 : m2.le k21 := mLt gk19 hk21
 refine ⟨_, rfl, cx_one (P := isTm) (ru0 4) rfl k21 (repR_0 4 (by decide) _), one_fits, ?_⟩
 rintro z24_0 z24_1 z24_2 z24_3 z24_4 z24_5 z24_6 k24 hk24 ⟨vak24, sak24, rak24, ruk24, hpk24, hv, rck24⟩
 simp only [oneS, Sc.v, vars2, Value.agg.injEq, Array.mk.injEq, List.cons.injEq, Value.int.injEq, Value.slice.injEq, true_and, and_true, List.length_cons, List.length_nil] at hv
 obtain ⟨rfl, ⟨rfl, rfl, rfl⟩, rfl, rfl, rfl⟩ := hv
 have gk24 : m2.le k24 := mLt gk21 hk24
 refine ⟨_, rfl, cx_place _ _ _ _ k24, (fun v _ _ e => by rw [show v = _ from e]; rfl), ?_⟩
 rintro z26_0 z26_1 z26_2 z26_3 z26_4 k26 hk26 hv
 simp only [awF, PlaceR, Ret, Value.agg.injEq, Array.mk.injEq, List.cons.injEq, Value.int.injEq, and_true, true_and] at hv
 obtain ⟨rfl, rfl, rfl, rfl, rfl⟩ := hv
 have gk26 : m2.le k26 := mLt gk24 hk26
 refine ⟨_, rfl, cx_one (P := isLet) (ruAc (some ⟨b0, 0, none⟩) 1 letA) ⟨_, rfl⟩ k26 (repR_of (by decide) (rep_T0 _) (by decide) (y0.mono gk26) (rA0 _) (by decide) (by decide)), one_fits, ?_⟩
 rintro z30_0 z30_1 z30_2 z30_3 z30_4 z30_5 z30_6 k30 hk30 ⟨vak30, sak30, rak30, ruk30, hpk30, hv, rck30⟩
 simp only [oneS, Sc.v, vars2, Value.agg.injEq, Array.mk.injEq, List.cons.injEq, Value.int.injEq, Value.slice.injEq, true_and, and_true, List.length_cons, List.length_nil] at hv
 obtain ⟨rfl, ⟨rfl, rfl, rfl⟩, rfl, rfl, rfl⟩ := hv
 have gk30 : m2.le k30 := mLt gk26 hk30
 refine ⟨_, rfl, cx_place _ _ _ _ k30, (fun v _ _ e => by rw [show v = _ from e]; rfl), ?_⟩
 rintro z32_0 z32_1 z32_2 z32_3 z32_4 k32 hk32 hv
 simp only [awF, PlaceR, Ret, Value.agg.injEq, Array.mk.injEq, List.cons.injEq, Value.int.injEq, and_true, true_and] at hv
 obtain ⟨rfl, rfl, rfl, rfl, rfl⟩ := hv
 have gk32 : m2.le k32 := mLt gk30 hk32
 refine ⟨_, rfl, cx_one (P := isSet) (ruAc (some ⟨b2, 0, none⟩) 1 (setA (some ⟨b1, 0, none⟩))) ⟨_, _, rfl⟩ k32 (repR_of (by decide) (rep_T0 _) (by decide) (y2.mono gk32) (rA2 _ gk32) (by decide) (by decide)), one_fits, ?_⟩
 rintro z36_0 z36_1 z36_2 z36_3 z36_4 z36_5 z36_6 k36 hk36 ⟨vak36, sak36, rak36, ruk36, hpk36, hv, rck36⟩
 simp only [oneS, Sc.v, vars2, Value.agg.injEq, Array.mk.injEq, List.cons.injEq, Value.int.injEq, Value.slice.injEq, true_and, and_true, List.length_cons, List.length_nil] at hv
 obtain ⟨rfl, ⟨rfl, rfl, rfl⟩, rfl, rfl, rfl⟩ := hv
 have gk36 : m2.le k36 := mLt gk32 hk36
 refine ⟨_, rfl, cx_place _ _ _ _ k36, (fun v _ _ e => by rw [show v = _ from e]; rfl), ?_⟩
 rintro z38_0 z38_1 z38_2 z38_3 z38_4 k38 hk38 hv
 simp only [awF, PlaceR, Ret, Value.agg.injEq, Array.mk.injEq, List.cons.injEq, Value.int.injEq, and_true, true_and] at hv
 obtain ⟨rfl, rfl, rfl, rfl, rfl⟩ := hv
 have gk38 : m2.le k38 := mLt gk36 hk38
 refine ⟨_, rfl, cx_place _ _ _ _ k38, (fun v _ _ e => by rw [show v = _ from e]; rfl), ?_⟩
 rintro z42_0 z42_1 z42_2 z42_3 z42_4 k42 hk42 hv
 simp only [awF, PlaceR, Ret, Value.agg.injEq, Array.mk.injEq, List.cons.injEq, Value.int.injEq, and_true, true_and] at hv
 obtain ⟨rfl, rfl, rfl, rfl, rfl⟩ := hv
 have gk42 : m2.le k42 := mLt gk38 hk42
 refine ⟨_, rfl, cx_place _ _ _ _ k42, (fun v _ _ e => by rw [show v = _ from e]; rfl), ?_⟩
 rintro z46_0 z46_1 z46_2 z46_3 z46_4 k46 hk46 hv
 simp only [awF, PlaceR, Ret, Value.agg.injEq, Array.mk.injEq, List.cons.injEq, Value.int.injEq, and_true, true_and] at hv
 obtain ⟨rfl, rfl, rfl, rfl, rfl⟩ := hv
 have gk46 : m2.le k46 := mLt gk42 hk46
 refine ⟨_, rfl, cx_place _ _ _ _ k46, (fun v _ _ e => by rw [show v = _ from e]; rfl), ?_⟩
 rintro z50_0 z50_1 z50_2 z50_3 z50_4 k50 hk50 hv
 simp only [awF, PlaceR, Ret, Value.agg.injEq, Array.mk.injEq, List.cons.injEq, Value.int.injEq, and_true, true_and] at hv
 obtain ⟨rfl, rfl, rfl, rfl, rfl⟩ := hv
 have gk50 : m2.le k50 := mLt gk46 hk50
 intro bk53 fk53 Vk53 uk53 vk53 wk53
 have gV53 : m2.le Vk53 := uk53
 refine ⟨_, rfl, cx_send [(0 : Int)] _ _ _ (by decide) (fun n hn => i64_small (by simp only [List.mem_cons, List.not_mem_nil, or_false] at hn; omega)) (.inr ⟨_, 0, rfl, (reads_new m2 _ _).mono wk53⟩), send_fits, ?_⟩
 rintro z53_0 z53_1 z53_2 k53 hk53 ⟨pak53, pck53, sbk53, hv, srk53, rrk53⟩
 simp only [Value.slice.injEq] at hv
 obtain ⟨rfl, rfl, rfl⟩ := hv
 have gk53 : m2.le k53 := mLt gV53 hk53
 refine ⟨_, rfl, cx_one (P := isSn) (ruAc (some ⟨sbk53, 0, none⟩) 1 (sendA pak53 pck53 [0])) ⟨_, _, _, rfl⟩ k53 (repR_of (by decide) (rep_T0 _) (by decide) srk53 rrk53 (by decide) (by decide)), one_fits, ?_⟩
 rintro z55_0 z55_1 z55_2 z55_3 z55_4 z55_5 z55_6 k55 hk55 ⟨vak55, sak55, rak55, ruk55, hpk55, hv, rck55⟩
 simp only [oneS, Sc.v, vars2, Value.agg.injEq, Array.mk.injEq, List.cons.injEq, Value.int.injEq, Value.slice.injEq, true_and, and_true, List.length_cons, List.length_nil] at hv
 obtain ⟨rfl, ⟨rfl, rfl, rfl⟩, rfl, rfl, rfl⟩ := hv
 have gk55 : m2.le k55 := mLt gk53 hk55
 refine ⟨_, rfl, cx_place _ _ _ _ k55, (fun v _ _ e => by rw [show v = _ from e]; rfl), ?_⟩
 rintro z57_0 z57_1 z57_2 z57_3 z57_4 k57 hk57 hv
 simp only [awF, PlaceR, Ret, Value.agg.injEq, Array.mk.injEq, List.cons.injEq, Value.int.injEq, and_true, true_and] at hv
 obtain ⟨rfl, rfl, rfl, rfl, rfl⟩ := hv
 have gk57 : m2.le k57 := mLt gk55 hk57
 intro bT fT M
 intro e0 e1 e2 e3 e4 e5 e6 e7 e8 e9 e10 e11 e12 e13 e14 e15 e16 e17 e18 e19 e20 e21 e22 e23 e24 e25 e26 e27 e28
 have hM : m.le M := mLt hm02 (mLt gk57 (by assumption))
 have gM : m2.le M := mLt gk57 (by assumption)
 have q4 := rck4.mono (show Mem.le k4 M by assumption)
 have q12 := rck12.mono (show Mem.le k12 M by assumption)
 have q19 := rck19.mono (show Mem.le k19 M by assumption)
 have q24 := rck24.mono (show Mem.le k24 M by assumption)
 have q30 := rck30.mono (show Mem.le k30 M by assumption)
 have q36 := rck36.mono (show Mem.le k36 M by assumption)
 have q55 := rck55.mono (show Mem.le k55 M by assumption)
 obtain ⟨a1_4, a2_4, aa_4, pa_4, pc_4, rfl⟩ := hpk4
 obtain ⟨b1x_12, b2x_12, bb_12, pb_12, pd_12, rfl⟩ := hpk12
 obtain ⟨ac_19, pe_19, pf_19, rfl⟩ := hpk19
 obtain rfl := hpk24
 obtain ⟨ad_30, rfl⟩ := hpk30
 obtain ⟨ae_36, pg_36, rfl⟩ := hpk36
 obtain ⟨af_55, ph_55, pi_55, rfl⟩ := hpk55
 have repN : ∀ n : Int, 0 ≤ n ∧ n ≤ 1000 → RepC M (noneS n) := fun n hn => ⟨i64_small hn, by show 0 ≤ few; decide, .inl rfl, fun v hv => by simp [noneS] at hv, by show 0 ≤ few; decide, .inl rfl, fun v hv => by simp [noneS] at hv, Nat.le_refl 0, Nat.le_refl 0⟩
 have i0 : ItemOk M ⟨oneS z4_1 z4_4 rak4 (ruRx a1_4 a2_4 aa_4 pa_4 1 pc_4 [1, 2]), ⟨-1, 0, 0, 0, 1⟩, 309⟩ := ⟨q4, oneN_one _ _ _ _ fun a ha => by rw [in_one ha]; exact send_one _ _ _, ex1 _ _ _ _ _ _ _ _ _⟩
 have i1 : ItemOk M ⟨oneS z12_1 z12_4 rak12 (ruRx b1x_12 b2x_12 bb_12 pb_12 1 pd_12 [1, 0]), ⟨-1, -1, -1, -1, -1⟩, 0⟩ := ⟨q12, oneN_one _ _ _ _ fun a ha => by rw [in_one ha]; exact send_one _ _ _, ex2 _ _ _ _ _ _ _ _ _⟩
 have i2 : ItemOk M ⟨oneS z19_1 z19_4 rak19 (ruEx ac_19 pe_19 1 pf_19 [0]), ⟨-1, 0, 0, -1, -1⟩, 306⟩ := ⟨q19, oneN_one _ _ _ _ fun a ha => by rw [in_one ha]; exact send_one _ _ _, ex3 _ _ _ _ _ _ _⟩
 have i3 : ItemOk M ⟨oneS z24_1 z24_4 rak24 (ru0 4), ⟨-1, 0, 0, -1, -1⟩, 304⟩ := ⟨q24, oneN_one _ _ _ _ fun a ha => by simp [ru0] at ha, ex4 _ _ _⟩
 have i4 : ItemOk M ⟨oneS z30_1 z30_4 rak30 (ruAc ad_30 1 letA), ⟨-1, 0, 0, 0, -1⟩, 308⟩ := ⟨q30, oneN_one _ _ _ _ fun a ha => by rw [in_one ha]; exact ⟨fun _ => by decide +kernel, fun p hp => by simp [letA] at hp⟩, ex5 _ _ _ _ _⟩
 have i5 : ItemOk M ⟨oneS z36_1 z36_4 rak36 (ruAc ae_36 1 (setA pg_36)), ⟨-1, 0, 0, 0, -1⟩, 308⟩ := ⟨q36, oneN_one _ _ _ _ fun a ha => by rw [in_one ha]; exact ⟨fun h => absurd h (by show ¬ (2 : Int) = 3; decide), fun p hp h => by rw [in_one hp] at h; exact absurd h (by show ¬ (1 : Int) = 4; decide)⟩, ex6 _ _ _ _ _ _⟩
 have i6 : ItemOk M ⟨twoS a a' ra c', ⟨-1, 1, -1, -1, -1⟩, 303⟩ := ⟨h7.mono gM, fun x hx r hr a ha => by
   simp only [twoS, List.mem_cons, List.not_mem_nil, or_false] at hx
   rcases hx with rfl | rfl
   ·rw [in_one hr] at ha; simp [ru0] at ha
   ·simp at hr, ex7 _ _ _ _⟩
 have i7 : ItemOk M ⟨noneS 9, ⟨-1, -1, -1, -1, -1⟩, 302⟩ := ⟨repN 9 (by decide), fun x hx => by simp [noneS] at hx, ex8⟩
 have i8 : ItemOk M ⟨noneS 1, ⟨-1, -1, -1, -1, -1⟩, 300⟩ := ⟨repN 1 (by decide), fun x hx => by simp [noneS] at hx, ex9⟩
 have i9 : ItemOk M ⟨oneS z55_1 z55_4 rak55 (ruAc af_55 1 (sendA ph_55 pi_55 [0])), ⟨-1, 0, 0, 0, 0⟩, 309⟩ := ⟨q55, oneN_one _ _ _ _ fun a ha => by rw [in_one ha]; exact send_one _ _ _, ex10 _ _ _ _ _ _ _⟩
 obtain ⟨L, hL⟩ : ∃ L : List Item, L = [⟨oneS z4_1 z4_4 rak4 (ruRx a1_4 a2_4 aa_4 pa_4 1 pc_4 [1, 2]), ⟨-1, 0, 0, 0, 1⟩, 309⟩, ⟨oneS z12_1 z12_4 rak12 (ruRx b1x_12 b2x_12 bb_12 pb_12 1 pd_12 [1, 0]), ⟨-1, -1, -1, -1, -1⟩, 0⟩, ⟨oneS z19_1 z19_4 rak19 (ruEx ac_19 pe_19 1 pf_19 [0]), ⟨-1, 0, 0, -1, -1⟩, 306⟩, ⟨oneS z24_1 z24_4 rak24 (ru0 4), ⟨-1, 0, 0, -1, -1⟩, 304⟩, ⟨oneS z30_1 z30_4 rak30 (ruAc ad_30 1 letA), ⟨-1, 0, 0, 0, -1⟩, 308⟩, ⟨oneS z36_1 z36_4 rak36 (ruAc ae_36 1 (setA pg_36)), ⟨-1, 0, 0, 0, -1⟩, 308⟩, ⟨twoS a a' ra c', ⟨-1, 1, -1, -1, -1⟩, 303⟩, ⟨noneS 9, ⟨-1, -1, -1, -1, -1⟩, 302⟩, ⟨noneS 1, ⟨-1, -1, -1, -1, -1⟩, 300⟩, ⟨oneS z55_1 z55_4 rak55 (ruAc af_55 1 (sendA ph_55 pi_55 [0])), ⟨-1, 0, 0, 0, 0⟩, 309⟩] := ⟨_, rfl⟩
 have hLl : L.length = 10 := by rw [hL]; rfl
 have hall : ∀ it ∈ L, ItemOk M it := fun it hit => by
  rw [hL] at hit
  simp only [List.mem_cons, List.not_mem_nil, or_false] at hit
  rcases hit with rfl | rfl | rfl | rfl | rfl | rfl | rfl | rfl | rfl | rfl
  ·exact i0
  ·exact i1
  ·exact i2
  ·exact i3
  ·exact i4
  ·exact i5
  ·exact i6
  ·exact i7
  ·exact i8
  ·exact i9
 generalize hTB : X6_law30_awake _ _ _ _ _ _ _ _ _ _ _ _ _ _ _ _ _ _ _ _ _ _ _ _ _ _ _ _ _ _ _ _ _ _ _ _ _ _ _ _ _ _ _ _ _ _ _ _ _ _ _ _ _ _ _ _ _ _ _ _ _ _ _ _ _ _ _ _ _ _ _ _ _ _ _ _ _ _ _ _ _ _ _ _ _ _ _ _ _ _ _ _ _ _ _ _ _ _ _ _ _ _ _ _ _ _ = TB
 have hTL : TB = (L.map Item.cs).flatten := by rw [← hTB, hL]; rfl
 clear hTB
 have hrow : ∀ (i : Nat) (it : Item), L[i]? = some it → List.take 9 (List.drop (Int.toNat (i : Int) * 9) TB) = it.cs := fun i it h => by rw [hTL, Int.toNat_natCast]; exact items_at h
 refine ⟨fun xs _ _ _ q => ∃ i : Nat, i ≤ 10 ∧ xs = [.int .i64 i] ∧ q = 10 - i, ⟨10, 0, by omega, rfl, rfl⟩, ?_⟩
 rintro y m' q hm' ⟨i, hi, hx, rfl⟩
 simp only [List.cons.injEq, Value.int.injEq, and_true, true_and] at hx
 subst hx
 have hmm := mLt hM hm'
 refine br_dec (fun hlt => ?_) (fun hge => ?_)
 ·have hlt : (i : Int) < (10 : Nat) := hlt
  obtain ⟨it, hit⟩ := at_lt (show i < L.length by omega)
  have hok := hall it (List.mem_of_getElem? hit)
  rw [hrow i it hit]
  refine ⟨⟨by omega, by omega⟩, chk_intro (by rw [Nat.ble_eq]; rw [Int.toNat_natCast]; show i * 9 ≤ 81; omega) fun b14 => chk_intro (by rfl) (chk_intro (by rfl) ?_)⟩
  refine call_any (cx_sCheck it.s m' (hok.rep.mono hm') hok.one) (fun v _ _ e => by rw [show v = _ from e]; rfl) ?_
  rintro n96 n97 n98 n99 n100 n101 m3 hm3 hv
  rw [hok.eq] at hv
  have hv : Value.tuple #[.agg #[.int .i64 n96, .int .i64 n97, .int .i64 n98, .int .i64 n99, .int .i64 n100], .int .i64 n101] = Value.tuple #[.agg it.p.cs.toArray, .int .i64 it.e] := hv
  simp only [Pl.cs, Value.tuple.injEq, Value.agg.injEq, Array.mk.injEq, List.cons.injEq, Value.int.injEq, and_true, true_and] at hv
  obtain ⟨⟨rfl, rfl, rfl, rfl, rfl⟩, rfl⟩ := hv
  intro b15
  refine ⟨false, chk_intro (by rfl) ⟨true, eq_pl it.p, br_f rfl (look_intro (v := .int .i64 it.e) rfl (chk_intro rfl (br_f (by show (!(it.e == it.e)) = false; simp) (chk_intro (by rfl) (call_bool (cx_sRight it.s m3 (hok.rep.mono (mLt hm' hm3)) hok.one) fun m4 hm4 => ⟨by trivial, rfl, one_bool ?_⟩)))))⟩, br_f rfl ⟨by trivial, rfl, 10 - (i + 1), by omega, i + 1, by omega, ?_, rfl⟩⟩
  ·rw [hok.eq]
   show (!((it.e == 0) == (it.e == 0))) = false
   simp
  ·rw [wrap64 (by omega) (by omega)]; rfl
 ·refine call_any (cx_Word 306 m') (fun v _ _ e => by rw [show v = _ from e]; rfl) ?_
  rintro s m3 hm3 hs
  obtain rfl : s = wordS 306 := by simpa [Ret] using hs
  exact ret_pure (mLt hmm hm3) (by show Value.bool _ = Value.bool true; kernel_rfl)
theorem cx_CheckWords (e : Int) (m : Mem) : CX Tryz.prog 3 #[.int .i64 e] m [] (Ret (.bool true)) := by
 apply cx_law30_CheckWords
 unfold VC_law30_CheckWords
 exact ⟨true, call_bool (cx_words e m) fun m1 hm1 => br_t rfl (call_bool (cx_awake m1) fun m2 hm2 => rfl), ret_pure (Mem.le_refl m) rfl⟩
end Go.Proofs.YtiadlgdcbpnmkaaGreatDoor
set_option linter.unusedVariables false
set_option linter.unusedSimpArgs false
namespace Go.Proofs.YtiadlgdcbpnmkaaGreatDoor
open Go Go.Eng Go.Rx Go.Proofs Go.RowKit Go.ChangeShapes Go.WideShapes Go.ChangeAt
set_option maxRecDepth 100000
theorem lawOwn : ownKnob Tryz.prog.godebug = none := by kernel_rfl
theorem lawLaid : laidOutB Tryz.prog = true := by kernel_rfl
theorem words_contract (H : Type) (enc : TypeId × Value → H) (W : World) (base : Nat) (args : Array Value) (ds gs : List (DataW H)) (before : List MemPlace)
  (hval : ∀ (j : Nat) t v, Tryz.f3.params[j]? = some t → args[j]? = some v → Value.okWide Tryz.prog W .any base t v)
  (hW : DataW.Whole enc Tryz.prog Tryz.f3.params.toList Rows.checkWordsSpec.vars false W args.toList ds gs before) :
  Calls Tryz.prog 3 args W fun e W' => ∃ v, e = .returned v ∧ Rows.checkWordsSpec.post enc Tryz.prog Tryz.f3 false true false false W args v W' := by
 have hW' := hW
 obtain ⟨p, q, hA0, hV, rfl, hfz, hnd⟩ := hW
 have hA : DataW.TrodAll enc Tryz.prog W 0 (fun _ => true) true Tryz.f3.params.toList args.toList ds p := hA0
 rw [Tryz.params3] at hA hval
 obtain ⟨v0, d0, rfl, rfl, h0⟩ := trodAll_one hA
 obtain ⟨rfl, rfl⟩ := trodVars_none hV
 obtain ⟨x, rfl, rfl, rfl, wx⟩ := open_int (Tryz.underlying3) (hval 0 _ v0 rfl rfl) h0
 exact post_true (tb := 4) lawLaid (by rw [Tryz.params3]; intro t ht; simp at ht; rcases ht with rfl; exact ⟨by kernel_rfl, of_decide_eq_true (by kernel_rfl)⟩) hW' rfl rfl rfl rfl rfl Tryz.underlying4 (cx_CheckWords x (memOf W))
theorem words_lifted (os : Os) (started : os.Started) (H : Type) (enc : TypeId × Value → H) :
  ReturnsInHanded {} Tryz.checked os 3 .any (fun w args => (Rows.checkWordsSpec.pre enc Tryz.prog Tryz.f3 Rows.checkWordsRow.domain false w args ∧ laidMetH Tryz.prog Rows.checkWordsRow.laid w) ∧ sizedMet enc Tryz.prog Tryz.f3 (OpenSpec.ofChange Rows.checkWordsSpec) false w args)
   (Rows.checkWordsSpec.post enc Tryz.prog Tryz.f3 false true false false) := by
 refine returnsInHanded_of_change_and (C := Tryz.checked) (X := fun w _ => laidMetH Tryz.prog Rows.checkWordsRow.laid w) (fun _ _ _ hh h => h.of_heap hh) lawOwn started (by kernel_rfl) Tryz.func3
  (ChangeSpec.witness_shaped (enc := enc) (C := Tryz.checked) (os := os) (X := fun w _ => laidMetH Tryz.prog Rows.checkWordsRow.laid w) false (World.laidAll Tryz.prog os Rows.checkWordsRow.laid) #[.int .i64 0] 8 (World.laidAll_os _ _ _)
   (World.shaped_of_ZipB (by kernel_rfl) (by kernel_rfl)) (by kernel_rfl) (by kernel_rfl) (by kernel_rfl)
   (by rw [MakeChecks.laidMetH_plain _ _ _ (by kernel_rfl)]; exact laidMet_laidAll _ (by kernel_rfl) (by kernel_rfl))) ?_
 intro W base args ds gs before hval hW _ _ _ _
 exact words_contract H enc W base args ds gs before hval hW
theorem words_row : Rows.CheckWordsSaid :=
 OpenClaim.holds_of_wide 3 Tryz.f3 rfl rfl rfl rfl rfl rfl rfl ⟨rfl, rfl, rfl, rfl, rfl⟩ rfl rfl rfl rfl rfl (by kernel_rfl) Tryz.func3 (by kernel_rfl)
  (of_decide_eq_true (by kernel_rfl)) (by unfold Func.isWrapper; first | (rw [if_pos (by decide +kernel)]; kernel_rfl) | (rw [if_neg (by decide +kernel)]; exact ⟨rfl, rfl⟩))
  (fun os started H enc _ => words_lifted os started H enc)
theorem words_holds : Rows.CheckWordsCardSaid :=
 Claim7.holds_tied_plain_at .later [] [.data, .pinned] true (true, "a82aa9d6642ad1f548a5bb9a62cdfba711ee608f2632255de50e20b66b0f9b64") false words_row (fun _ h => by cases h) (by kernel_rfl) (fun _ h => by cases h) checkWords_row_tie rfl ⟨rfl, rfl⟩ (by kernel_rfl) rfl
  (fun f fn hf hfn => by
   obtain rfl : f = 3 := Option.some.inj ((show Tryz.prog.funcNamed "repartee/reparteelaw30.CheckWords" = some 3 by kernel_rfl).symm.trans hf) |>.symm
   obtain rfl : fn = Tryz.f3 := (Option.some.inj (Tryz.func3.symm.trans hfn)).symm
   exact ⟨by kernel_rfl, fun j t ht => by
    rw [Tryz.params3] at ht
    have hm : t ∈ [3] := by simpa using Array.mem_of_getElem? ht
    have hall : ([3].all fun u => !Tryz.prog.wantsStandIn u) = true := by kernel_rfl
    exact (show Tryz.prog.wantsStandIn t = false by simpa using List.all_eq_true.1 hall t hm)⟩)
  (by kernel_rfl)
#print axioms words_holds
end Go.Proofs.YtiadlgdcbpnmkaaGreatDoor
