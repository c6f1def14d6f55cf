/- Part of the proof: conditions and contracts of functions of this program. No condition of its own. -/
import Derived.Test.YthiefodednaikaaPC13D
import Derived.Test.YthiefodednaikaaMr
/- Contracts of package denote: what is refused, ends, beginnings, the first of rules. -/
set_option linter.unusedVariables false
set_option linter.unusedSimpArgs false
set_option linter.unusedSectionVars false
namespace Go.Proofs.Ythiefodednaikaa
open Go Go.Eng Go.Rx Go.Proofs Go.RowKit
set_option maxRecDepth 100000

theorem cx_dright (t : T) (a : Option Addr) (len c : Nat) (i : Int) (m : Mem) (hr : Rep m t) : CX Try.prog 52 #[t.v, .slice a len c, .int .i64 i] m [] (Ret (.int .i64 (t.wrong len i))) := by
  apply cx_denote_right
  unfold VC_denote_right
  intro b m1 hm1 _
  refine ⟨t.isNone, br_intro (fun h => call_bool (cx_Same t T0 m1 (hr.mono hm1) (rep_T0 m1)) fun m2 hm2 => ⟨by trivial, one_bool ?_⟩) (fun h => ⟨by trivial, one_bool ?_⟩), !t.isNone && !(t.check == 0), br_intro (fun h => call_int (cx_Check false false t m1 (hr.mono hm1)) fun m2 hm2 => ⟨by trivial, one_bool ?_⟩) (fun h => ⟨by trivial, one_bool ?_⟩), br_intro (fun h => ret_pure hm1 ?_) (fun h => br_intro (fun h1 => ret_pure hm1 ?_) (fun h1 => ⟨decide (i < 0) || decide (i > len), br_intro (fun h2 => ⟨by trivial, one_bool ?_⟩) (fun h2 => ⟨by trivial, one_bool ?_⟩), br_intro (fun h3 => ret_pure hm1 ?_) (fun h3 => ret_pure hm1 ?_)⟩))⟩
  · unfold T.isNone; rw [h]; rfl
  · unfold T.isNone; rw [h]; rfl
  · rw [h]; rfl
  · rw [h]; rfl
  · unfold T.wrong; rw [if_pos h]
  · unfold T.wrong; rw [if_neg (by rw [h]; decide), if_pos (of_decide_eq_true h1)]
  · rw [h2]; rfl
  · rw [h2]; rfl
  · unfold T.wrong; rw [if_neg (by rw [h]; decide), if_neg (of_decide_eq_false h1), if_pos (by simpa using h3)]
  · unfold T.wrong; rw [if_neg (by rw [h]; decide), if_neg (of_decide_eq_false h1), if_neg (by simpa using h3)]
def numsL (l : List Nat) : List Value := l.map fun i : Nat => .int .i64 (i : Nat)
/-- A list of numbers, and an error. -/
def ListR (e : Int) (l : List Nat) : Value → Mem → List (List Value) → Prop := fun v m' _ => ∃ a c, v = .tuple #[.slice a l.length c, .int .i64 e] ∧ rowRd m' a (numsL l)
theorem ListR_fits {e l} : ∀ (v : Value) (m' : Mem) (css : List (List Value)), ListR e l v m' css → Shape.fits (.tup [.slice, .int .i64]) v = true := fun v _ _ ⟨a, c, h, _⟩ => by rw [h]; rfl
def T.list (t : T) (s : List Nat) (i : Int) (back : Bool) : List Nat := if t.wrong s.length i = 0 then bitsOf (t.lead s back (2 ^ i.toNat)) else []
theorem numsL_take {l : List Nat} {q i : Nat} (h : l[q]? = some i) : numsL (l.take q) ++ [.int .i64 (i : Nat)] = numsL (l.take (q + 1)) := by
  unfold numsL
  rw [take_at h, List.map_append]; rfl
theorem cx_list (t : T) (a : Option Addr) (s : List Nat) (c : Nat) (i : Int) (back : Bool) (m : Mem) (hr : Rep m t) (hb : t.wrong s.length i = 0 → Byt m a s) : CX Try.prog 47 #[t.v, .slice a s.length c, .int .i64 i, .bool back] m [] (ListR (t.wrong s.length i) (T.list t s i back)) := by
  apply cx_denote_list
  unfold VC_denote_list
  intro b m1 hm1 _
  refine call_int (cx_dright t a s.length c i m1 (hr.mono hm1)) fun m2 hm2 => br_intro (fun h => ?_) (fun h b1 => ?_)
  · have h' : ¬ t.wrong s.length i = 0 := by simpa using h
    refine ret_pure (Mem.le_trans hm1 hm2) ⟨none, 0, ?_, .inl ?_⟩ <;> unfold T.list <;> rw [if_neg h'] <;> rfl
  · have h' : t.wrong s.length i = 0 := by simpa using h
    obtain ⟨hw, hs, hi0, hi1⟩ := wrong_0 h'
    obtain ⟨n, rfl⟩ : ∃ n : Nat, i = n := ⟨i.toNat, by omega⟩
    have hM2 : m.le m2 := Mem.le_trans hm1 hm2
    have hbnd : (2 : Nat) ^ n < B576 := pow_B (by omega)
    refine ⟨fun j _ _ => if j = 5 then Ret (plV (2 ^ n)) else Ret (plV (t.lead s back (2 ^ n))), Ret (plV (2 ^ n)), rfl, cx_at n (by omega) m2, pl_fits, pl_k fun m3 hm3 => ⟨Ret (plV (t.lead s back (2 ^ n))), rfl, cx_lead a s c back hs t hw (2 ^ n) m3 hbnd (hr.mono (Mem.le_trans hM2 hm3)) ((hb h').mono (Mem.le_trans hM2 hm3)), pl_fits, pl_k fun m4 hm4 b2 M hM1 hM3 hM4 m5 hm5 hb2 => call_any (cx_all (t.lead s back (2 ^ n)) b2 m5 hb2) (fun v _ _ ⟨c, e, _⟩ => by rw [e]; rfl) ?_⟩⟩
    rintro g fi ca m6 hm6 ⟨cb, hv, hcb⟩
    simp only [Value.func.injEq, Fn.func.injEq, Array.mk.injEq] at hv
    obtain ⟨rfl, rfl, rfl⟩ := hv
    have hM6 : m.le m6 := Mem.le_trans hM2 (Mem.le_trans hM1 (Mem.le_trans hm5 hm6))
    have hL : T.list t s (n : Int) back = bitsOf (t.lead s back (2 ^ n)) := by unfold T.list; rw [if_pos h']; rfl
    rw [hL, h']
    generalize hX : bitsOf (t.lead s back (2 ^ n)) = X
    have hXl : X.length ≤ 513 := by rw [← hX]; exact bits_len _
    refine ⟨X.map fun i => [.int .i64 (i : Nat)], ?_, ?_, ?_⟩
    · rw [← hX]; exact ix_all1 _ b2 cb m6 (hb2.mono hm6) hcb
    · intro x hx
      obtain ⟨y, _, rfl⟩ := List.mem_map.1 hx
      rfl
    refine ⟨fun xs css tvs m' q => ∃ a' c', css = [[.slice a' q c']] ∧ tvs = [.slice a' q c'] ∧ rowRd m' a' (numsL (X.take q)), ⟨none, 0, rfl, rfl, .inl rfl⟩, ?_, ?_⟩
    · rintro z cs a1 n1 c1 m7 q hm7 hq ⟨a', c', hcs, htv, hrow⟩
      obtain rfl : cs = [.slice a' q c'] := by simpa using hcs
      obtain ⟨rfl, rfl, rfl⟩ : a1 = a' ∧ n1 = q ∧ c1 = c' := by simpa using htv
      have hq' : (X.map fun i => [Value.int .i64 (i : Nat)])[(n1 : Nat)]? = some [.int .i64 z] := hq
      rw [List.getElem?_map] at hq'
      obtain ⟨y, hy, hz⟩ := Option.map_eq_some_iff.1 hq'
      obtain rfl : z = y := (one_int hz).symm
      have hlt := (List.getElem?_eq_some_iff.1 hy).1
      refine look_intro rfl fun b3 hfree => chk_intro rfl ⟨.inl rfl, numsL (X.take n1), [.int .i64 y], ?_, rfl, hrow.mono (Mem.le_add hfree _), .inr ⟨b3, 0, rfl, ?_⟩, ?_, ?_, ?_, ?_⟩
      · simp [numsL, slN]; omega
      · intro j v hj; rw [Nat.zero_add, Mem.add_same]; exact hj
      · intro u hu; obtain rfl : u = .int .i64 y := by simpa using hu
        rfl
      · simp only [slN]; omega
      · simp only [slN]; omega
      · intro a2 c2 m8 hm8 hrow2
        refine ⟨by trivial, a2, c2, rfl, rfl, ?_⟩
        rw [← numsL_take hy]; exact hrow2
    · rintro cs a1 n1 c1 m7 hm7 ⟨a', c', hcs, htv, hrow⟩
      rw [List.length_map] at hcs htv hrow
      obtain rfl : cs = [.slice a' X.length c'] := by simpa using hcs
      rw [List.take_length] at hrow
      exact look_intro rfl ⟨m7, Mem.le_trans hM6 hm7, Mem.le_refl _, a', c', rfl, hrow⟩
theorem cx_Ends (t : T) (a : Option Addr) (s : List Nat) (c : Nat) (i : Int) (m : Mem) (hr : Rep m t) (hb : t.wrong s.length i = 0 → Byt m a s) : CX Try.prog 14 #[t.v, .slice a s.length c, .int .i64 i] m [] (ListR (t.wrong s.length i) (T.list t s i false)) := by
  apply cx_denote_Ends
  unfold VC_denote_Ends
  intro b m1 hm1 _
  refine call_any (cx_list t a s c i false m1 (hr.mono hm1) (fun h => (hb h).mono hm1)) ListR_fits ?_
  intro a1 n1 c1 e1 m2 hm2 h
  exact ⟨m2, Mem.le_trans hm1 hm2, Mem.le_refl _, h⟩
theorem cx_Begins (t : T) (a : Option Addr) (s : List Nat) (c : Nat) (i : Int) (m : Mem) (hr : Rep m t) (hb : t.wrong s.length i = 0 → Byt m a s) : CX Try.prog 15 #[t.v, .slice a s.length c, .int .i64 i] m [] (ListR (t.wrong s.length i) (T.list t s i true)) := by
  apply cx_denote_Begins
  unfold VC_denote_Begins
  intro b m1 hm1 _
  refine call_any (cx_list t a s c i true m1 (hr.mono hm1) (fun h => (hb h).mono hm1)) ListR_fits ?_
  intro a1 n1 c1 e1 m2 hm2 h
  exact ⟨m2, Mem.le_trans hm1 hm2, Mem.le_refl _, h⟩
def T.matches (t : T) (s : List Nat) : Bool := t.wrong s.length 0 == 0 && (t.lead s false 1).testBit s.length
theorem cx_Matches (t : T) (a : Option Addr) (s : List Nat) (c : Nat) (m : Mem) (hr : Rep m t) (hb : t.wrong s.length 0 = 0 → Byt m a s) : CX Try.prog 19 #[t.v, .slice a s.length c] m [] (Ret (.tuple #[.bool (T.matches t s), .int .i64 (t.wrong s.length 0)])) := by
  apply cx_denote_Matches
  unfold VC_denote_Matches
  intro b m1 hm1 _
  refine call_int (cx_dright t a s.length c 0 m1 (hr.mono hm1)) fun m2 hm2 => br_intro (fun h => ?_) (fun h => ?_)
  · have h' : ¬ t.wrong s.length 0 = 0 := by simpa using h
    refine ret_pure (Mem.le_trans hm1 hm2) ?_
    unfold T.matches
    rw [show (t.wrong s.length 0 == 0) = false by simpa using h']; rfl
  · have h' : t.wrong s.length 0 = 0 := by simpa using h
    obtain ⟨hw, hs, hi0, hi1⟩ := wrong_0 h'
    have hM2 : m.le m2 := Mem.le_trans hm1 hm2
    have hbnd : (2 : Nat) ^ 0 < B576 := pow_B (by omega)
    refine ⟨fun j _ _ => if j = 3 then Ret (plV (2 ^ 0)) else Ret (plV (t.lead s false (2 ^ 0))), Ret (plV (2 ^ 0)), rfl, cx_at 0 (by omega) m2, pl_fits, pl_k fun m3 hm3 => ⟨Ret (plV (t.lead s false (2 ^ 0))), rfl, cx_lead a s c false hs t hw (2 ^ 0) m3 hbnd (hr.mono (Mem.le_trans hM2 hm3)) ((hb h').mono (Mem.le_trans hM2 hm3)), pl_fits, pl_k fun m4 hm4 b2 M hM1 hM3 hM4 m5 hm5 hb2 => call_bool (cx_phas (t.lead s false (2 ^ 0)) s.length (by omega) b2 m5 hb2) fun m6 hm6 => ret_pure (Mem.le_trans hM2 (Mem.le_trans hM1 (Mem.le_trans hm5 hm6))) ?_⟩⟩
    unfold T.matches
    rw [h']; rfl
theorem cx_check (r : Rg) (a : Option Addr) (len c : Nat) (n : Int) (m : Mem) (hr : Rep m r.t) : CX Try.prog 48 #[r.v, .slice a len c, .int .i64 n] m [] (Ret (.int .i64 (Rg.wrong r len n))) := by
  apply cx_denote_check
  unfold VC_denote_check
  intro b m1 hm1 _
  refine call_int (cx_Check r.bg r.en r.t m1 (hr.mono hm1)) fun m2 hm2 => br_intro (fun h => ret_pure (Mem.le_trans hm1 hm2) ?_) (fun h => call_int (cx_dright r.t a len c n m2 (hr.mono (Mem.le_trans hm1 hm2))) fun m3 hm3 => ret_pure (Mem.le_trans hm1 (Mem.le_trans hm2 hm3)) ?_)
  · unfold Rg.wrong; rw [if_neg (by simpa using h)]
  · unfold Rg.wrong; rw [if_pos (by simpa using h)]
theorem cx_from (r : Rg) (a : Option Addr) (s : List Nat) (c : Nat) (n : Nat) (m : Mem) (hw : r.t.walks) (hs : s.length ≤ 512) (hn : n ≤ s.length) (hr : Rep m r.t) (hb : Byt m a s) : CX Try.prog 49 #[r.v, .slice a s.length c, .int .i64 n] m [] (Ret (.tuple (fromV (r.from s n)).toArray)) := by
  apply cx_denote_from
  unfold VC_denote_from
  intro b m1 hm1 _ b1 m2 hm2 _ b2 b3
  have hM2 : m.le m2 := Mem.le_trans hm1 hm2
  refine ⟨r.en && decide ((n : Int) < s.length), br_intro (fun h => ⟨by trivial, one_bool (by rw [h]; rfl)⟩) (fun h => ⟨by trivial, one_bool (by rw [h]; rfl)⟩), br_intro (fun h => ret_pure hM2 ?_) (fun h => ?_)⟩
  · unfold Rg.from; rw [if_pos h]; rfl
  · have hbnd : (2 : Nat) ^ n < B576 := pow_B (by omega)
    refine ⟨fun j _ _ => if j = 5 then Ret (plV (2 ^ n)) else Ret (plV (r.t.lead s true (2 ^ n))), Ret (plV (2 ^ n)), rfl, cx_at n (by omega) m2, pl_fits, pl_k fun m3 hm3 => ⟨Ret (plV (r.t.lead s true (2 ^ n))), rfl, cx_lead a s c true hs r.t hw (2 ^ n) m3 hbnd (hr.mono (Mem.le_trans hM2 hm3)) (hb.mono (Mem.le_trans hM2 hm3)), pl_fits, pl_k fun m4 hm4 b2 M hM1 hM3 hM4 => br_intro (fun hbg m5 hm5 hb2 => call_bool (cx_phas (r.t.lead s true (2 ^ n)) 0 (by omega) b2 m5 hb2) fun m6 hm6 => ret_pure (Mem.le_trans hM2 (Mem.le_trans hM1 (Mem.le_trans hm5 hm6))) ?_) (fun hbg m5 hm5 hb2 => call_any (cx_all (r.t.lead s true (2 ^ n)) b2 m5 hb2) (fun v _ _ ⟨c, e, _⟩ => by rw [e]; rfl) ?_)⟩⟩
    · unfold Rg.from; rw [if_neg (by rw [h]; decide), if_pos hbg]
      cases (r.t.lead s true (2 ^ n)).testBit 0 <;> rfl
    rintro g fi ca m6 hm6 ⟨cb, hv, hcb⟩
    simp only [Value.func.injEq, Fn.func.injEq, Array.mk.injEq] at hv
    obtain ⟨rfl, rfl, rfl⟩ := hv
    have hM6 : m.le m6 := Mem.le_trans hM2 (Mem.le_trans hM1 (Mem.le_trans hm5 hm6))
    have hF : r.from s n = firstLe n (bitsOf (r.t.lead s true (2 ^ n))) := by
      unfold Rg.from; rw [if_neg (by rw [h]; decide), if_neg (by rw [hbg]; decide)]
    refine ⟨(bitsOf (r.t.lead s true (2 ^ n))).map fun i => [.int .i64 (i : Nat)], ix_all1 _ b2 cb m6 (hb2.mono hm6) hcb, ?_, ?_⟩
    · intro x hx
      obtain ⟨y, _, rfl⟩ := List.mem_map.1 hx
      rfl
    rw [hF]
    generalize bitsOf (r.t.lead s true (2 ^ n)) = X
    refine ⟨fun xs css tvs m' q => q = 0, rfl, ?_, ?_⟩
    · intro z cs cs1 m7 q hm7 hq hq0
      have hq' : (X.map fun i => [Value.int .i64 (i : Nat)])[(q : Nat)]? = some [.int .i64 z] := hq
      rw [hq0, List.getElem?_map] at hq'
      obtain ⟨y, hy, hz⟩ := Option.map_eq_some_iff.1 hq'
      obtain rfl : z = y := (one_int hz).symm
      cases X with
      | nil => simp at hy
      | cons x X =>
        obtain rfl : x = y := by simpa using hy
        refine br_intro (fun hgt => ⟨by trivial, ret_pure (Mem.le_trans hM6 hm7) ?_⟩) (fun hle => ⟨by trivial, ret_pure (Mem.le_trans hM6 hm7) ?_⟩)
        · have : x > n := by have := of_decide_eq_true hgt; omega
          show _ = Value.tuple (fromV (if x > n then none else some x)).toArray
          rw [if_pos this]; rfl
        · have : ¬ x > n := by have := of_decide_eq_false hle; omega
          show _ = Value.tuple (fromV (if x > n then none else some x)).toArray
          rw [if_neg this]; rfl
    · intro cs cs1 m7 hm7 hq0
      cases X with
      | nil => exact ret_pure (Mem.le_trans hM6 hm7) rfl
      | cons x X => simp at hq0
def fromE (r : Rg) (s : List Nat) (n : Int) : Option Nat := if Rg.wrong r s.length n = 0 then r.from s n.toNat else none
theorem rwrong_0 {r : Rg} {len : Nat} {n : Int} (h : Rg.wrong r len n = 0) : r.t.walks ∧ len ≤ 512 ∧ 0 ≤ n ∧ n ≤ len := by
  unfold Rg.wrong at h
  split at h
  · exact wrong_0 h
  · exact absurd h (by decide)
theorem from_two (o : Option Nat) : ∃ i b, fromV o = [.int .i64 i, .bool b] := by cases o <;> exact ⟨_, _, rfl⟩
theorem cx_From (r : Rg) (a : Option Addr) (s : List Nat) (c : Nat) (n : Int) (m : Mem) (hr : Rep m r.t) (hb : Rg.wrong r s.length n = 0 → Byt m a s) : CX Try.prog 17 #[r.v, .slice a s.length c, .int .i64 n] m [] (Ret (.tuple (fromV (fromE r s n) ++ [Value.int .i64 (Rg.wrong r s.length n)]).toArray)) := by
  apply cx_denote_From
  unfold VC_denote_From
  intro b m1 hm1 _
  refine call_int (cx_check r a s.length c n m1 (hr.mono hm1)) fun m2 hm2 => br_intro (fun h => ret_pure (Mem.le_trans hm1 hm2) ?_) (fun h => ?_)
  · unfold fromE; rw [if_neg (by simpa using h)]; rfl
  · have h' : Rg.wrong r s.length n = 0 := by simpa using h
    obtain ⟨hw, hs, hi0, hi1⟩ := rwrong_0 h'
    obtain ⟨k, rfl⟩ : ∃ k : Nat, n = k := ⟨n.toNat, by omega⟩
    have hM2 : m.le m2 := Mem.le_trans hm1 hm2
    have hE : fromE r s (k : Int) = r.from s k := by unfold fromE; rw [if_pos h']; rfl
    rw [hE, h']
    refine call_any (cx_from r a s c k m2 hw hs (by omega) (hr.mono hM2) ((hb h').mono hM2)) (fun v _ _ e => by rw [e]; obtain ⟨i, b, e⟩ := from_two (r.from s k); rw [e]; rfl) ?_
    intro i bb m3 hm3 e
    refine ret_pure (Mem.le_trans hM2 hm3) ?_
    have e' : fromV (r.from s k) = [.int .i64 i, .bool bb] := by
      have := (Value.tuple.injEq _ _).mp e
      simpa using (congrArg Array.toList this).symm
    rw [e']; rfl
def isSomeV (o : Option Nat) : Bool := o.isSome
theorem cx_Holds (r : Rg) (a : Option Addr) (s : List Nat) (c : Nat) (n : Int) (m : Mem) (hr : Rep m r.t) (hb : Rg.wrong r s.length n = 0 → Byt m a s) : CX Try.prog 16 #[r.v, .slice a s.length c, .int .i64 n] m [] (Ret (.tuple #[.bool (fromE r s n).isSome, .int .i64 (Rg.wrong r s.length n)])) := by
  apply cx_denote_Holds
  unfold VC_denote_Holds
  intro b m1 hm1 _
  refine call_any (cx_From r a s c n m1 (hr.mono hm1) (fun h => (hb h).mono hm1)) (fun v _ _ e => by rw [e]; cases fromE r s n <;> rfl) ?_
  intro i bb e m2 hm2 he
  refine ret_pure (Mem.le_trans hm1 hm2) ?_
  cases hF : fromE r s n with
  | none =>
    rw [hF] at he
    have := (Value.tuple.injEq _ _).mp he
    have := congrArg Array.toList this
    simp [fromV] at this
    obtain ⟨rfl, rfl, rfl⟩ := this
    rfl
  | some j =>
    rw [hF] at he
    have := (Value.tuple.injEq _ _).mp he
    have := congrArg Array.toList this
    simp [fromV] at this
    obtain ⟨rfl, rfl, rfl⟩ := this
    rfl
end Go.Proofs.Ythiefodednaikaa

