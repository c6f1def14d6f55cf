/- Part of the proof: conditions and contracts of functions of this program. No condition of its own. -/
import Derived.Test.YtmggihkjgbnhbaaPVM
import Derived.Test.YtmggihkjgbnhbaaPC13P
import Derived.Test.YtmggihkjgbnhbaaMr
import Derived.Shelf.SlicesE.Clone
/- slices.Clone of nodes, over the library's own proof of it: the result lies in an array of its own. Copies of trees. -/
set_option linter.unusedVariables false
set_option linter.unusedSimpArgs false
set_option linter.unusedSectionVars false
namespace Go.Proofs.Ytmggihkjgbnhbaa
open Go Go.Eng Go.Rx Go.Proofs Go.RowKit Go.Shelf Go.Lib
set_option maxRecDepth 100000

set_option maxHeartbeats 2000000 in
/-- Clone of a slice of length 0 that is not nil, whatever its address. -/
theorem clone_zero {P : Program} {ρ : Ren} (L : SlLaysE0.n41 P ρ) (i0 : TypeInfo) (z : Value) (size bytes : Nat) (hi : P.info? (ρ.t 23) = some i0) (hz0 : i0.zero = some z) (hz1 : i0.size = size) (hz2 : i0.bytes = bytes) (hzs : z.cells.size = size) (hsz : 0 < size)
    (z23 : ∀ w, (Go.sizeOf (ρ.t 23)).run P w = .ok size w) (a : Addr) (c : Nat) (w : World) :
    Calls P (ρ.f 41) #[.slice (some a) 0 c] w fun e w' => ∃ v', e = .returned v' ∧ w'.ownsRow w.heap.size (ρ.t 23) size v' 0 [] ∧ Below w.heap.size w w' := by
  have mixed := L.mixed; have t4 := L.t4; have a4 := L.a4; have z4 := L.z4; have v4 := L.v4; have t22 := L.t22; have a22 := L.a22; have z22 := L.z22; have v22 := L.v22
  have q22 : ∀ (w : World) (a : Option Addr) (n c n' c' : Nat), (binOp .eql (ρ.t 22) (.slice a n c) (.slice none n' c')).run P w = .ok (.bool a.isNone) w := fun w a n c n' c' => Lib.run_eql_slice_nil w _ _ a n c n' c' L.t22
  have u22 : ∀ w, Sem.run P (underlying (ρ.t 22)) w = .ok (TypeDesc.slice (ρ.t 23)) w := run_underlying t22
  obtain ⟨_, _, FG⟩ := L.f41
  go_enter FG, SlBodyN.n41_ntmps ρ
  go_wp2_with (at_builtin; refine wpList_append_own _ rfl _ _ (ρ.t 22) rfl w.heap.size (ρ.t 23) i0 z size bytes t22 hi hz0 hz1 hz2 hzs hsz _ _ _ rfl (World.ownsRow_made w #[] 0 (Nat.le_refl _) (Nat.zero_le _) (by simp)) a 0 c [] rfl (by simp) (by intro j u hj; simp at hj) (by intro u hu; cases hu) (by unfold maxLen; omega) (by omega) (by simp) ?_)
  intro v' w1 hown hgrow hnil
  go_wp2
  go_ret
  refine ⟨v', rfl, by simpa using hown, ?_⟩
  exact ((Below.refl _ w).alloc (Nat.le_refl _) _).grown hgrow (by simp) (by intro k hk; simp [Value.ownBlock] at hk; omega)
def cloneRen (g s e : Nat) : Ren := ⟨fun | 41 => g | n => n, fun | 4 => 4 | 22 => s | 23 => e | n => n, fun n => n⟩
theorem cxt_clone_any {P : Program} {g s e esz by' : Nat} (L : SlLaysE0.n41 P (cloneRen g s e)) (hent : Enters P g) (hi : (P.info? e).map (fun i => (i.size, i.bytes)) = some (esz, by')) (hz : ((P.info? e).bind (·.zero)).map (·.cells.size) = some esz) (hpos : 0 < esz)
    (hsz : ∀ w, (Go.sizeOf e).run P w = .ok esz w) (a : Option Addr) (n c : Nat) (xs : List Value) (m : Mem) (hrow : rowRd m a xs) (hl : xs.length = n * esz) (h1 : ∀ u ∈ xs, u.oneCell' = true) (hn : n * by' ≤ 140737488355328) (hn2 : n ≤ 4611686018427387904) :
    CXT P g #[.slice a n c] m esz (fun v m' _ => ∃ a' c', v = .slice a' n c' ∧ rowRd m' a' xs ∧ n ≤ c' ∧ (n = 0 ∨ ∃ b, a' = some ⟨b, 0, none⟩ ∧ m.free b)) := by
  refine ⟨hent, fun w hs => ?_⟩
  obtain ⟨i0, h0, hi0⟩ := Option.map_eq_some_iff.1 hi
  obtain ⟨z, hz1, hz2⟩ := Option.map_eq_some_iff.1 hz
  rw [h0] at hz1
  simp only [Option.bind_some] at hz1
  have e1 : i0.size = esz := congrArg Prod.fst hi0
  have e2 : i0.bytes = by' := congrArg Prod.snd hi0
  have key : ∀ (v : Value) (w' : World), w'.ownsRow w.heap.size e esz v n xs → Below w.heap.size w w' → ∃ v' m', Ending.returned v = .returned v' ∧ m.le m' ∧ Sub m' w' ∧ NewOnly m m' w.heap.size ∧ Keep w.heap.size [] w w' ∧ TokOk m' w' ⟨v', esz⟩ ∧ (∀ b, (Tok.mk v' esz).blk = some b → w.heap.size ≤ b) ∧ ∃ a' c', v' = .slice a' n c' ∧ rowRd m' a' xs ∧ n ≤ c' ∧ (n = 0 ∨ ∃ b, a' = some ⟨b, 0, none⟩ ∧ m.free b) := by
    intro v w' ho hb
    have hk : Keep w.heap.size [] w w' := ⟨hb.os, hb.tape, hb.output, hb.size, fun k hk _ => hb.block k hk⟩
    obtain ⟨_, ⟨rfl, hn0⟩ | ⟨q, cap, cur, rfl, hq, hheap, hnc, _, hcur, htake⟩⟩ := ho
    · subst hn0
      have hx0 : xs = [] := List.eq_nil_of_length_eq_zero (by rw [hl, Nat.zero_mul])
      subst hx0
      refine ⟨_, m, rfl, Mem.le_refl _, fun b o v hv => ?_, fun b o v h => .inl h, hk, .inl rfl, fun b hb => by simp [Tok.blk] at hb, none, 0, rfl, .inl rfl, Nat.le_refl _, .inl rfl⟩
      have hlt := hs.lt hv
      rw [cell?_eq (hk.block b hlt (by simp))]; exact hs b o v hv
    · have hfree : m.free q := fun o => by
        cases hm : m q o with
        | none => rfl
        | some v => have := hs.lt hm; omega
      refine ⟨_, m.add q xs, rfl, Mem.le_add hfree xs, fun b o v hv => ?_, fun b o v h => ?_, hk, .inr ⟨q, n, cap, cur, e, (0, 0), rfl, hnc, hheap, by show cap * esz ≤ cur.size; omega, fun o _ => by simp, fun o ho => ?_⟩, fun b hb => by simp [Tok.blk] at hb; omega, some ⟨q, 0, none⟩, cap, rfl, .inr ⟨q, 0, rfl, fun j v hj => by rw [Nat.zero_add, Mem.add_same]; exact hj⟩, hnc, .inr ⟨q, rfl, hfree⟩⟩
      · by_cases hbq : b = q
        · subst hbq
          rw [Mem.add_same] at hv
          have : cur[o]? = some v := by
            rw [← htake] at hv
            have hlt := (List.getElem?_eq_some_iff.1 hv).1
            rw [List.getElem?_take] at hv
            split at hv
            · simpa using hv
            · cases hv
          simp [World.cell?, hheap, this]
        · rw [Mem.add_other _ hbq] at hv
          have hlt := hs.lt hv
          rw [cell?_eq (hk.block b hlt (by simp))]; exact hs b o v hv
      · by_cases hbq : b = q
        · right; omega
        · rw [Mem.add_other _ hbq] at h; exact .inl h
      · rw [Mem.add_same, List.getElem?_eq_none_iff.2]
        simp only at ho; omega
  cases a with
  | none =>
    have hx0 : xs = [] := by
      rcases hrow with h | ⟨b, o, ha, _⟩
      · exact h
      · cases ha
    have hn0 : n = 0 := by
      rw [hx0] at hl
      rcases Nat.mul_eq_zero.1 hl.symm with h | h
      · exact h
      · omega
    refine (AnyE.slices_Clone_nil L n c w).mono ?_
    rintro e' w' ⟨rfl, rfl⟩
    exact key _ _ ⟨hl, .inl ⟨rfl, hn0⟩⟩ (Below.refl _ _)
  | some A =>
    by_cases hx0 : xs = []
    · have hn0 : n = 0 := by
        rw [hx0] at hl
        rcases Nat.mul_eq_zero.1 hl.symm with h | h
        · exact h
        · omega
      subst hn0 hx0
      refine (clone_zero L i0 z esz by' h0 hz1 e1 e2 hz2 hpos hsz A c w).mono ?_
      rintro e' w' ⟨v', rfl, ho, hb⟩
      exact key _ _ ho hb
    · rcases hrow with h | ⟨b, o, ha, hrd⟩
      · exact absurd h hx0
      · cases ha
        refine (AnyE.slices_Clone L i0 z esz by' h0 hz1 e1 e2 hz2 hpos hsz b o n c xs w hl (by unfold maxLen; omega) hn (fun j u hj => hs b (o + j) u (hrd j u hj)) h1).mono ?_
        rintro e' w' ⟨v', rfl, ho, _, hb⟩
        exact key _ _ ho hb
theorem lay_clone_nd : SlLaysE0.n41 Try.prog (cloneRen 75 25 30) :=
  { mixed := mix, f41 := ⟨Try.f75.name, by kernel_rfl, by kernel_rfl⟩
    t4 := Try.underlying4, a4 := Try.isAgg4, z4 := Try.sizeOf4, v4 := Try.zeroValue4
    t22 := Try.underlying25, a22 := Try.isAgg25, z22 := Try.sizeOf25, v22 := Try.zeroValue25 }
theorem oneT (l : List T) : ∀ u ∈ Rx.cellsL l, u.oneCell' = true := by
  intro u hu
  simp only [Rx.cellsL, List.mem_flatten, List.mem_map] at hu
  obtain ⟨_, ⟨t, _, rfl⟩, h⟩ := hu
  simp only [T.cs, T.sl, List.mem_cons, List.not_mem_nil, or_false] at h
  rcases h with rfl | rfl | rfl | rfl | rfl | rfl | rfl | rfl <;> rfl
theorem cxt_clone_nd (a : Option Addr) (c : Nat) (l : List T) (m : Mem) (h : rowRd m a (Rx.cellsL l)) (hl : l.length ≤ 1000000000000) : CXT Try.prog 75 #[.slice a l.length c] m 8 (fun v m' _ => ∃ a' c', v = .slice a' l.length c' ∧ rowRd m' a' (Rx.cellsL l) ∧ l.length ≤ c' ∧ (l.length = 0 ∨ ∃ b, a' = some ⟨b, 0, none⟩ ∧ m.free b)) :=
  cxt_clone_any (by' := 80) lay_clone_nd (Go.Eng.enters_of Try.func75 (by kernel_rfl) (by kernel_rfl)) (by kernel_rfl) (by kernel_rfl) (by decide) Try.sizeOf30 a l.length c (Rx.cellsL l) m h (cellsL_len l) (oneT l) (by omega) (by omega)
theorem row_upd' {m : Mem} {b : Nat} {ts r : List T} {x t : T} (h : rowRd m (some ⟨b, 0, none⟩) (Rx.cellsL (ts ++ x :: r))) : rowRd (m.upd b (0 + ts.length * 8) t.cs) (some ⟨b, 0, none⟩) (Rx.cellsL (ts ++ t :: r)) := by
  rcases h with h | ⟨b', o', ha, h⟩
  · have hl : (Rx.cellsL (ts ++ x :: r)).length = 0 := by rw [h]; rfl
    rw [cellsL_len, List.length_append, List.length_cons] at hl
    omega
  cases ha
  have e : ∀ y : T, Rx.cellsL (ts ++ y :: r) = Rx.cellsL ts ++ (y.cs ++ Rx.cellsL r) := fun y => by simp [Rx.cellsL]
  have h8 : ∀ y : T, y.cs.length = 8 := fun _ => rfl
  refine .inr ⟨b, 0, rfl, fun j v hj => ?_⟩
  rw [e] at hj
  unfold Mem.upd
  rw [Nat.zero_add, Nat.zero_add, h8]
  rcases Nat.lt_or_ge j (ts.length * 8) with hlt | hge
  · rw [if_neg (by omega)]
    rw [List.getElem?_append_left (by rw [cellsL_len]; exact hlt)] at hj
    have := h j v (by rw [e, List.getElem?_append_left (by rw [cellsL_len]; exact hlt)]; exact hj)
    rwa [Nat.zero_add] at this
  · rw [List.getElem?_append_right (by rw [cellsL_len]; exact hge), cellsL_len] at hj
    rcases Nat.lt_or_ge j (ts.length * 8 + 8) with hlt | hge2
    · rw [if_pos ⟨rfl, hge, hlt⟩]
      rw [List.getElem?_append_left (by rw [h8]; omega)] at hj
      exact hj
    · rw [if_neg (by omega)]
      rw [List.getElem?_append_right (by rw [h8]; omega), h8] at hj
      have := h j v (by
        rw [e, List.getElem?_append_right (by rw [cellsL_len]; exact hge), cellsL_len, List.getElem?_append_right (by rw [h8]; omega), h8]; exact hj)
      rwa [Nat.zero_add] at this
set_option maxHeartbeats 800000 in
/-- A copy of a tree. -/
theorem cx_copied (t : T) (m : Mem) (hr : Rep m t) (hz : t.nodes.length ≤ 10000) : CX Try.prog 58 #[t.v] m [] (TreeR fun t' => t'.er = t.er ∧ t'.caps) := by
  have hsz : szL t.subs ≤ 10000 := by rw [sz_eq] at hz; omega
  have hsl : t.subs.length ≤ 10000 := Nat.le_trans (len_szL _) hsz
  apply cx_rx_copied
  unfold VC_rx_copied
  intro b b1
  refine ⟨_, cxt_clone_nd t.a t.c t.subs m (row_of_repL hr.subs) (by omega), (fun v _ _ ⟨a, c, e, _⟩ => by rw [e]; rfl), ?_⟩
  rintro a n c m1 hm1 ⟨a', c', hv, hrow, hnc, hfree⟩
  simp only [Value.slice.injEq] at hv
  obtain ⟨rfl, rfl, rfl⟩ := hv
  have hreps : ∀ x ∈ t.subs, Rep m x := repL_reps hr.subs
  refine ⟨fun xs css tvs m' q => ∃ (k : Nat) (L : List T) (mb : Mem), k ≤ t.subs.length ∧ xs = [.int .i64 k] ∧ q = t.subs.length - k ∧ L.length = k ∧ L.map T.er = (t.subs.take k).map T.er ∧ m.le mb ∧ mb.le m' ∧ (t.subs.length = 0 ∨ ∃ b, a = some ⟨b, 0, none⟩ ∧ mb.free b) ∧ (∀ x ∈ L, Rep mb x ∧ x.caps) ∧ rowRd m' a (Rx.cellsL (L ++ t.subs.drop k)), ⟨_, 0, [], m, by omega, rfl, rfl, rfl, rfl, Mem.le_refl _, hm1, hfree, by simp, hrow⟩, ?_⟩
  rintro z m2 q _ ⟨k, L, mb, hk, hxs, hq, hLk, hLe, hmb, hmb2, hfr, hLr, hrow2⟩
  obtain rfl : z = k := by simpa using hxs
  refine br_intro (fun hlt => ?_) (fun hge => ?_)
  · have hlt' : k < t.subs.length := by have := of_decide_eq_true hlt; omega
    obtain ⟨x, hx⟩ := at_some hlt'
    have hxr := hreps x (List.mem_of_getElem? hx)
    have hxz : x.nodes.length ≤ 10000 := by
      obtain ⟨h1, h2⟩ := List.getElem?_eq_some_iff.1 hx
      have := congrArg List.length (nodesL_split hx)
      unfold szL at hsz
      simp only [List.length_append] at this
      omega
    have hdrop : t.subs.drop k = x :: t.subs.drop (k + 1) := by
      rw [List.drop_eq_getElem_cons hlt', (List.getElem?_eq_some_iff.1 hx).2]
    rcases hfr with hfr | ⟨bk, rfl, hbk⟩
    · omega
    obtain ⟨b0, o0, ha0, hrd⟩ := row_get hrow2 (i := k) (t := x) (by rw [List.getElem?_append_right (by omega), hLk, Nat.sub_self, hdrop]; rfl)
    cases ha0
    have hw : IntKind.i64.wrap ((k : Int) + 1) = ((k + 1 : Nat) : Int) := by rw [wrap64 (by omega) (by omega)]; rfl
    simp only [hw, Int.toNat_natCast]
    have hcx : CX Try.prog 58 #[x.v] m2 [] (TreeF mb m2 fun t' => t'.er = x.er ∧ t'.caps) := (cx_copied x mb (Rep.mono hmb x hxr) hxz).frame2 hmb2
    refine ⟨bk, 0, rfl, ⟨by omega, by omega⟩, _, _, _, _, _, _, _, _, hrd, fun b3 => chk_intro rfl ⟨fun _ _ _ => TreeF mb m2 fun t' => t'.er = x.er ∧ t'.caps, TreeF mb m2 fun t' => t'.er = x.er ∧ t'.caps, rfl, hcx, treeF_fits, treeF_k fun t' m0 m3 hm3 h0 h03 hsame hr' ht' => ⟨bk, 0, rfl, ⟨by omega, by omega⟩, fun M hM2 hM3 => ⟨rfl, by omega, by trivial, by trivial, t.subs.length - (k + 1), by omega, k + 1, L ++ [t'], m0, by omega, rfl, rfl, by simp [hLk], ?_, Mem.le_trans hmb h0, ?_, .inr ⟨bk, rfl, ?_⟩, ?_, ?_⟩⟩⟩⟩
    · rw [List.map_append, hLe, take_at hx, List.map_append]
      simp [ht'.1]
    · refine Mem.le_upd (Mem.le_trans h03 hM3) ?_ _ _
      intro o'
      have hc : m2 bk (0 + k * 8 + 0) = some (.int .u8 x.k) := hrd 0 _ rfl
      rw [hsame _ _ _ hc o']; exact hbk o'
    · intro o'
      have hc : m2 bk (0 + k * 8 + 0) = some (.int .u8 x.k) := hrd 0 _ rfl
      rw [hsame _ _ _ hc o']; exact hbk o'
    · intro y hy
      rcases List.mem_append.1 hy with hy | hy
      · exact ⟨Rep.mono h0 y (hLr y hy).1, (hLr y hy).2⟩
      · simp at hy; subst hy; exact ⟨hr', ht'.2⟩
    · rw [hdrop] at hrow2
      have h5 := row_upd' (t := t') (hrow2.mono hM2)
      rw [hLk] at h5
      rw [List.append_assoc]
      exact h5
  · have hkk : k = t.subs.length := by have := of_decide_eq_false hge; omega
    subst hkk
    rw [List.drop_length, List.append_nil] at hrow2
    rw [List.take_length] at hLe
    have hok := Rep_ok hr
    refine ⟨m2, Mem.le_trans hmb hmb2, Mem.le_refl _, .node t.k t.s0 t.s1 t.s2 t.s3 t.mn t.mx a c L, ?_, ?_, ?_⟩
    · simp only [T.v, T.k, T.s0, T.s1, T.s2, T.s3, T.mn, T.mx, T.a, T.c, T.subs, hLk]
    · have := repL_of hrow2 (fun x hx => Rep.mono hmb2 x (hLr x hx).1) (by omega)
      exact Rep_mk this.1 this.2 hok
    · have := er_node (k := t.k) (s0 := t.s0) (s1 := t.s1) (s2 := t.s2) (s3 := t.s3) (mn := t.mn) (mx := t.mx) (a := a) (a' := t.a) (c := c) (c' := t.c) hLe
      refine ⟨this.trans ?_, caps_node (by omega) fun x hx => (hLr x hx).2⟩
      cases t; rfl
termination_by SizeOf.sizeOf t
decreasing_by exact sub_lt (List.mem_of_getElem? hx)
end Go.Proofs.Ytmggihkjgbnhbaa

