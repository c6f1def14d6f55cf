/- Part of the proof: conditions and contracts of functions of this program. No condition of its own. -/
import Derived.Test.YtplacemlpkhmfaaPC17O
import Derived.Shelf.SlicesE.Reverse
set_option linter.unusedVariables false
set_option linter.unusedSimpArgs false
namespace Go.Proofs.Ytplacemlpkhmfaa
open Go Go.Eng Go.Rx Go.Proofs Go.RowKit Go.Shelf
set_option maxRecDepth 100000
def byVs (l : List Nat) : List Value := l.map fun c : Nat => .int .u8 c
def revRen : Ren := ⟨fun | 35 => 19 | n => n, fun | 0 => 0 | 3 => 3 | 4 => 4 | 22 => 30 | 23 => 5 | n => n, fun n => n⟩
theorem lay_rev : SlLaysE.n35 Try.prog revRen :=
 {mixed := mix, f35 := ⟨Try.f19.name, by kernel_rfl, by kernel_rfl⟩
  t0 := by kernel_rfl, a0 := Try.isAgg0, z0 := Try.sizeOf0, v0 := Try.zeroValue0
  t3 := Try.underlying3, a3 := Try.isAgg3, z3 := Try.sizeOf3, v3 := Try.zeroValue3
  t4 := Try.underlying4, a4 := Try.isAgg4, z4 := Try.sizeOf4, v4 := Try.zeroValue4
  t22 := Try.underlying30, a22 := Try.isAgg30, z22 := Try.sizeOf30, v22 := Try.zeroValue30
  a23 := Try.isAgg5, z23 := Try.sizeOf5 }
theorem mapBlock_at (w : World) (b : Nat) (f : Array Value → Array Value) {cur : Array Value} {T : TypeId} {fr : Nat × Nat} (h : w.heap[b]? = some (.cells cur T fr)) : (Go.Sort.mapBlock w b f).heap[b]? = some (.cells (f cur) T fr) := by
 unfold Go.Sort.mapBlock
 simp only [Array.getElem?_modify, if_true, h, Option.map_some]
 rfl
theorem mapBlock_off (w : World) (b : Nat) (f : Array Value → Array Value) {k : Nat} (h : k ≠ b) : (Go.Sort.mapBlock w b f).heap[k]? = w.heap[k]? := by
 unfold Go.Sort.mapBlock
 simp only [Array.getElem?_modify]
 rw [if_neg (fun e => h e.symm)]
theorem cxy_Reverse (bs : List Nat) (a : Option Addr) (c : Nat) (m : Mem) (hr : rowRd m a (byVs bs)) (hl : bs.length ≤ 100000) :
  CXY Try.prog 19 #[.slice a bs.length c] m (fun k => (Tok.mk (.slice a bs.length c) 1).blk = some k) [] [⟨.slice a bs.length c, 1⟩]
   (fun v m' css tvs => v = .tuple #[] ∧ css = [] ∧ tvs = [.slice a bs.length c] ∧ rowRd m' a (byVs bs.reverse)) := by
 refine ⟨Go.Eng.enters_of Try.func19 (by kernel_rfl) (by kernel_rfl), fun w hs _ _ ht hpw hY => ?_⟩
 obtain ⟨htok, htY⟩ := ht _ (List.mem_singleton.2 rfl)
 by_cases h0 : bs = []
 ·subst h0
  refine (AnyE.slices_Reverse_empty lay_rev a c w).mono ?_
  rintro e w' ⟨rfl, rfl⟩
  refine ⟨_, m, [], [.slice a 0 c], rfl, Mem.off_le _ _, hs, fun b o u h => .inl h, Upd.refl _ _, rfl, fun i x cs hi => by simp at hi, rfl, fun i t tv hi hv => ?_, hpw, rfl, rfl, rfl, .inl rfl⟩
  cases i with
  | zero =>
   simp at hi hv; subst hi hv
   exact ⟨rfl, htok, fun b hb => ⟨.inl hb, by simp⟩⟩
  | succ i => simp at hi
 ·have hne : (byVs bs) ≠ [] := by simp [byVs, h0]
  rcases hr with hr | ⟨b, o, rfl, hrd⟩
  ·exact absurd hr hne
  rcases htok with h1 | ⟨b', o', n', c', cur, T, fr, hv, hnc, hh, hsz, hfr, hroom⟩
  ·cases h1
  simp only [Value.slice.injEq, Option.some.injEq, Addr.mk.injEq, and_true] at hv
  obtain ⟨⟨rfl, rfl⟩, rfl, rfl⟩ := hv
  simp only [Nat.mul_one] at hsz hroom
  have hH : Go.Sort.Holds (fun c : Nat => Value.int .u8 c) w b o bs.toArray := fun j hj => by
   have hj' : j < bs.length := by simpa using hj
   have e : bs.toArray[j]! = bs[j] := by rw [getElem!_pos _ j hj]; simp
   refine ⟨?_, ?_⟩
   ·have := hs _ _ _ (hrd j (.int .u8 (bs[j] : Nat)) (by simp [byVs, hj']))
    rw [this, e]
   ·have h2 := hfr (o + j) (by omega)
    obtain ⟨f1, f2⟩ := fr
    simp only [World.frozen?, hh, Bool.and_eq_false_iff, decide_eq_false_iff_not]
    simp only at h2
    omega
  refine (AnyE.slices_Reverse lay_rev (fun c : Nat => Value.int .u8 c) (fun _ => rfl) b o c bs w hH (by omega)).mono ?_
  rintro e w' ⟨rfl, n, rfl⟩
  have hat : (Go.Sort.putRow (fun c : Nat => Value.int .u8 c) (Go.Sort.ahead w n) b o bs.reverse.toArray).heap[b]? = some (.cells (Go.Sort.putCells (fun c : Nat => Value.int .u8 c) o bs.reverse.toArray cur) T fr) := mapBlock_at _ b _ hh
  have hoff : ∀ k, k ≠ b → (Go.Sort.putRow (fun c : Nat => Value.int .u8 c) (Go.Sort.ahead w n) b o bs.reverse.toArray).heap[k]? = w.heap[k]? := fun k hk => mapBlock_off _ b _ hk
  have hpc : (Go.Sort.putCells (fun c : Nat => Value.int .u8 c) o bs.reverse.toArray cur).size = cur.size := by simp [Go.Sort.putCells]
  have hcell : ∀ k : Nat, (Go.Sort.putCells (fun c : Nat => Value.int .u8 c) o bs.reverse.toArray cur)[k]? = if o ≤ k ∧ k < o + bs.length then (byVs bs.reverse)[k - o]? else cur[k]? := fun k => by
   simp only [Go.Sort.putCells, Array.getElem?_mapIdx]
   by_cases hk : o ≤ k ∧ k < o + bs.length
   ·rw [if_pos hk, Array.getElem?_eq_getElem (by omega), Option.map_some, if_pos (by simpa using hk)]
    have : k - o < bs.reverse.length := by rw [List.length_reverse]; omega
    rw [getElem!_pos _ (k - o) (by simpa using this)]
    have e2 : (byVs bs.reverse)[k - o]? = some (.int .u8 ((bs.reverse[k - o]'this : Nat) : Int)) := by
     unfold byVs; rw [List.getElem?_map, List.getElem?_eq_getElem this]; rfl
    rw [e2]; simp
   ·rw [if_neg hk]
    cases cur[k]? with
    | none => rfl
    | some y => rw [Option.map_some, if_neg (by simpa using hk)]
  refine ⟨_, m.upd b o (byVs bs.reverse), [], [.slice (some ⟨b, o, none⟩) bs.length c], rfl, fun b1 o1 v hv => ?_, fun b1 o1 v hv => ?_, fun b1 o1 u hu => ?_, ⟨rfl, rfl, rfl, ?_, fun k hk hn => ?_, fun k hk => ?_⟩, rfl, fun i x cs hi => by simp at hi, rfl, fun i t tv hi hv => ?_, ?_, rfl, rfl, rfl, .inr ⟨b, o, rfl, fun j v hv => ?_⟩⟩
  ·have hb1 : b1 ≠ b := fun e => by
    subst e
    rw [Mem.off_free (by rfl)] at hv; cases hv
   rw [Mem.upd_other _ hb1]; exact Mem.off_le _ _ _ _ _ hv
  ·by_cases hb1 : b1 = b
   ·subst hb1
    simp only [World.cell?, hat, Option.isSome_none, Bool.false_eq_true, if_false]
    rw [hcell]
    simp only [Mem.upd, true_and] at hv
    have hlen : (byVs bs.reverse).length = bs.length := by simp [byVs]
    rw [hlen] at hv
    split at hv
    ·rename_i hin
     rw [if_pos hin]; exact hv
    ·rename_i hin
     rw [if_neg hin]
     have := hs _ _ _ hv
     simpa only [World.cell?, hh, Option.isSome_none, Bool.false_eq_true, if_false] using this
   ·rw [Mem.upd_other _ hb1] at hv
    rw [cell?_eq (hoff b1 hb1)]; exact hs _ _ _ hv
  ·by_cases hb1 : b1 = b
   ·subst hb1; exact .inr (.inl rfl)
   ·rw [Mem.upd_other _ hb1] at hu; exact .inl hu
  ·show w.heap.size ≤ (Go.Sort.mapBlock (Go.Sort.ahead w n) b _).heap.size
   simp [Go.Sort.mapBlock, Go.Sort.ahead]
  ·refine hoff k fun e => hn (.inr ?_)
   rw [e]; rfl
  ·by_cases hkb : k = b
   ·subst hkb
    intro c1 T1 fr1 hh1 i hi
    rw [hat] at hh1
    simp only [Option.some.injEq, Obj.cells.injEq] at hh1
    obtain ⟨rfl, rfl, rfl⟩ := hh1
    exact hfr i (by rw [hpc] at hi; exact hi)
   ·exact hk.of_eq (hoff k hkb)
  ·cases i with
   | zero =>
    simp at hi hv; subst hi hv
    refine ⟨rfl, .inr ⟨b, o, _, _, _, T, fr, rfl, hnc, hat, by rw [hpc, Nat.mul_one]; exact hsz, fun i hi => hfr i (by rw [hpc] at hi; exact hi), fun k hk1 hk2 => ?_⟩, fun b1 hb1 => ⟨.inl hb1, by simp⟩⟩
    simp only [Nat.mul_one] at hk1 hk2
    simp only [Mem.upd, true_and]
    rw [if_neg (by simp [byVs]; omega)]
    exact hroom k hk1 hk2
   | succ i => simp at hi
  ·intro i j t t' b1 hi hj _ _
   have hi' := (List.getElem?_eq_some_iff.1 hi).1
   have hj' := (List.getElem?_eq_some_iff.1 hj).1
   simp at hi' hj'
   omega
  ·have hjl := (List.getElem?_eq_some_iff.1 hv).1
   simp only [Mem.upd, true_and]
   rw [if_pos ⟨by omega, by omega⟩, Nat.add_sub_cancel_left]; exact hv
end Go.Proofs.Ytplacemlpkhmfaa

