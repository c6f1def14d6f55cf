/- The engine: a reckoner over the code of a program in Lean, with its soundness; it names no program. No condition. -/
import Derived.Test.YtiadlgdcbpnmkaaGreatDoorMa
import Derived.RangeFuncNested
import Derived.RangeFuncLeaves
set_option linter.unusedVariables false
set_option linter.unusedSimpArgs false
namespace Go.Eng
open Go Go.RowKit
theorem wrap_i64_in {n : Int} (h0 : -9223372036854775808 ≤ n) (h1 : n ≤ 9223372036854775807) : IntKind.i64.wrap n = n := by
 simp only [IntKind.wrap, IntKind.bits, IntKind.signed, Bool.true_and]
 split
 ·rename_i h; simp at h; omega
 ·rename_i h; simp at h; omega
def makeW (E : Env) (S : St) (T : TypeId) (l c : Operand) (d : Option Tmp) (K : St → Prop) : Prop := match d with
 | none => False
 | some d => match sliceElem E T with
  | none => False
  | some (e, j) => match S.L d with
   | some _ => False
   | none => wv S l fun vl => wv S c fun vc => chk (isAnyInt vl && isAnyInt vc) ((0 ≤ intOf vl ∧ intOf vl ≤ intOf vc ∧ intOf vc * j.bytes ≤ 281474976710656 ∧ intOf vc ≤ 9223372036854775807) ∧
     ∀ b, K ((S.newL d { b := b, cs := (List.replicate (intOf vc).toNat j.zero.cells.toList).flatten, T := e, cap := (intOf vc).toNat * j.size, fz := false, full := true }).put (some d) (some (.sl d (intOf vl).toNat (intOf vc).toNat))))
def makeMW (E : Env) (S : St) (m : Mem) (T : TypeId) (l c : Operand) (d : Option Tmp) (K : St → Mem → Prop) : Prop := match d with
 | none => False
 | some d => match sliceElem E T with
  | none => False
  | some (e, j) => wv S l fun vl => wv S c fun vc => chk (isAnyInt vl && isAnyInt vc) ((0 ≤ intOf vl ∧ intOf vl ≤ intOf vc ∧ intOf vc * j.bytes ≤ 281474976710656 ∧ intOf vc ≤ 9223372036854775807) ∧
     ∀ b, m.free b → K (S.put (some d) (some (.v (.slice (some ⟨b, 0, none⟩) (intOf vl).toNat (intOf vc).toNat)))) (m.add b (List.replicate (intOf vc).toNat j.zero.cells.toList).flatten))
def mkMOf (E : Env) (d : Option Tmp) : Bool := match d with
 | none => false
 | some d => E.mkM d
theorem zeros_eq (zs : List Value) : ∀ (c : Nat), (List.range (c * zs.length)).map (fun i => zs.toArray[i % zs.toArray.size]!) = (List.replicate c zs).flatten
 | 0 => by simp
 | c + 1 => by
  rw [Nat.add_mul, Nat.one_mul, List.replicate_succ', List.flatten_append, ← zeros_eq zs c, List.range_add, List.map_append]
  congr 1
  simp only [List.flatten_cons, List.flatten_nil, List.append_nil, List.map_map]
  refine List.ext_getElem (by simp) fun i h1 h2 => ?_
  simp only [List.length_map, List.length_range] at h1
  simp only [List.getElem_map, List.getElem_range, Function.comp, List.size_toArray]
  rw [Nat.mul_comm, Nat.mul_add_mod, Nat.mod_eq_of_lt h1]
  simp [h1]
section
variable {C : Ctx} {S : St} {m : Mem} {a : Act} {w : World}
theorem makeW_sound {E : Env} (hE : E.ok) {T : TypeId} {l c : Operand} {d : Option Tmp} {K : St → Prop} (hd : ∀ t, d = some t → t < C.n) (hr : Rel C S m a w) (h : makeW E S T l c d K) :
  ∃ S' v w', K S' ∧ Rel C S' m (a.put d v) w' ∧ (Instr.makeSlice T (a.eval l) (a.eval c)).run E.P w = .ok v w' := by
 unfold makeW at h
 cases d with
 | none => exact h.elim
 | some d =>
  simp only at h
  cases hs : sliceElem E T with
  | none => simp [hs] at h
  | some ej =>
   obtain ⟨e, j⟩ := ej
   simp only [hs] at h
   cases hL : S.L d with
   | some x => simp [hL] at h
   | none =>
    simp only [hL] at h
    obtain ⟨vl, hvl, h⟩ := wv_elim h
    obtain ⟨vc, hvc, h⟩ := wv_elim h
    obtain ⟨h1, ⟨h2, h3, h4, h5⟩, hk⟩ := chk_elim h
    simp only [Bool.and_eq_true] at h1
    obtain ⟨kl, hkl⟩ := isAnyInt_elim h1.1
    obtain ⟨kc, hkc⟩ := isAnyInt_elim h1.2
    generalize hnl : intOf vl = nl at *
    generalize hnc : intOf vc = nc at *
    obtain ⟨i, hi1, hi2, hi3⟩ := sliceElem_spec hs
    have hjok := hE e j hi3
    have hu := (hE T i hi1).run_und (w := w)
    rw [hi2] at hu
    have hsz := hjok.run_size (w := w)
    have hz := hjok.run_zero (w := w)
    obtain ⟨x, g1, _, _, g4⟩ := hjok.run_info (w := w)
    have hzl : j.zero.cells.toList.length = j.size := by simpa using hjok.zsize
    have hlen : ((List.replicate nc.toNat j.zero.cells.toList).flatten).length = nc.toNat * j.size := by simp [hjok.zsize]
    have hb := hr.newBox (d := d) hL (x := { b := w.heap.size, cs := (List.replicate nc.toNat j.zero.cells.toList).flatten, T := e, cap := nc.toNat * j.size, fz := false, full := true }) (m' := m) [] rfl (by simpa using hlen) (fun _ => hlen) (.inl ⟨rfl, rfl⟩)
    simp only [List.append_nil] at hb
    refine ⟨_, .slice (some ⟨w.heap.size, 0, none⟩) nl.toNat nc.toNat, _, hk w.heap.size, hb.put (some d) hd (by simp [St.den, St.newL]), ?_⟩
    rw [hr.ev hvl, hr.ev hvc, hkl, hkc]
    have w1 : IntKind.i64.wrap nl = nl := wrap_i64_in (by omega) (by omega)
    have w2 : IntKind.i64.wrap nc = nc := wrap_i64_in (by omega) (by omega)
    have hnc0 : 0 ≤ nc := by omega
    have c1 : ¬ (nc < 0) := by omega
    have c2 : ¬ (nl < 0) := by omega
    have c3 : ¬ (nc < nl) := by omega
    have c4 : ¬ (281474976710656 < (x.bytes : Int) * nc) := by rw [g4, Int.mul_comm]; omega
    have harr : (Array.map (fun i => (if nc.toNat * j.size = 0 then (#[] : Array Value) else j.zero.cells)[i % (if nc.toNat * j.size = 0 then (#[] : Array Value) else j.zero.cells).size]!) (Array.range (nc.toNat * j.size))) = (List.replicate nc.toNat j.zero.cells.toList).flatten.toArray := by
     have := zeros_eq j.zero.cells.toList nc.toNat
     rw [hzl] at this
     apply Array.ext'
     by_cases h0 : nc.toNat * j.size = 0
     ·have hnil : (List.replicate nc.toNat j.zero.cells.toList).flatten = [] := List.eq_nil_of_length_eq_zero (by rw [hlen, h0])
      simp [h0, hnil]
     ·simp only [h0, if_false, Array.toList_map, Array.toList_range]
      rw [← this]
    by_cases h0 : nc.toNat * j.size = 0
    ·simp only [h0, if_true] at harr
     simp [Instr.makeSlice, hu, asInt, asIntOf, g1, w1, w2, c1, c2, c3, c4, hsz, h0, newRow, ← harr]
    ·simp only [h0, if_false] at harr
     simp [Instr.makeSlice, hu, asInt, asIntOf, g1, w1, w2, c1, c2, c3, c4, hsz, h0, hz, newRow, ← harr]
theorem makeMW_sound {E : Env} (hE : E.ok) {T : TypeId} {l c : Operand} {d : Option Tmp} {K : St → Mem → Prop} (hd : ∀ t, d = some t → t < C.n) (hr : Rel C S m a w) (h : makeMW E S m T l c d K) :
  ∃ S' m' v w', K S' m' ∧ Rel C S' m' (a.put d v) w' ∧ (Instr.makeSlice T (a.eval l) (a.eval c)).run E.P w = .ok v w' := by
 unfold makeMW at h
 cases d with
 | none => exact h.elim
 | some d =>
  simp only at h
  cases hs : sliceElem E T with
  | none => simp [hs] at h
  | some ej =>
   obtain ⟨e, j⟩ := ej
   simp only [hs] at h
   obtain ⟨vl, hvl, h⟩ := wv_elim h
   obtain ⟨vc, hvc, h⟩ := wv_elim h
   obtain ⟨h1, ⟨h2, h3, h4, h5⟩, hk⟩ := chk_elim h
   simp only [Bool.and_eq_true] at h1
   obtain ⟨kl, hkl⟩ := isAnyInt_elim h1.1
   obtain ⟨kc, hkc⟩ := isAnyInt_elim h1.2
   generalize hnl : intOf vl = nl at *
   generalize hnc : intOf vc = nc at *
   obtain ⟨i, hi1, hi2, hi3⟩ := sliceElem_spec hs
   have hjok := hE e j hi3
   have hu := (hE T i hi1).run_und (w := w)
   rw [hi2] at hu
   have hsz := hjok.run_size (w := w)
   have hz := hjok.run_zero (w := w)
   obtain ⟨x, g1, _, _, g4⟩ := hjok.run_info (w := w)
   have hzl : j.zero.cells.toList.length = j.size := by simpa using hjok.zsize
   have hlen : ((List.replicate nc.toNat j.zero.cells.toList).flatten).length = nc.toNat * j.size := by simp [hjok.zsize]
   have hnone : ∀ o, m w.heap.size o = none := fun o => by
    cases he : m w.heap.size o with
    | none => rfl
    | some u => have := hr.sub.lt he; omega
   have hsub : Sub (m.add w.heap.size (List.replicate nc.toNat j.zero.cells.toList).flatten) (w.alloc (.cells ((List.replicate nc.toNat j.zero.cells.toList).flatten).toArray e (0, 0))) := (hr.sub.alloc _).add fun o v hv => by
     have : (w.alloc (.cells ((List.replicate nc.toNat j.zero.cells.toList).flatten).toArray e (0, 0))).heap[w.heap.size]? = some (.cells ((List.replicate nc.toNat j.zero.cells.toList).flatten).toArray e (0, 0)) := by show (w.heap.push _)[w.heap.size]? = _; simp
     simp only [World.cell?, this]
     simpa using hv
   have hrw := hr.world (m' := m.add w.heap.size (List.replicate nc.toNat j.zero.cells.toList).flatten) (Keep.alloc (Nat.le_refl _) (wrObj0 _ _)) hsub (Mem.le_add hnone _) (NewM.add _ _ ⟨Nat.le_refl _, Wr.new (wrObj0 _ _)⟩)
   refine ⟨_, _, .slice (some ⟨w.heap.size, 0, none⟩) nl.toNat nc.toNat, _, hk w.heap.size hnone, hrw.put (some d) hd rfl, ?_⟩
   rw [hr.ev hvl, hr.ev hvc, hkl, hkc]
   have w1 : IntKind.i64.wrap nl = nl := wrap_i64_in (by omega) (by omega)
   have w2 : IntKind.i64.wrap nc = nc := wrap_i64_in (by omega) (by omega)
   have hnc0 : 0 ≤ nc := by omega
   have c1 : ¬ (nc < 0) := by omega
   have c2 : ¬ (nl < 0) := by omega
   have c3 : ¬ (nc < nl) := by omega
   have c4 : ¬ (281474976710656 < (x.bytes : Int) * nc) := by rw [g4, Int.mul_comm]; omega
   have harr : (Array.map (fun i => (if nc.toNat * j.size = 0 then (#[] : Array Value) else j.zero.cells)[i % (if nc.toNat * j.size = 0 then (#[] : Array Value) else j.zero.cells).size]!) (Array.range (nc.toNat * j.size))) = (List.replicate nc.toNat j.zero.cells.toList).flatten.toArray := by
    have := zeros_eq j.zero.cells.toList nc.toNat
    rw [hzl] at this
    apply Array.ext'
    by_cases h0 : nc.toNat * j.size = 0
    ·have hnil : (List.replicate nc.toNat j.zero.cells.toList).flatten = [] := List.eq_nil_of_length_eq_zero (by rw [hlen, h0])
     simp [h0, hnil]
    ·simp only [h0, if_false, Array.toList_map, Array.toList_range]
     rw [← this]
   by_cases h0 : nc.toNat * j.size = 0
   ·simp only [h0, if_true] at harr
    simp [Instr.makeSlice, hu, asInt, asIntOf, g1, w1, w2, c1, c2, c3, c4, hsz, h0, newRow, ← harr]
   ·simp only [h0, if_false] at harr
    simp [Instr.makeSlice, hu, asInt, asIntOf, g1, w1, w2, c1, c2, c3, c4, hsz, h0, hz, newRow, ← harr]
def frW (fr : Option Mem) (b : Nat) (p : Prop) : Prop := match fr with
 | none => p
 | some m => m.free b → p
theorem frW_elim {fr : Option Mem} {m : Mem} {b : Nat} {p : Prop} (hfr : ∀ m', fr = some m' → m' = m) (hf : m.free b) (h : frW fr b p) : p := by
 cases fr with
 | none => exact h
 | some m' => exact h (by rw [hfr m' rfl]; exact hf)
theorem frW_mono {fr : Option Mem} {b : Nat} {p q : Prop} (h : p → q) (hx : frW fr b p) : frW fr b q := by
 cases fr with
 | none => exact h hx
 | some m => exact fun hf => h (hx hf)
def makeTW (E : Env) (S : St) (fr : Option Mem) (T : TypeId) (l c : Operand) (d : Option Tmp) (key : Nat) (K : St → Prop) : Prop := match d with
 | none => False
 | some d => match sliceElem E T with
  | none => False
  | some (e, j) => wv S l fun vl => wv S c fun vc => chk (isAnyInt vl && isAnyInt vc) ((intOf vl = 0 ∧ 0 ≤ intOf vc ∧ intOf vc * j.bytes ≤ 281474976710656 ∧ intOf vc ≤ 9223372036854775807) ∧
     ∀ b, frW fr b (K (({ S with tok := fun k => bif Nat.beq k key then some ⟨.slice (some ⟨b, 0, none⟩) 0 (intOf vc).toNat, j.size⟩ else S.tok k, tkeys := key :: S.tkeys } : St).put (some d) (some (.v (.slice (some ⟨b, 0, none⟩) 0 (intOf vc).toNat))))))
theorem makeTW_sound {E : Env} (hE : E.ok) {T : TypeId} {l c : Operand} {d : Option Tmp} {key : Nat} {K : St → Prop} {fr : Option Mem} (hfr : ∀ m', fr = some m' → m' = m) (hd : ∀ t, d = some t → t < C.n) (hr : Rel C S m a w) (h : makeTW E S fr T l c d key K) :
  ∃ S' v w', K S' ∧ Rel C S' m (a.put d v) w' ∧ (Instr.makeSlice T (a.eval l) (a.eval c)).run E.P w = .ok v w' ∧
   (c = .const (.int .i64 0) → ∃ i e, E.tt T = some i ∧ i.d = .slice e ∧ v = .slice (some ⟨w.heap.size, 0, none⟩) 0 0 ∧ w' = w.alloc (.cells #[] e (0, 0))) := by
 unfold makeTW at h
 cases d with
 | none => exact h.elim
 | some d =>
  simp only at h
  cases hs : sliceElem E T with
  | none => simp [hs] at h
  | some ej =>
   obtain ⟨e, j⟩ := ej
   simp only [hs] at h
   obtain ⟨vl, hvl, h⟩ := wv_elim h
   obtain ⟨vc, hvc, h⟩ := wv_elim h
   obtain ⟨h1, ⟨h2, h3, h4, h5⟩, hk⟩ := chk_elim h
   simp only [Bool.and_eq_true] at h1
   obtain ⟨kl, hkl⟩ := isAnyInt_elim h1.1
   obtain ⟨kc, hkc⟩ := isAnyInt_elim h1.2
   generalize hnl : intOf vl = nl at *
   generalize hnc : intOf vc = nc at *
   subst h2
   obtain ⟨i, hi1, hi2, hi3⟩ := sliceElem_spec hs
   have hjok := hE e j hi3
   have hu := (hE T i hi1).run_und (w := w)
   rw [hi2] at hu
   have hsz := hjok.run_size (w := w)
   have hz := hjok.run_zero (w := w)
   obtain ⟨x, g1, _, _, g4⟩ := hjok.run_info (w := w)
   have hzl : j.zero.cells.toList.length = j.size := by simpa using hjok.zsize
   have hlen : ((List.replicate nc.toNat j.zero.cells.toList).flatten).length = nc.toNat * j.size := by simp [hjok.zsize]
   have hsub : Sub m (w.alloc (.cells ((List.replicate nc.toNat j.zero.cells.toList).flatten).toArray e (0, 0))) := hr.sub.alloc _
   have hrw : Rel C S m a (w.alloc (.cells ((List.replicate nc.toNat j.zero.cells.toList).flatten).toArray e (0, 0))) := hr.world (Keep.alloc (Nat.le_refl _) (wrObj0 _ _)) hsub (Mem.le_refl m) (NewM.refl _ _)
   have hnone : ∀ o, m w.heap.size o = none := fun o => by
    cases he : m w.heap.size o with
    | none => rfl
    | some u => have := hr.sub.lt he; omega
   have htok : TokOk m (w.alloc (.cells ((List.replicate nc.toNat j.zero.cells.toList).flatten).toArray e (0, 0))) ⟨.slice (some ⟨w.heap.size, 0, none⟩) 0 nc.toNat, j.size⟩ :=
    .inr ⟨w.heap.size, 0, 0, nc.toNat, ((List.replicate nc.toNat j.zero.cells.toList).flatten).toArray, e, (0, 0), rfl, Nat.zero_le _, by show (w.heap.push _)[w.heap.size]? = _; simp, by show 0 + nc.toNat * j.size ≤ ((List.replicate nc.toNat j.zero.cells.toList).flatten).length; rw [hlen, Nat.zero_add]; exact Nat.le_refl _, fun o _ ho => by simp at ho, fun o _ _ => hnone o⟩
   have hblk : ∀ b, (Tok.mk (.slice (some ⟨w.heap.size, 0, none⟩) 0 nc.toNat) j.size).blk = some b → b = w.heap.size := fun b hb => by simp [Tok.blk] at hb; exact hb.symm
   have hfin := hrw.tokUpd key _ htok (fun b hb => by
    have := hblk b hb
    subst this
    refine ⟨⟨fun id x hx e => ?_, fun o => ?_⟩, fun k' t' _ hk' hb' => ?_⟩
    ·have := (hr.own id x hx).lt; omega
    ·cases he : C.me w.heap.size o with
     | none => rfl
     | some u => have := hr.sub.lt (hr.le _ _ _ he); omega
    ·have := (hr.toks k' t' hk').1.lt hb'; omega) (by
    obtain ⟨M, hd'⟩ := hr.dom
    refine ⟨_, hd'.step (m' := m) ((Keep.alloc (Nat.le_refl _) (wrObj0 _ _) : Keep w.heap.size [] w _).upd (by simp)) (NewM.refl _ _), fun b hb => ?_⟩
    have := hblk b hb
    subst this
    exact .inr ⟨Nat.le_refl _, by show w.heap.size < (w.heap.push _).size; simp, Wr.new (wrObj0 _ _)⟩)
   have hkk := hk w.heap.size
   have hkk' := frW_elim hfr hnone hkk
   refine ⟨_, .slice (some ⟨w.heap.size, 0, none⟩) 0 nc.toNat, _, hkk', hfin.put (some d) hd rfl, ?_, fun hc => ⟨i, e, hi1, hi2, ?_, ?_⟩⟩
   rotate_left
   ·subst hc
    have : vc = .int .i64 0 := by simpa [St.val, St.ev, St.den] using hvc.symm
    subst this
    simp only [intOf] at hnc; subst hnc; rfl
   ·subst hc
    have : vc = .int .i64 0 := by simpa [St.val, St.ev, St.den] using hvc.symm
    subst this
    simp only [intOf] at hnc; subst hnc; rfl
   rw [hr.ev hvl, hr.ev hvc, hkl, hkc]
   have w1 : IntKind.i64.wrap 0 = 0 := wrap_i64_in (by omega) (by omega)
   have w2 : IntKind.i64.wrap nc = nc := wrap_i64_in (by omega) (by omega)
   have c1 : ¬ (nc < 0) := by omega
   have c2 : ¬ ((0 : Int) < 0) := by omega
   have c4 : ¬ (281474976710656 < (x.bytes : Int) * nc) := by rw [g4, Int.mul_comm]; omega
   have harr : (Array.map (fun i => (if nc.toNat * j.size = 0 then (#[] : Array Value) else j.zero.cells)[i % (if nc.toNat * j.size = 0 then (#[] : Array Value) else j.zero.cells).size]!) (Array.range (nc.toNat * j.size))) = ((List.replicate nc.toNat j.zero.cells.toList).flatten).toArray := by
    have := zeros_eq j.zero.cells.toList nc.toNat
    rw [hzl] at this
    apply Array.ext'
    by_cases h0 : nc.toNat * j.size = 0
    ·have hnil : (List.replicate nc.toNat j.zero.cells.toList).flatten = [] := List.eq_nil_of_length_eq_zero (by rw [hlen, h0])
     simp [h0, hnil]
    ·simp only [h0, if_false, Array.toList_map, Array.toList_range]
     rw [← this]
   by_cases h0 : nc.toNat * j.size = 0
   ·simp only [h0, if_true] at harr
    simp [Instr.makeSlice, hu, asInt, asIntOf, g1, w1, w2, c1, c2, c4, hsz, h0, newRow, ← harr]
   ·simp only [h0, if_false] at harr
    simp [Instr.makeSlice, hu, asInt, asIntOf, g1, w1, w2, c1, c2, c4, hsz, h0, hz, newRow, ← harr]
theorem Rel.freeze (h : Rel C S m a w) {id : Nat} {x : Box} (hx : S.L id = some x) (n : Nat) (hn : ∃ cells T fr, w.heap[x.b]? = some (.cells cells T fr) ∧ cells.size = n) : Rel C S m a (w.freeze ⟨x.b, n, none⟩ 1) := by
 obtain ⟨sp, fr, hh, hc, hf⟩ := (h.own id x hx).cells
 obtain ⟨cells, T, fr', hh', hcn⟩ := hn
 rw [hh] at hh'
 simp only [Option.some.injEq, Obj.cells.injEq] at hh'
 obtain ⟨e1, _, _⟩ := hh'
 have hcap : n = x.cap := by rw [← hcn, ← e1]; simpa using hc
 have hother : ∀ k, k ≠ x.b → (w.freeze ⟨x.b, n, none⟩ 1).heap[k]? = w.heap[k]? := fun k hk => by
  simp only [World.freeze, Nat.one_ne_zero, if_false, Array.getElem?_modify]
  rw [if_neg (by simpa using Ne.symm hk)]
 have hself : ∃ fr', (w.freeze ⟨x.b, n, none⟩ 1).heap[x.b]? = some (.cells (x.cs ++ sp).toArray x.T fr') ∧ (fr'.1 = fr'.2 ∨ x.cap ≤ fr'.1) := by
  obtain ⟨lo, hi⟩ := fr
  refine ⟨if lo == hi then (n, n + 1) else (min lo n, max hi (n + 1)), ?_, ?_⟩
  ·simp only [World.freeze, Nat.one_ne_zero, if_false, Array.getElem?_modify, if_true, hh, Option.map_some]
  ·split
   ·right; simp only; omega
   ·rename_i hne
    simp only at hf
    rcases hf with hf | hf
    ·simp [hf] at hne
    ·right; simp only; omega
 obtain ⟨fr2, hself, hfr2⟩ := hself
 have hcell : ∀ (b o : Nat), (w.freeze ⟨x.b, n, none⟩ 1).cell? ⟨b, o, none⟩ = w.cell? ⟨b, o, none⟩ := fun b o => by
  by_cases hb : b = x.b
  ·subst hb; simp only [World.cell?, hself, hh]
  ·exact cell?_eq (hother b hb) o
 have hos : (w.freeze ⟨x.b, n, none⟩ 1).os = w.os ∧ (w.freeze ⟨x.b, n, none⟩ 1).tape = w.tape ∧ (w.freeze ⟨x.b, n, none⟩ 1).output = w.output ∧ (w.freeze ⟨x.b, n, none⟩ 1).heap.size = w.heap.size := by
  simp [World.freeze]
 have := h.upd (w' := w.freeze ⟨x.b, n, none⟩ 1) (m' := m) (L' := S.L) [x.b] ⟨hos.1, hos.2.1, hos.2.2.1, by omega, fun k _ hk => hother k (by simpa using hk), fun k _ hk => by
  by_cases hkb : k = x.b
  ·subst hkb
   intro c1 T1 fr1 hh1 i hi hf1
   rw [hself] at hh1
   simp only [Option.some.injEq, Obj.cells.injEq] at hh1
   obtain ⟨rfl, rfl, rfl⟩ := hh1
   have : i < x.cap := by rw [← hc]; simpa using hi
   omega
  ·exact hk.of_eq (hother k hkb)⟩ (h.sub.wr1 (h.own id x hx).isC hother (fun _ _ h => h) fun b o v hv => by rw [hcell]; exact h.sub b o v hv) (Mem.le_refl m) (NewM.refl _ _) (fun _ => rfl)
  (fun i y hy => by
   by_cases hi : i = id
   ·subst hi
    rw [hx] at hy; cases hy
    have ho := (h.own _ x hx)
    exact .inr ⟨⟨sp, fr2, hself, hc, hfr2⟩, ho.free, ho.known, ho.whole⟩
   ·refine .inl ⟨hy, ?_⟩
    simp only [List.mem_singleton]
    exact fun e => hi (h.apart i id y x hy hx e))
  (fun b hb => ⟨id, x, hx, by simp at hb; exact hb.symm⟩)
 exact this
theorem run_markStringish {P : Program} {w : World} (b o : Nat) {cells : Array Value} {T : TypeId} {fr : Nat × Nat} (h : w.heap[b]? = some (.cells cells T fr)) :
  (markStringish ⟨b, o, none⟩).run P w = .ok () (w.freeze ⟨b, cells.size, none⟩ 1) := by
 simp [markStringish, World.shape?, h]
end
def strBytes (s : ByteArray) : List Value := s.data.toList.map fun b => .int .u8 b.toNat
def isStrBytes (E : Env) (s d : TypeId) : Bool := isStrT E s && (match sliceElem E d with
 | none => false
 | some (_, j) => match j.d with
  | .int .u8 => true
  | _ => false)
def strBW (S : St) (m : Mem) (x : Operand) (d : Option Tmp) (K : St → Mem → Prop) : Prop :=
 wv S x fun v => chk (isStr v) (∀ (b c : Nat), m.free b → (strOf v).size ≤ c → K (S.put d (some (.v (.slice (some ⟨b, 0, none⟩) (strOf v).size c)))) (m.add b (strBytes (strOf v))))
section
variable {C : Ctx} {S : St} {m : Mem} {a : Act} {w : World}
theorem strBW_sound {E : Env} (hE : E.ok) {s d : TypeId} (hsb : isStrBytes E s d = true) {x : Operand} {t : Option Tmp} {K : St → Mem → Prop} (hd : ∀ t', t = some t' → t' < C.n) (hr : Rel C S m a w) (h : strBW S m x t K) :
  ∃ S' m' v w', K S' m' ∧ Rel C S' m' (a.put t v) w' ∧ (convert s d (a.eval x)).run E.P w = .ok v w' := by
 unfold strBW at h
 obtain ⟨v, hv, h⟩ := wv_elim h
 obtain ⟨h1, hk⟩ := chk_elim h
 have he := hr.ev hv
 have hvs := isStr_elim h1
 generalize strOf v = bs at *
 subst hvs
 unfold isStrBytes at hsb
 rw [Bool.and_eq_true] at hsb
 obtain ⟨i, hi, hid⟩ := isStrT_spec hsb.1
 have hsb := hsb.2
 cases hs : sliceElem E d with
 | none => simp [hs] at hsb
 | some ej =>
  obtain ⟨e, j⟩ := ej
  simp only [hs] at hsb
  obtain ⟨k, hk1, hk2, hk3⟩ := sliceElem_spec hs
  have hjd : j.d = .int .u8 := by
   cases hjd : j.d with
   | int kk => cases kk <;> simp [hjd] at hsb <;> rfl
   | _ => simp [hjd] at hsb
  have hus := (hE s i hi).run_und (w := w)
  rw [hid] at hus
  have hud := (hE d k hk1).run_und (w := w)
  rw [hk2] at hud
  have hue := (hE e j hk3).run_und (w := w)
  rw [hjd] at hue
  generalize hcap : grownCap w bs.size 0 e = cap
  have hge : bs.size ≤ cap := by rw [← hcap]; exact grownCap_ge w bs.size 0 e
  have hfree : m.free w.heap.size := fun o => by
   cases he : m w.heap.size o with
   | none => rfl
   | some v => have := hr.sub.lt he; omega
  obtain ⟨cells, hcells⟩ : ∃ cells, cells = (strBytes bs ++ List.replicate (cap - bs.size) (Value.int .u8 0)).toArray := ⟨_, rfl⟩
  obtain ⟨w1, hw1⟩ : ∃ w1, w1 = w.drew.alloc (.cells cells e (0, 0)) := ⟨_, rfl⟩
  have hn1 : w1.heap[w.heap.size]? = some (.cells cells e (0, 0)) := by rw [hw1]; exact heap_alloc_new w.drew _
  obtain ⟨w2, hw2⟩ : ∃ w2, w2 = w1.freeze ⟨w.heap.size, cells.size, none⟩ 1 := ⟨_, rfl⟩
  have hother : ∀ k, k ≠ w.heap.size → w2.heap[k]? = w1.heap[k]? := fun k hk => by
   rw [hw2]
   simp only [World.freeze, Nat.one_ne_zero, if_false, Array.getElem?_modify]
   rw [if_neg (by simpa using Ne.symm hk)]
  have hself : ∃ fr', w2.heap[w.heap.size]? = some (.cells cells e fr') := by
   rw [hw2]
   simp only [World.freeze, Nat.one_ne_zero, if_false, Array.getElem?_modify, if_true, hn1, Option.map_some]
   exact ⟨_, rfl⟩
  obtain ⟨fr', hself⟩ := hself
  have hwrs : Wr w2 w.heap.size := by
   intro c1 T1 fr1 hh i hi
   rw [hw2] at hh
   simp [World.freeze, Array.getElem?_modify, hn1] at hh
   obtain ⟨rfl, rfl, rfl⟩ := hh
   simp only; omega
  have hkeep1 : Keep w.heap.size [] w w1 := (Keep.drew w).trans (by rw [hw1]; exact Keep.alloc (B := w.heap.size) (w := w.drew) (show w.heap.size ≤ w.drew.heap.size from Nat.le_refl _) (wrObj0 _ _))
  have hkeep2 : Keep w.heap.size [] w1 w2 := by
   refine ⟨by rw [hw2]; simp [World.freeze], by rw [hw2]; simp [World.freeze], by rw [hw2]; simp [World.freeze], by rw [hw2]; simp [World.freeze], fun k hk _ => hother k (by omega), fun k _ hk => ?_⟩
   by_cases hkb : k = w.heap.size
   ·subst hkb; exact hwrs
   ·exact hk.of_eq (hother k hkb)
  have hkeep := hkeep1.trans hkeep2
  have hsub' : Sub (m.add w.heap.size (strBytes bs)) w2 := by
   refine (hr.sub.below fun b' hlt => hkeep.block b' hlt (by simp)).add fun o v hv => ?_
   have hlt := (List.getElem?_eq_some_iff.1 hv).1
   simp only [World.cell?, hself, Option.isSome_none, Bool.false_eq_true, if_false, hcells, List.getElem?_toArray]
   rw [List.getElem?_append_left hlt, hv]
  have hrel : Rel C S (m.add w.heap.size (strBytes bs)) a w2 := hr.world hkeep hsub' (Mem.le_add hfree _) (NewM.add _ _ ⟨Nat.le_refl _, hwrs⟩)
  refine ⟨_, _, .slice (some ⟨w.heap.size, 0, none⟩) bs.size cap, w2, hk w.heap.size cap hfree hge, hrel.put t hd rfl, ?_⟩
  have hms := run_markStringish (P := E.P) (w := w1) w.heap.size 0 hn1
  have harr : (Array.map (fun b : UInt8 => Value.int .u8 (b.toNat : Int)) bs.data ++ Array.replicate (cap - bs.size) (Value.int .u8 0)) = cells := by
   rw [hcells]
   apply Array.ext'
   simp [strBytes]
  have hnr : (newRow e cells).run E.P w.drew = .ok ⟨w.heap.size, 0, none⟩ w1 := by
   rw [hw1]; simp [newRow]
  rw [he]
  simp only [convert, Sem.run_bind, hus, Result.andThen_ok, hud, hue, Conv.stringToBytes]
  simp [Question.forced]
  rw [show (Question.appendCap bs.size 0 e).cut (w.tape w.drawn (Question.appendCap bs.size 0 e)) = cap from hcap, harr, hnr]
  simp only [Result.andThen_ok, hms, ← hw2]
end
def isBytesStr (E : Env) (s d : TypeId) : Bool := isStrT E d && (match sliceElem E s with
 | none => false
 | some (_, j) => match j.d with
  | .int .u8 => true
  | _ => false)
def bytesStrW (S : St) (m : Mem) (x : Operand) (K : Value → Prop) : Prop := match S.ev x with
 | some (.sl id n c) => match S.L id with
  | none => False
  | some bx => ∃ bs : ByteArray, Nat.beq bs.size n = true ∧ strBytes bs = bx.cs.take n ∧ K (.string bs)
 | _ => wv S x fun v => chk (isSl v) (∃ bs : ByteArray, bs.size = slN v ∧ rowRd m (slA v) (strBytes bs) ∧ K (.string bs))
def bytesFW (S : St) (m : Mem) (x : Operand) (K : Value → Prop) : Prop := match S.ev x with
 | some (.v v) => chk (isSl v) (∃ bs : ByteArray, bs.size = slN v ∧ rowRd m (slA v) (strBytes bs) ∧ K (.string bs))
 | _ => False
theorem bytesFW_str {S : St} {m : Mem} {x : Operand} {K : Value → Prop} (h : bytesFW S m x K) : bytesStrW S m x K := by
 unfold bytesFW at h
 unfold bytesStrW
 split at h
 ·rename_i v he
  simp only [he]
  unfold wv St.val
  simp only [he, St.den]
  exact h
 ·exact h.elim
def bytesW (E : Env) (S : St) (m : Mem) (x : Operand) (K : Value → Prop) : Prop := bif E.fix.isSome then bytesFW S m x K else bytesStrW S m x K
theorem bytesW_str {E : Env} {S : St} {m : Mem} {x : Operand} {K : Value → Prop} (h : bytesW E S m x K) : bytesStrW S m x K := by
 unfold bytesW at h
 cases hf : E.fix.isSome with
 | true => rw [hf] at h; exact bytesFW_str h
 | false => rw [hf] at h; exact h
theorem bytesFW_mono {S : St} {m : Mem} {x : Operand} {k k' : Value → Prop} (h : ∀ v, k v → k' v) (hx : bytesFW S m x k) : bytesFW S m x k' := by
 unfold bytesFW at *
 split at hx
 ·obtain ⟨h1, bs, h2, h3, h4⟩ := chk_elim hx
  exact chk_intro h1 ⟨bs, h2, h3, h _ h4⟩
 ·exact hx.elim
theorem strBytes_len (s : ByteArray) : (strBytes s).length = s.size := by
 unfold strBytes ByteArray.size
 rw [List.length_map, Array.length_toList]
theorem fold_push (ns : List UInt8) : ∀ s : ByteArray, (ns.map fun b : UInt8 => (b.toNat : Int)).foldl (fun (r : ByteArray) (n : Int) => r.push (UInt8.ofNat n.toNat)) s = ⟨s.data ++ ns.toArray⟩ := by
 induction ns with
 | nil => intro s; simp
 | cons b l ih =>
  intro s
  rw [List.map_cons, List.foldl_cons, ih]
  congr 1
  apply Array.ext'
  simp [ByteArray.push]
theorem run_bytesStr {P : Program} {w : World} {s d e : TypeId} {a : Option Addr} {c : Nat} {bs : ByteArray} (hs : P.underlying s = some (.slice e)) (he : P.underlying e = some (.int .u8)) (hd : P.underlying d = some .string)
  (hrd : ∀ j v, (strBytes bs)[j]? = some v → ∃ b o, a = some ⟨b, o, none⟩ ∧ w.cell? ⟨b, o + j, none⟩ = some v) : (convert s d (.slice a bs.size c)).run P w = .ok (.string bs) w := by
 rw [run_convert_bytes_string w s d e a bs.size c hs he hd]
 cases a with
 | none =>
  have h0 : strBytes bs = [] := by
   cases h : strBytes bs with
   | nil => rfl
   | cons v l => obtain ⟨_, _, h1, _⟩ := hrd 0 v (by rw [h]; rfl); cases h1
  have hb : bs.size = 0 := by rw [← strBytes_len, h0]; rfl
  have : bs = ByteArray.empty := by
   cases bs with
   | mk data =>
    have : data = #[] := Array.eq_empty_of_size_eq_zero hb
    subst this; rfl
  subst this
  simp [Conv.bytesToString]
 | some a =>
  have hl : (loadCells a bs.size).run P w = .ok (((bs.data.toList.map fun b : UInt8 => (b.toNat : Int))).map (Value.int .u8)).toArray w := by
   have hmap : (bs.data.toList.map fun b : UInt8 => (b.toNat : Int)).map (Value.int .u8) = strBytes bs := by simp [strBytes]
   rw [hmap]
   by_cases h0 : bs.size = 0
   ·have : strBytes bs = [] := List.eq_nil_of_length_eq_zero (by rw [strBytes_len, h0])
    rw [this, h0]; rfl
   ·obtain ⟨v, hv⟩ : ∃ v, (strBytes bs)[0]? = some v := ⟨_, List.getElem?_eq_getElem (by rw [strBytes_len]; omega)⟩
    obtain ⟨b, o, ha, _⟩ := hrd 0 v hv
    cases ha
    rw [← strBytes_len]
    exact run_loadCells_at b o _ (fun j u hu => by obtain ⟨_, _, h1, h2⟩ := hrd j u hu; cases h1; exact h2)
  have hfin : (⟨ByteArray.empty.data ++ bs.data.toList.toArray⟩ : ByteArray) = bs := by
   cases bs with
   | mk data =>
    congr 1
    apply Array.ext'
    show ((#[] : Array UInt8) ++ data.toList.toArray).toList = data.toList
    simp
  rw [run_bytesToString w a bs.size c _ hl, fold_push, hfin]
section
variable {C : Ctx} {S : St} {m : Mem} {a : Act} {w : World}
theorem bytesStrW_sound {E : Env} (hE : E.ok) {s d : TypeId} (hsb : isBytesStr E s d = true) {x : Operand} {K : Value → Prop} (hr : Rel C S m a w) (h : bytesStrW S m x K) :
  ∃ v, K v ∧ (convert s d (a.eval x)).run E.P w = .ok v w := by
 unfold isBytesStr at hsb
 rw [Bool.and_eq_true] at hsb
 obtain ⟨i, hi, hid⟩ := isStrT_spec hsb.1
 have hsb := hsb.2
 cases hs : sliceElem E s with
 | none => simp [hs] at hsb
 | some ej =>
  obtain ⟨e, j⟩ := ej
  simp only [hs] at hsb
  obtain ⟨k, hk1, hk2, hk3⟩ := sliceElem_spec hs
  have hjd : j.d = .int .u8 := by
   cases hjd : j.d with
   | int kk => cases kk <;> simp [hjd] at hsb <;> rfl
   | _ => simp [hjd] at hsb
  have hud : E.P.underlying d = some .string := by rw [(hE d i hi).und, hid]
  have hus : E.P.underlying s = some (.slice e) := by rw [(hE s k hk1).und, hk2]
  have hue : E.P.underlying e = some (.int .u8) := by rw [(hE e j hk3).und, hjd]
  have gen : ∀ {v : Value}, S.val x = some v → (∃ bs, isSl v = true ∧ bs.size = slN v ∧ (∀ j u, (strBytes bs)[j]? = some u → ∃ b o, slA v = some ⟨b, o, none⟩ ∧ w.cell? ⟨b, o + j, none⟩ = some u) ∧ K (.string bs)) → ∃ v, K v ∧ (convert s d (a.eval x)).run E.P w = .ok v w := by
   rintro v hv ⟨bs, h1, h2, h3, h4⟩
   obtain ⟨ba, n, c, rfl⟩ : ∃ ba n c, v = .slice ba n c := ⟨_, _, _, isSl_elim h1⟩
   simp only [slN, slA] at h2 h3
   subst h2
   exact ⟨_, h4, by rw [hr.ev hv]; exact run_bytesStr hus hue hud h3⟩
  unfold bytesStrW at h
  split at h
  ·rename_i id n c he
   cases hL : S.L id with
   | none => simp [hL] at h
   | some bx =>
    simp only [hL] at h
    obtain ⟨bs, h1, h2, h3⟩ := h
    have h1 := Nat.eq_of_beq_eq_true h1
    refine gen (v := .slice (some ⟨bx.b, 0, none⟩) n c) (by simp [St.val, he, St.den, hL]) ⟨bs, rfl, h1, fun j u hu => ⟨bx.b, 0, rfl, ?_⟩, h3⟩
    rw [Nat.zero_add]
    refine (hr.own id bx hL).cell ?_
    rw [h2] at hu
    rw [List.getElem?_take] at hu
    split at hu
    ·exact hu
    ·cases hu
  ·obtain ⟨v, hv, h⟩ := wv_elim h
   obtain ⟨h1, bs, h2, h3, h4⟩ := chk_elim h
   refine gen hv ⟨bs, h1, h2, fun j u hu => ?_, h4⟩
   rcases h3 with h3 | ⟨b, o, h5, h6⟩
   ·rw [h3] at hu; simp at hu
   ·exact ⟨b, o, h5, hr.sub _ _ _ (h6 j u hu)⟩
end
def Mem.upd (m : Mem) (b o : Nat) (vs : List Value) : Mem := ⟨fun b' o' => if b' = b ∧ o ≤ o' ∧ o' < o + vs.length then vs[o' - o]? else m b' o', m.k⟩
theorem Mem.upd_other (m : Mem) {b b' : Nat} (h : b' ≠ b) (o : Nat) (vs : List Value) (o' : Nat) : m.upd b o vs b' o' = m b' o' := by
 simp only [Mem.upd]; rw [if_neg (fun hc => h hc.1)]
theorem Mem.le_upd {m0 m : Mem} (h : m0.le m) {b : Nat} (hb : m0.free b) (o : Nat) (vs : List Value) : m0.le (m.upd b o vs) := ⟨fun b' o' v hv => by
 by_cases e : b' = b
 ·subst e; rw [hb o'] at hv; cases hv
 ·rw [Mem.upd_other m e]; exact h _ _ _ hv, h.k⟩
def stKey (E : Env) (x : Operand) : Option Nat := bif E.thaw then (match x with
 | .tmp t => E.stAt t
 | _ => none) else none
def storeTokW (E : Env) (S : St) (m : Mem) (T : TypeId) (key : Nat) (x : Operand) (v : Value) (K : Mem → Prop) : Prop := wv S x fun p => match E.tt T with
 | none => False
 | some i => match S.tok key with
  | none => match E.m0 with
   | none => False
   | some m0 => chk (!S.fo && isPtr p && (Nat.beq v.cells.size i.size && onesL v.cells.toList)) ((∃ vs : List Value, vs.length = i.size ∧ m.reads (ptrB p) (ptrO p) vs) ∧ Mem.free m0 (ptrB p) ∧ Nat.blt 0 i.size = true ∧ nfz S (ptrB p) S.ids (K (m.upd (ptrB p) (ptrO p) v.cells.toList)))
  | some t => chk (isPtr p && (Nat.beq v.cells.size i.size && onesL v.cells.toList)) (t.v = .slice (some ⟨ptrB p, 0, none⟩) (slN t.v) (slC t.v) ∧ ptrO p + i.size ≤ slN t.v * t.esz ∧ K (m.upd (ptrB p) (ptrO p) v.cells.toList))
section
variable {C : Ctx} {S : St} {m : Mem} {a : Act} {w : World}
theorem Rel.storeOwn (hr : Rel C S m a w) {b o : Nat} {vs : List Value} {cur : Array Value} {TT : TypeId} {fr : Nat × Nat} {w' : World} (hheap : w.heap[b]? = some (.cells cur TT fr)) (hwr : Wr w b) (hsz : o + vs.length ≤ cur.size)
  (hw' : w' = w.setRow b (splice cur.toList o vs).toArray) (hM : ∀ M, Dom C S m a w M → M b) (h0 : C.me.free b) (hbox : ∀ id x, S.L id = some x → x.b ≠ b)
  (htok : ∀ k t o0 n c, S.tok k = some t → t.v = .slice (some ⟨b, o0, none⟩) n c → ∀ q, o ≤ q → q < o + vs.length → o0 + n * t.esz ≤ q → q < o0 + c * t.esz → False) : Rel C S (m.upd b o vs) a w' := by
 have hother : ∀ k, k ≠ b → w'.heap[k]? = w.heap[k]? := fun k hk => by rw [hw']; exact setRow_other w b k _ hk
 have hself : w'.heap[b]? = some (.cells (splice cur.toList o vs).toArray TT fr) := by rw [hw']; exact setRow_heap w b cur _ TT fr hheap
 have hcl : (splice cur.toList o vs).length = cur.size := by
  rw [splice_length (by rw [Array.length_toList]; omega), Array.length_toList]
 have hfro : ∀ o, o < cur.size → ¬ (fr.1 ≤ o ∧ o < fr.2) := hwr cur TT fr hheap
 have hsub' : Sub (m.upd b o vs) w' := by
  refine hr.sub.wr1 ⟨_, _, _, hheap⟩ hother (fun _ _ h => h) fun b1 o1 u hu => ?_
  by_cases hb : b1 = b
  ·subst hb
   simp only [Mem.upd, true_and] at hu
   simp only [World.cell?, hself, Option.isSome_none, Bool.false_eq_true, if_false, List.getElem?_toArray]
   have hoc : o + vs.length ≤ cur.toList.length := by simp; omega
   have et : (List.take o cur.toList).length = o := by simp; simp at hoc; omega
   by_cases hin : o ≤ o1 ∧ o1 < o + vs.length
   ·rw [if_pos hin] at hu
    simp only [splice]
    rw [List.append_assoc, List.getElem?_append_right (by omega), et, List.getElem?_append_left (by omega)]
    exact hu
   ·rw [if_neg hin] at hu
    have hs0 := hr.sub _ _ _ hu
    simp only [World.cell?, hheap, Option.isSome_none, Bool.false_eq_true, if_false] at hs0
    rw [← Array.getElem?_toList] at hs0
    simp only [splice]
    by_cases hlo : o1 < o
    ·rw [List.append_assoc, List.getElem?_append_left (by omega), List.getElem?_take, if_pos hlo]; exact hs0
    ·rw [List.getElem?_append_right (by simp at hin et ⊢; omega), List.getElem?_drop]
     have : o + vs.length + (o1 - (List.take o cur.toList ++ vs).length) = o1 := by
      rw [List.length_append, et]; omega
     rw [this]; exact hs0
  ·rw [Mem.upd_other m hb] at hu
   rw [cell?_eq (hother b1 hb)]; exact hr.sub _ _ _ hu
 refine ⟨?_, hr.size, hr.env, fun id y hy => ?_, hr.apart, hr.ids, fun k t' ht' => ?_, hr.tkeys, hr.tapart, hsub', Mem.le_upd hr.le h0 _ _, ?_, hr.fo⟩
 ·obtain ⟨ms, d1, d2, d3⟩ := hr.defers
  refine ⟨ms, d1, d2, fun D hD => ?_⟩
  rw [hother D (fun e => by have := d3 D hD; rw [e, hheap] at this; cases this)]; exact d3 D hD
 ·have ho := hr.own id y hy
  have hne := hbox id y hy
  exact ⟨by rw [hother _ hne]; exact ho.cells, fun hz o1 => by rw [Mem.upd_other m hne]; exact ho.free hz o1, fun hz j u hu => by rw [Mem.upd_other m hne]; exact ho.known hz j u hu, ho.whole⟩
 ·obtain ⟨q1, q2⟩ := hr.toks k t' ht'
  refine ⟨?_, q2⟩
  by_cases hkk : t'.blk = some b
  ·rcases q1 with q1 | ⟨b', o0, n, c, cur', TT', fr', hv, hnc, hh, hcur, hfr', hfree⟩
   ·exact .inl q1
   obtain rfl : b' = b := by simpa [Tok.blk, hv] using hkk
   rw [hheap] at hh
   simp only [Option.some.injEq, Obj.cells.injEq] at hh
   obtain ⟨rfl, rfl, rfl⟩ := hh
   have hle := htok k t' o0 n c ht' hv
   refine .inr ⟨b', o0, n, c, _, TT, fr, hv, hnc, hself, by simp only [List.size_toArray, hcl]; exact hcur, fun o1 ho1 => hfro o1 (by simpa only [List.size_toArray, hcl] using ho1), fun o1 ho1 ho2 => ?_⟩
   simp only [Mem.upd]
   rw [if_neg (fun hc => hle o1 hc.2.1 hc.2.2 ho1 ho2)]; exact hfree o1 ho1 ho2
  ·have hne : ∀ b1, t'.blk = some b1 → b1 ≠ b := fun b1 hb1 e => by subst e; exact hkk hb1
   exact q1.same (fun b1 hb1 => hother _ (hne b1 hb1)) (fun b1 o1 hb1 hn => by rw [Mem.upd_other m (hne b1 hb1)]; exact hn)
 ·obtain ⟨M, hd⟩ := hr.dom
  have hu : Upd M w w' := ⟨by rw [hw']; rfl, by rw [hw']; rfl, by rw [hw']; rfl, by rw [hw']; simp, fun k hk hn => hother k (fun e => hn (e ▸ hM M hd)), fun k _ hk => by
   by_cases hkb : k = b
   ·subst hkb
    intro c1 T1 fr1 hh i hi
    rw [hself] at hh
    simp only [Option.some.injEq, Obj.cells.injEq] at hh
    obtain ⟨rfl, rfl, rfl⟩ := hh
    exact hfro i (by simpa only [List.size_toArray, hcl] using hi)
   ·exact hk.of_eq (hother k hkb)⟩
  exact ⟨_, hd.step hu ⟨fun b1 o1 u hu1 => by
   by_cases hb : b1 = b
   ·exact .inr (.inl (hb ▸ hM M hd))
   ·rw [Mem.upd_other m hb] at hu1; exact .inl hu1, fun _ _ h => .inl h⟩⟩
theorem run_storeOwn {E : Env} {T : TypeId} {i : TI} (hok : TOk E.P T i) {w : World} {b o : Nat} {v : Value} {cur : Array Value} {TT : TypeId} {fr : Nat × Nat} (hheap : w.heap[b]? = some (.cells cur TT fr)) (hwr : Wr w b) (hsz : o + v.cells.toList.length ≤ cur.size)
  (h1 : v.cells.size = i.size) (hone : v.cells.all Value.oneCell' = true) : (Instr.storeAt T (ptr b o) v).run E.P w = .ok () (w.setRow b (splice cur.toList o v.cells.toList).toArray) := by
 have hrunS := run_storeCells_fr (P := E.P) b o TT fr v.cells.toList 0 cur w hheap (fun o ho => hwr cur TT fr hheap o ho) (by omega) (fun u hu => by
  rw [Array.all_eq_true_iff_forall_mem] at hone; exact hone u (by simpa using hu))
 have hrun : (storeVar T ⟨b, o, none⟩ v).run E.P w = .ok () (w.setRow b (splice cur.toList o v.cells.toList).toArray) := by
  have hz := hok.run_size (w := w)
  simp only [storeVar, Sem.run_bind, hz, Result.andThen_ok, h1, ne_eq, not_true_eq_false, if_false]
  rw [hrunS]
  simp [splice]
 simp [Instr.storeAt, Instr.sureAddr, ptr, hrun]
theorem storeTokW_sound {E : Env} (hE : E.ok) (hY : YOk E C) {T : TypeId} {key : Nat} {x : Operand} {v : Value} {K : Mem → Prop} (hr : Rel C S m a w) (h : storeTokW E S m T key x v K) :
  ∃ m' w', K m' ∧ Rel C S m' a w' ∧ (Instr.storeAt T (a.eval x) v).run E.P w = .ok () w' := by
 unfold storeTokW at h
 obtain ⟨p, hp, h⟩ := wv_elim h
 have he := hr.ev hp
 cases ht : E.tt T with
 | none => simp [ht] at h
 | some i =>
  simp only [ht] at h
  have hok := hE T i ht
  cases hk : S.tok key with
  | none =>
   simp only [hk] at h
   cases hm0 : E.m0 with
   | none => simp [hm0] at h
   | some mm =>
    simp only [hm0] at h
    obtain ⟨hC0, hW⟩ := hY.m0 mm hm0
    obtain ⟨h1, ⟨us, hus, hrd⟩, h3, h5, h4⟩ := chk_elim h
    simp only [Bool.and_eq_true, Bool.not_eq_true'] at h1
    obtain ⟨⟨hfo, h10⟩, h11⟩ := h1
    have h1 := And.intro h10 h11
    have hme := hr.fo hfo
    have hpp := isPtr_elim h1.1
    generalize ptrB p = b at *
    generalize ptrO p = o at *
    have hsz := Nat.eq_of_beq_eq_true h1.2.1
    have hone := onesL_all h1.2.2
    have hlen : v.cells.toList.length = i.size := by simpa using hsz
    have hpos : 0 < i.size := by simpa [Nat.blt_eq] using h5
    obtain ⟨hk4, hnz⟩ := nfz_spec h4
    obtain ⟨u, hu⟩ : ∃ u, us[i.size - 1]? = some u := ⟨_, List.getElem?_eq_getElem (by omega)⟩
    have hcell := hr.sub _ _ _ (hrd _ _ hu)
    obtain ⟨cur, TT, fr, hheap⟩ : ∃ c T fr, w.heap[b]? = some (.cells c T fr) := by
     unfold World.cell? at hcell
     split at hcell
     ·rename_i c T fr hc; exact ⟨c, T, fr, hc⟩
     ·cases hcell
    have hlast : o + (i.size - 1) < cur.size := by
     simp only [World.cell?, hheap, Option.isSome_none, Bool.false_eq_true, if_false] at hcell
     exact (Array.getElem?_eq_some_iff.1 hcell).1
    have hMb : ∀ M, Dom C S m a w M → M b := fun M hd => by
     rcases hd.new _ _ _ (hrd _ _ hu) with h6 | h6
     ·rw [hme, hC0, h3] at h6; cases h6
     ·exact h6
    have hwr : Wr w b := by
     obtain ⟨M, hd⟩ := hr.dom
     exact hW _ _ _ hd.p b (hMb M hd)
    refine ⟨_, _, hk4, hr.storeOwn hheap hwr (by omega) rfl hMb (by rw [hme, hC0]; exact h3) (fun id y hy e => ?_) (fun k t o0 n c hkt hv q hq1 hq2 hq3 hq4 => ?_), ?_⟩
    ·have ho := hr.own id y hy
     cases hz : y.fz with
     | true => exact hnz id y (hr.ids id y hy) hy hz e
     | false =>
      have := ho.free hz (o + (i.size - 1))
      rw [e, hrd _ _ hu] at this; cases this
    ·rcases (hr.toks k t hkt).1 with q0 | ⟨b', o', n', c', _, _, _, hv', _, _, _, _, hfree⟩
     ·rw [hv] at q0; cases q0
     ·rw [hv] at hv'
      simp only [Value.slice.injEq, Option.some.injEq, Addr.mk.injEq, and_true] at hv'
      obtain ⟨⟨rfl, rfl⟩, rfl, rfl⟩ := hv'
      have h7 := hfree _ hq3 hq4
      obtain ⟨u7, hu7⟩ : ∃ u7, us[q - o]? = some u7 := ⟨us[q - o]'(by omega), List.getElem?_eq_getElem _⟩
      have h8 := hrd _ _ hu7
      rw [show o + (q - o) = q by omega, h7] at h8; cases h8
    ·rw [he, hpp]; exact run_storeOwn hok hheap hwr (by omega) hsz hone
  | some t =>
   simp only [hk] at h
   obtain ⟨h1, h2, h3, h4⟩ := chk_elim h
   simp only [Bool.and_eq_true] at h1
   have hpp := isPtr_elim h1.1
   generalize ptrB p = b at *
   generalize ptrO p = o at *
   have hsz := Nat.eq_of_beq_eq_true h1.2.1
   have hone := onesL_all h1.2.2
   have hlen : v.cells.toList.length = i.size := by simpa using hsz
   obtain ⟨g1, g2⟩ := hr.toks key t hk
   have hblk : t.blk = some b := by unfold Tok.blk; rw [h2]
   obtain ⟨g2, g3⟩ := g2 b hblk
   rcases g1 with g1 | ⟨b', o0, n, c, cur, TT, fr, hv, hnc, hheap, hcur, hfro, hfree⟩
   ·rw [g1] at h2; cases h2
   rw [hv] at h2
   simp only [Value.slice.injEq, Option.some.injEq, Addr.mk.injEq, and_true] at h2
   obtain ⟨⟨rfl, rfl⟩, _, _⟩ := h2
   rw [hv] at h3
   simp only [slN] at h3
   have hle : n * t.esz ≤ c * t.esz := Nat.mul_le_mul_right _ hnc
   have hwr : Wr w b' := fun c1 T1 fr1 hh o ho => by
    rw [hheap] at hh
    simp only [Option.some.injEq, Obj.cells.injEq] at hh
    obtain ⟨rfl, rfl, rfl⟩ := hh
    exact hfro o ho
   refine ⟨_, _, h4, hr.storeOwn hheap hwr (by omega) rfl (fun M hd => hd.tok key t b' hk hblk) g3 g2 (fun k t' o' n' c' hkt hv' q hq1 hq2 hq3 hq4 => ?_), ?_⟩
   ·have : k = key := hr.tapart k key t' t b' hkt hk (by simp [Tok.blk, hv']) hblk
    subst this
    rw [hk] at hkt; cases hkt
    rw [hv] at hv'
    simp only [Value.slice.injEq, Option.some.injEq, Addr.mk.injEq, and_true, true_and] at hv'
    obtain ⟨rfl, rfl, rfl⟩ := hv'
    omega
   ·rw [he, hpp]; exact run_storeOwn hok hheap hwr (by omega) hsz hone
end
def copyW (E : Env) (S : St) (m : Mem) (T : TypeId) (id : Nat) (vd vs : Value) (K : Int → St → Prop) : Prop := match sliceElem E T with
 | none => False
 | some (e, j) => match S.L id with
  | none => False
  | some bx => chk (isSl vd && (isSl vs && !bx.fz)) (m.free bx.b → ∃ (o : Nat) (xs : List Value), slA vd = some ⟨bx.b, o, none⟩ ∧ xs.length = min (slN vs) (slN vd) * j.size ∧ o + xs.length ≤ bx.cs.length ∧ (∀ u ∈ xs, u.oneCell' = true) ∧
    (rowRd m (slA vs) xs ∨ ∃ o', slA vs = some ⟨bx.b, o', none⟩ ∧ ∀ i u, xs[i]? = some u → bx.cs[o' + i]? = some u) ∧ K ((min (slN vs) (slN vd) : Nat) : Int) (S.setL id (some { bx with cs := splice bx.cs o xs })))
theorem run_storeBox {P : Program} {w : World} {m : Mem} {x : Box} (hx : Own m w x) (o : Nat) (xs : List Value) (h1 : ∀ u ∈ xs, u.oneCell' = true) (hb : o + xs.length ≤ x.cs.length) :
  ∃ w', (storeCells ⟨x.b, o, none⟩ xs 0).run P w = .ok () w' ∧ w'.os = w.os ∧ w'.tape = w.tape ∧ w'.output = w.output ∧ w'.heap.size = w.heap.size ∧ (∀ k, k ≠ x.b → w'.heap[k]? = w.heap[k]?) ∧
   (x.fz = false → Own m w' { x with cs := splice x.cs o xs }) := by
 obtain ⟨sp, fr, hh, hc, hf⟩ := hx.cells
 have h3 := run_storeCells_fr (P := P) x.b o x.T fr xs 0 _ w hh (fun o ho => by have ho' : o < x.cap := (by simpa [hc] using ho); omega) (by simp at hc ⊢; omega) h1
 have h4 : (storeCells ⟨x.b, o, none⟩ xs 0).run P w = .ok () (w.setRow x.b (splice (x.cs ++ sp) o xs).toArray) := by
  rw [h3]
  simp [splice]
 refine ⟨_, h4, rfl, rfl, rfl, by simp, fun k hk => setRow_other w x.b k _ hk, fun hz => ?_⟩
 refine ⟨⟨sp, fr, ?_, ?_, hf⟩, fun _ => hx.free hz, fun hz' => by simp [hz] at hz', fun hfull => ?_⟩
 ·rw [setRow_heap w x.b _ _ x.T fr hh, splice_append (by omega)]
 ·have := splice_length (cs := x.cs) (o := o) (vs := xs) (by omega)
  simp only [List.length_append] at hc ⊢
  omega
 ·have := hx.whole hfull
  show (splice x.cs o xs).length = x.cap
  rw [splice_length (by omega)]; exact this
section
variable {C : Ctx} {S : St} {m : Mem} {a : Act} {w : World}
theorem copyW_sound {E : Env} (hE : E.ok) {T xT ty : TypeId} {id : Nat} {vd vs : Value} {K : Int → St → Prop} (hr : Rel C S m a w) (h : copyW E S m T id vd vs K) :
  ∃ n S' w', K n S' ∧ Rel C S' m a w' ∧ (Builtin.copy_ #[T, xT] ty #[vd, vs]).run E.P w = .ok (.int .i64 n) w' := by
 unfold copyW at h
 cases hs : sliceElem E T with
 | none => simp [hs] at h
 | some ej =>
  obtain ⟨e, j⟩ := ej
  simp only [hs] at h
  cases hL : S.L id with
  | none => simp [hL] at h
  | some bx =>
   simp only [hL] at h
   obtain ⟨h1, hq⟩ := chk_elim h
   simp only [Bool.and_eq_true, Bool.not_eq_true'] at h1
   obtain ⟨o, xs, h2, h3, h4, h5, h6, hk⟩ := hq ((hr.own id bx hL).free h1.2.2)
   clear hq h
   have hvd := isSl_elim h1.1
   have hvs := isSl_elim h1.2.1
   generalize slA vd = ad at *
   generalize slN vd = nd at *
   generalize slC vd = cd at *
   generalize slA vs = as at *
   generalize slN vs = ns at *
   generalize slC vs = cs at *
   subst hvd hvs h2
   obtain ⟨i, hi1, hi2, hi3⟩ := sliceElem_spec hs
   have hjok := hE e j hi3
   have hu := (hE T i hi1).run_und (w := w)
   rw [hi2] at hu
   have hsz := hjok.run_size (w := w)
   have hox := hr.own id bx hL
   have hfc : (Builtin.firstCells j.size (min ns nd) (.slice as ns cs)).run E.P w = .ok xs.toArray w := by
    rcases h6 with h6 | ⟨o', h6, h7⟩
    ·exact run_firstCells_rd hr.sub h6 _ _ _ _ h3
    ·subst h6
     refine run_firstCells_some w j.size _ _ ns cs xs h3 (fun i u hu => ?_)
     rw [addr_add]
     obtain ⟨sp, fr, hh, _⟩ := hox.cells
     have h8 := h7 i u hu
     have h9 := (List.getElem?_eq_some_iff.1 h8).1
     simp only [World.cell?, hh, Option.isSome_none, Bool.false_eq_true, if_false, List.getElem?_toArray]
     rw [List.getElem?_append_left h9]; exact h8
   obtain ⟨w', hrun, e1, e2, e3, e4, e5, e6⟩ := run_storeBox (P := E.P) hox o xs h5 h4
   refine ⟨_, _, w', hk, hr.store hL h1.2.2 rfl e1 e2 e3 e4 e5 (e6 h1.2.2), ?_⟩
   have hmin : Nat.min ns nd = min ns nd := rfl
   simp [Builtin.copy_, hu, Builtin.lenOf, hsz, hmin, hfc, hrun, goInt]
end
end Go.Eng
namespace Go.Eng
open Go Go.RowKit
def Mem.or (a b : Mem) : Mem := ⟨fun i o => match a i o with
 | some v => some v
 | none => b i o, fun i => match a.k i with
 | some v => some v
 | none => b.k i⟩
theorem Mem.le_or (a b : Mem) : a.le (a.or b) := ⟨fun i o v h => by simp [Mem.or, h], fun i v h => by simp [Mem.or, h]⟩
theorem Mem.or_k {a b : Mem} {i : Nat} {v : List (Value × Value)} (h : (a.or b).k i = some v) : a.k i = some v ∨ (a.k i = none ∧ b.k i = some v) := by
 unfold Mem.or at h
 cases ha : a.k i with
 | some u => simp [ha] at h; exact .inl (by rw [h])
 | none => simp [ha] at h; exact .inr ⟨rfl, h⟩
theorem Mem.or_some {a b : Mem} {i o : Nat} {v : Value} (h : a.or b i o = some v) : a i o = some v ∨ (a i o = none ∧ b i o = some v) := by
 unfold Mem.or at h
 cases ha : a i o with
 | some u => simp [ha] at h; exact .inl (by rw [h])
 | none => simp [ha] at h; exact .inr ⟨rfl, h⟩
def MapFind (P : Program) (T : TypeId) (k : Value) : List (Value × Value) → Option Value → Prop
 | [], r => r = none
 | e :: es, r => (EqIs P T k e.1 true ∧ r = some e.2) ∨ (EqIs P T k e.1 false ∧ MapFind P T k es r)
def MapPut (P : Program) (T : TypeId) (k z : Value) : List (Value × Value) → List (Value × Value) → Prop
 | [], r => r = [(k, z)]
 | e :: l, r => (EqIs P T k e.1 true ∧ Instr.sameBits 10000 e.1 k = true ∧ r = (k, z) :: l) ∨ (EqIs P T k e.1 false ∧ ∃ l', MapPut P T k z l l' ∧ r = e :: l')
def KeyOk (P : Program) (T : TypeId) (v : Value) : Prop := ∀ (b : Bool) (w : World), (Instr.checkKey b 10000 T v).run P w = .ok () w
def LookIs (P : Program) (T : TypeId) (k : Value) (es : List (Value × Value)) (z v : Value) (ok : Bool) : Prop := ∃ r, MapFind P T k es r ∧ v = r.getD z ∧ ok = r.isSome
def Mem.updK (m : Mem) (b : Nat) (e : List (Value × Value)) : Mem := ⟨m.c, fun i => if i = b then some e else m.k i⟩
theorem Mem.updK_same (m : Mem) (b : Nat) (e : List (Value × Value)) : (m.updK b e).k b = some e := by simp [Mem.updK]
theorem Mem.updK_other (m : Mem) {b b' : Nat} (h : b' ≠ b) (e : List (Value × Value)) : (m.updK b e).k b' = m.k b' := by simp [Mem.updK, h]
theorem Mem.le_updK {m0 m : Mem} (h : m0.le m) {b : Nat} (hb : m0.k b = none) (e : List (Value × Value)) : m0.le (m.updK b e) := ⟨h.c, fun i x hx => by
 by_cases hi : i = b
 ·subst hi; rw [hb] at hx; cases hx
 ·rw [Mem.updK_other m hi]; exact h.k i x hx⟩
def Mem.newC (m mi : Mem) (b : Nat) : Prop := ∃ o v, mi b o = some v ∧ m b o = none
def Mem.newK (m mi : Mem) (b : Nat) : Prop := ∃ e, mi.k b = some e ∧ m.k b = none
noncomputable def Mem.less (m m0 mi : Mem) : Mem := ⟨fun b o => open Classical in if m0.newC mi b then none else m b o, fun b => open Classical in if m0.newK mi b then none else m.k b⟩
theorem Mem.less_at {m m0 mi : Mem} {b : Nat} (h : ¬ m0.newC mi b) (o : Nat) : m.less m0 mi b o = m b o := by unfold Mem.less; dsimp only; rw [if_neg h]
theorem Mem.less_free {m m0 mi : Mem} {b : Nat} (h : m0.newC mi b) (o : Nat) : m.less m0 mi b o = none := by unfold Mem.less; dsimp only; rw [if_pos h]
theorem Mem.less_k {m m0 mi : Mem} {b : Nat} (h : ¬ m0.newK mi b) : (m.less m0 mi).k b = m.k b := by unfold Mem.less; dsimp only; rw [if_neg h]
theorem Mem.less_kn {m m0 mi : Mem} {b : Nat} (h : m0.newK mi b) : (m.less m0 mi).k b = none := by unfold Mem.less; dsimp only; rw [if_pos h]
theorem Mem.less_le (m m0 mi : Mem) : (m.less m0 mi).le m := ⟨fun b o v h => by
 by_cases hz : m0.newC mi b
 ·rw [Mem.less_free hz] at h; cases h
 ·rw [Mem.less_at hz] at h; exact h, fun b e h => by
 by_cases hz : m0.newK mi b
 ·rw [Mem.less_kn hz] at h; cases h
 ·rw [Mem.less_k hz] at h; exact h⟩
theorem Sub.le_or {a b : Mem} {w : World} (ha : Sub a w) (hb : Sub b w) : b.le (a.or b) := ⟨fun i o v h => by
 cases he : a i o with
 | none => simp [Mem.or, he, h]
 | some u =>
  have h1 := ha.c i o u he
  rw [hb.c i o v h] at h1
  simp [Mem.or, he, Option.some.inj h1], fun i e h => by
 cases he : a.k i with
 | none => simp [Mem.or, he, h]
 | some u =>
  obtain ⟨es, c, h1, h2⟩ := ha.k i u he
  obtain ⟨es', c', h3, h4⟩ := hb.k i e h
  rw [h1] at h3; cases h3
  simp [Mem.or, he, ← h2, ← h4]⟩
def mapTy (E : Env) (T : TypeId) : Option (TypeId × TI) := match E.tt T with
 | none => none
 | some i => match i.d with
  | .map k e => match E.tt k, E.tt e with
   | some ki, some ei => (match ki.d with
    | .struct _ => some (k, ei)
    | _ => none)
   | _, _ => none
  | _ => none
theorem mapTy_spec {E : Env} {T k : TypeId} {ei : TI} (h : mapTy E T = some (k, ei)) : ∃ i e ki fs, E.tt T = some i ∧ i.d = .map k e ∧ E.tt k = some ki ∧ E.tt e = some ei ∧ ki.d = .struct fs := by
 unfold mapTy at h
 cases ht : E.tt T with
 | none => simp [ht] at h
 | some i =>
  simp only [ht] at h
  cases hd : i.d with
  | map k' e =>
   simp only [hd] at h
   cases hk : E.tt k' with
   | none => simp [hk] at h
   | some ki =>
    cases he : E.tt e with
    | none => simp [hk, he] at h
    | some ei' =>
     simp only [hk, he] at h
     cases hs : ki.d with
     | struct fs =>
      simp only [hs, Option.some.injEq, Prod.mk.injEq] at h
      obtain ⟨rfl, rfl⟩ := h
      exact ⟨i, e, ki, fs, rfl, hd, hk, he, hs⟩
     | _ => simp [hs] at h
  | _ => simp [hd] at h
def lookW (E : Env) (S : St) (m : Mem) (T : TypeId) (x y : Operand) (ok : Bool) (K : Value → Prop) : Prop := wv S x fun vm => wv S y fun vk => match mapTy E T with
 | none => False
 | some (k, ei) => ∃ (b : Nat) (es : List (Value × Value)) (v : Value) (o : Bool), vm = .map (some b) ∧ m.k b = some es ∧ KeyOk E.P k vk ∧ LookIs E.P k vk es ei.zero v o ∧ K (bif ok then .tuple #[v, .bool o] else v)
def mapUpW (E : Env) (S : St) (m : Mem) (T : TypeId) (x y z : Operand) (K : Mem → Prop) : Prop := wv S x fun vm => wv S y fun vk => wv S z fun vz => match mapTy E T with
 | none => False
 | some (k, _) => match E.m0 with
  | none => False
  | some m0 => chk (!S.fo) (∃ (b : Nat) (es es' : List (Value × Value)), vm = .map (some b) ∧ m.k b = some es ∧ KeyOk E.P k vk ∧ MapPut E.P k vk vz es es' ∧ m0.k b = none ∧ K (m.updK b es'))
def mkMapW (S : St) (m : Mem) (r : Option Operand) (d : Option Tmp) (K : St → Mem → Prop) : Prop := match r with
 | some _ => False
 | none => ∀ b, m.free b → m.k b = none → K (S.put d (some (.v (.map (some b))))) (m.updK b [])
section
variable {C : Ctx} {S : St} {m : Mem} {a : Act} {w : World}
theorem find_run {P : Program} {k : TypeId} {kv : Value} {w : World} : ∀ {l : List MapEntry} {r : Option Value} {i : Nat}, MapFind P k kv (l.map fun x => (x.key, x.val)) r → ∃ q : Option (Nat × Value), (Instr.findAsking k kv l i).run P w = .ok q w ∧ q.map (·.2) = r
 | [], r, i, h => ⟨none, rfl, by simp only [List.map_nil, MapFind] at h; rw [h]; rfl⟩
 | e :: l, r, i, h => by
  simp only [List.map_cons, MapFind] at h
  rcases h with ⟨h1, rfl⟩ | ⟨h1, h2⟩
  ·exact ⟨some (i, e.val), by simp [Instr.findAsking, h1.1 w, Result.andThen], rfl⟩
  ·obtain ⟨q, h3, h4⟩ := find_run (w := w) (i := i + 1) h2
   exact ⟨q, by simp [Instr.findAsking, h1.1 w, Result.andThen, h3], h4⟩
theorem findKey_run {P : Program} {k : TypeId} {fs : Array Field} {kv : Value} {w : World} {l : List MapEntry} {r : Option Value} (hu : P.underlying k = some (.struct fs)) (h : MapFind P k kv (l.map fun x => (x.key, x.val)) r) :
  ∃ q : Option (Nat × Value), (Instr.findKey k kv l).run P w = .ok q w ∧ q.map (·.2) = r := by
 obtain ⟨q, h1, h2⟩ := find_run (w := w) (i := 0) h
 refine ⟨q, ?_, h2⟩
 cases l with
 | nil =>
  simp only [Instr.findAsking] at h1
  simp only [Instr.findKey, Sem.run_bind, run_underlying hu, Result.andThen, Instr.findNow]
  exact h1
 | cons e l =>
  simp only [Instr.findKey, Sem.run_bind, run_underlying hu, Result.andThen, Instr.findNow, Instr.sameNow]
  exact h1
theorem put_run {P : Program} {k : TypeId} {kv z : Value} {w : World} : ∀ {l : List MapEntry} {r : List (Value × Value)} {i : Nat}, MapPut P k kv z (l.map fun x => (x.key, x.val)) r → ∃ q : Option (Nat × Value), (Instr.findAsking k kv l i).run P w = .ok q w ∧ (match q with
  | none => r = (l.map fun x => (x.key, x.val)) ++ [(kv, z)]
  | some (j, _) => ∃ (d : Nat) (e : MapEntry), j = i + d ∧ l[d]? = some e ∧ Instr.sameBits 10000 e.key kv = true ∧ r = (l.modify d fun e => { e with key := kv, val := z }).map fun x => (x.key, x.val))
 | [], r, i, h => ⟨none, rfl, by simp only [List.map_nil, MapPut] at h; simpa using h⟩
 | e :: l, r, i, h => by
  simp only [List.map_cons, MapPut] at h
  rcases h with ⟨h1, h2, rfl⟩ | ⟨h1, l', h2, rfl⟩
  ·exact ⟨some (i, e.val), by simp [Instr.findAsking, h1.1 w, Result.andThen], 0, e, by simp, by simp, h2, by simp⟩
  ·obtain ⟨q, h3, h4⟩ := put_run (w := w) (i := i + 1) h2
   refine ⟨q, by simp [Instr.findAsking, h1.1 w, Result.andThen, h3], ?_⟩
   cases q with
   | none => simp only at h4 ⊢; simp [h4]
   | some q =>
    obtain ⟨j, u⟩ := q
    simp only at h4 ⊢
    obtain ⟨d, e', g1, g2, g3, g4⟩ := h4
    exact ⟨d + 1, e', by omega, by simpa using g2, g3, by simp [g4]⟩
theorem putKey_run {P : Program} {k : TypeId} {fs : Array Field} {kv z : Value} {w : World} {l : List MapEntry} {r : List (Value × Value)} (hu : P.underlying k = some (.struct fs)) (h : MapPut P k kv z (l.map fun x => (x.key, x.val)) r) :
  ∃ q : Option (Nat × Value), (Instr.findKey k kv l).run P w = .ok q w ∧ (match q with
  | none => r = (l.map fun x => (x.key, x.val)) ++ [(kv, z)]
  | some (j, _) => ∃ (e : MapEntry), l[j]? = some e ∧ Instr.sameBits 10000 e.key kv = true ∧ r = (l.modify j fun e => { e with key := kv, val := z }).map fun x => (x.key, x.val)) := by
 obtain ⟨q, h1, h2⟩ := put_run (w := w) (i := 0) h
 refine ⟨q, ?_, ?_⟩
 ·cases l with
  | nil =>
   simp only [Instr.findAsking] at h1
   simp only [Instr.findKey, Sem.run_bind, run_underlying hu, Result.andThen, Instr.findNow]
   exact h1
  | cons e l =>
   simp only [Instr.findKey, Sem.run_bind, run_underlying hu, Result.andThen, Instr.findNow, Instr.sameNow]
   exact h1
 ·cases q with
  | none => exact h2
  | some q =>
   obtain ⟨j, u⟩ := q
   simp only at h2 ⊢
   obtain ⟨d, e, g1, g2, g3, g4⟩ := h2
   rw [Nat.zero_add] at g1
   subst g1
   exact ⟨e, g2, g3, g4⟩
theorem lookW_sound {E : Env} (hE : E.ok) (hr : Rel C S m a w) {T : TypeId} {x y : Operand} {ok : Bool} {K : Value → Prop} (h : lookW E S m T x y ok K) : ∃ v, K v ∧ (Instr.lookup T (a.eval x) (a.eval y) ok).run E.P w = .ok v w := by
 unfold lookW at h
 obtain ⟨vm, hvm, h⟩ := wv_elim h
 obtain ⟨vk, hvk, h⟩ := wv_elim h
 cases hm : mapTy E T with
 | none => simp [hm] at h
 | some q =>
  obtain ⟨k, ei⟩ := q
  simp only [hm] at h
  obtain ⟨b, es, v, o, rfl, h1, h2, ⟨r, h3, h4, h5⟩, h6⟩ := h
  obtain ⟨i, e, ki, fs, g1, g2, g3, g4, g5⟩ := mapTy_spec hm
  obtain ⟨arr, cl, h7, h8⟩ := hr.sub.k b es h1
  refine ⟨_, h6, ?_⟩
  rw [hr.ev hvm, hr.ev hvk]
  have hu : E.P.underlying T = some (.map k e) := by rw [(hE T i g1).und, g2]
  have huk : E.P.underlying k = some (.struct fs) := by rw [(hE k ki g3).und, g5]
  obtain ⟨q, h9, h10⟩ := findKey_run (w := w) (l := arr.toList) huk (by rw [h8]; exact h3)
  have hz := (hE e ei g4).run_zero (w := w)
  have hg : (getObj b).run E.P w = .ok (.map arr cl) w := MapKept.run_getObj_map h7
  simp only [Instr.lookup, Sem.run_bind, run_underlying hu, Result.andThen, hg, h2 arr.isEmpty w, h9]
  cases q with
  | none =>
   simp only [Option.map_none] at h10
   subst h10
   simp only [Option.getD_none] at h4; subst h4
   simp only [Option.isSome_none] at h5; subst h5
   cases ok <;> simp [hz, Result.andThen, h2 arr.isEmpty w, h9]
  | some q =>
   simp only [Option.map_some] at h10
   subst h10
   simp only [Option.getD_some] at h4; subst h4
   simp only [Option.isSome_some] at h5; subst h5
   cases ok <;> simp [Result.andThen, h2 arr.isEmpty w, h9]
theorem Rel.storeMap (hr : Rel C S m a w) {b : Nat} {es0 : Array MapEntry} {cl0 : Nat} {arr : Array MapEntry} {cl : Nat} (hb : w.heap[b]? = some (.map es0 cl0)) (hM : ∀ M, Dom C S m a w M → M b) (h0 : C.me.k b = none) :
  Rel C S (m.updK b (arr.toList.map fun x => (x.key, x.val))) a (w.putObj b (.map arr cl)) := by
 have hlt := (Array.getElem?_eq_some_iff.1 hb).1
 have hother : ∀ k, k ≠ b → (w.putObj b (.map arr cl)).heap[k]? = w.heap[k]? := fun k hk => World.putObj_heap_other hk
 have hself : (w.putObj b (.map arr cl)).heap[b]? = some (.map arr cl) := World.putObj_heap_same hlt
 have hcell : ∀ (k : Nat) c T fr, w.heap[k]? = some (Obj.cells c T fr) → k ≠ b := fun k c T fr hk e => by rw [e, hb] at hk; cases hk
 obtain ⟨es, q1, q2, q3⟩ := hr.defers
 have hnt : ∀ k t b', S.tok k = some t → t.blk = some b' → b' ≠ b := fun k t b' ht hb' e => by
  rcases (hr.toks k t ht).1 with q0 | ⟨b1, o0, n, c, cur, T, fr, hv, _, hh, _⟩
  ·simp [Tok.blk, q0] at hb'
  ·simp [Tok.blk, hv] at hb'; subst hb'; exact hcell _ _ _ _ hh e
 refine ⟨⟨es, q1, q2, fun D hD => ?_⟩, hr.size, hr.env, fun id x hx => ?_, hr.apart, hr.ids, fun k t ht => ?_, hr.tkeys, hr.tapart, ⟨fun b' o v hv => ?_, fun b' e he => ?_⟩, Mem.le_updK hr.le h0 _, ?_, hr.fo⟩
 ·rw [hother D (fun e => by have := q3 D hD; rw [e, hb] at this; cases this)]; exact q3 D hD
 ·have ho := hr.own id x hx
  obtain ⟨c, T, fr, hh⟩ := ho.isC
  exact ⟨by rw [hother _ (hcell _ _ _ _ hh)]; exact ho.cells, ho.free, ho.known, ho.whole⟩
 ·obtain ⟨g1, g2⟩ := hr.toks k t ht
  exact ⟨g1.same (fun b' hb' => hother _ (hnt k t b' ht hb')) (fun _ _ _ h => h), g2⟩
 ·have h1 := hr.sub.c b' o v hv
  have h2 : ∃ c T fr, w.heap[b']? = some (Obj.cells c T fr) := by
   unfold World.cell? at h1
   split at h1
   ·rename_i c T fr hc; exact ⟨c, T, fr, hc⟩
   ·cases h1
  obtain ⟨c, T, fr, hh⟩ := h2
  rw [cell?_eq (hother _ (hcell _ _ _ _ hh))]; exact h1
 ·by_cases hbb : b' = b
  ·subst hbb
   rw [Mem.updK_same] at he; cases he
   exact ⟨arr, cl, hself, rfl⟩
  ·rw [Mem.updK_other m hbb] at he
   exact (hr.sub.k b' e he).same (hother b' hbb)
 ·obtain ⟨M, hd⟩ := hr.dom
  have hMb := hM M hd
  have hu : Upd M w (w.putObj b (.map arr cl)) := ⟨rfl, rfl, rfl, by simp [World.putObj], fun k hk hn => hother k (fun e => hn (e ▸ hMb)), fun k _ hk => by
   by_cases hkb : k = b
   ·subst hkb
    intro c1 T1 fr1 hh i hi
    rw [hself] at hh; cases hh
   ·exact hk.of_eq (hother k hkb)⟩
  exact ⟨_, hd.step hu ⟨fun _ _ _ h => .inl h, fun b' e he => by
   by_cases hbb : b' = b
   ·exact .inr (.inl (hbb ▸ hMb))
   ·rw [Mem.updK_other m hbb] at he; exact .inl he⟩⟩
theorem mapUpW_sound {E : Env} (hE : E.ok) (hY : YOk E C) (hr : Rel C S m a w) {T : TypeId} {x y z : Operand} {K : Mem → Prop} (h : mapUpW E S m T x y z K) :
  ∃ m' w', K m' ∧ Rel C S m' a w' ∧ (Instr.mapUpdate T (a.eval x) (a.eval y) (a.eval z)).run E.P w = .ok () w' := by
 unfold mapUpW at h
 obtain ⟨vm, hvm, h⟩ := wv_elim h
 obtain ⟨vk, hvk, h⟩ := wv_elim h
 obtain ⟨vz, hvz, h⟩ := wv_elim h
 cases hm : mapTy E T with
 | none => simp [hm] at h
 | some q =>
  obtain ⟨k, ei⟩ := q
  simp only [hm] at h
  cases hm0 : E.m0 with
  | none => simp [hm0] at h
  | some mm =>
   simp only [hm0] at h
   obtain ⟨h1, b, es, es', rfl, h2, h3, h4, h5, h6⟩ := chk_elim h
   have hfo : S.fo = false := by simpa using h1
   have hme : C.me = mm := (hr.fo hfo).trans (hY.m0 mm hm0).1
   obtain ⟨i, e, ki, fs, g1, g2, g3, g4, g5⟩ := mapTy_spec hm
   obtain ⟨arr, cl, h7, h8⟩ := hr.sub.k b es h2
   have hu : E.P.underlying T = some (.map k e) := by rw [(hE T i g1).und, g2]
   have huk : E.P.underlying k = some (.struct fs) := by rw [(hE k ki g3).und, g5]
   obtain ⟨q, h9, h10⟩ := putKey_run (w := w) (l := arr.toList) huk (by rw [h8]; exact h4)
   have hM : ∀ M, Dom C S m a w M → M b := fun M hd => by
    rcases hd.new.k b es h2 with h11 | h11
    ·rw [hme, h5] at h11; cases h11
    ·exact h11
   rw [hr.ev hvm, hr.ev hvk, hr.ev hvz]
   have hg : (getObj b).run E.P w = .ok (.map arr cl) w := MapKept.run_getObj_map h7
   cases q with
   | none =>
    have hst := hr.storeMap (arr := arr.push { key := vk, val := vz, born := cl }) (cl := cl + 1) h7 hM (by rw [hme]; exact h5)
    have e1 : (arr.push { key := vk, val := vz, born := cl }).toList.map (fun x => (x.key, x.val)) = es' := by simp only at h10; rw [h10]; simp
    rw [e1] at hst
    refine ⟨_, _, h6, hst, ?_⟩
    have hs : (setObj b (.map (arr.push { key := vk, val := vz, born := cl }) (cl + 1))).run E.P w = .ok () (w.putObj b (.map (arr.push { key := vk, val := vz, born := cl }) (cl + 1))) := MapKept.run_setObj_map _ h7
    simp only [Instr.mapUpdate, Sem.run_bind, run_underlying hu, Result.andThen, hg, h3 false w, h9]
    exact hs
   | some q =>
    obtain ⟨j, u⟩ := q
    simp only at h10
    obtain ⟨e0, q1, q2, q3⟩ := h10
    have hst := hr.storeMap (arr := arr.modify j fun e => { e with key := vk, val := vz }) (cl := cl) h7 hM (by rw [hme]; exact h5)
    have e1 : (arr.modify j fun e => { e with key := vk, val := vz }).toList.map (fun x => (x.key, x.val)) = es' := by rw [q3]; simp
    rw [e1] at hst
    refine ⟨_, _, h6, hst, ?_⟩
    have hs : (setObj b (.map (arr.modify j fun e => { e with key := vk, val := vz }) cl)).run E.P w = .ok () (w.putObj b (.map (arr.modify j fun e => { e with key := vk, val := vz }) cl)) := MapKept.run_setObj_map _ h7
    have hk : (Instr.keyThatStays (((arr[j]?).map (·.key)).getD vk) vk).run E.P w = .ok vk w := by
     have : arr[j]? = some e0 := by simpa using q1
     simp [Instr.keyThatStays, this, q2]
    simp only [Instr.mapUpdate, Sem.run_bind, run_underlying hu, Result.andThen, hg, h3 false w, h9, hk]
    exact hs
theorem mkMapW_sound {E : Env} {T : TypeId} {r : Option Operand} {d : Option Tmp} (hd : ∀ t, d = some t → t < C.n) {K : St → Mem → Prop} (hr : Rel C S m a w) (h : mkMapW S m r d K) :
  ∃ S' m' v w', K S' m' ∧ Rel C S' m' (a.put d v) w' ∧ (Instr.makeMap T (r.map a.eval)).run E.P w = .ok v w' := by
 cases r with
 | some r => exact h.elim
 | none =>
  have hlt : ∀ e, m.k w.heap.size ≠ some e := fun e he => by have := (hr.sub.k _ e he).lt; omega
  have hk : m.k w.heap.size = none := by
   cases he : m.k w.heap.size with
   | none => rfl
   | some e => exact (hlt e he).elim
  have hfree : m.free w.heap.size := fun o => by
   cases he : m w.heap.size o with
   | none => rfl
   | some v => have := hr.sub.lt he; omega
  have h1 := h w.heap.size hfree hk
  have hs : Sub (m.updK w.heap.size []) (w.alloc (.map #[] 0)) := ⟨(hr.sub.alloc _).c, fun b e he => by
   by_cases hb : b = w.heap.size
   ·subst hb
    rw [Mem.updK_same] at he; cases he
    exact ⟨#[], 0, heap_alloc_new w _, rfl⟩
   ·rw [Mem.updK_other m hb] at he
    exact (hr.sub.alloc _).k b e he⟩
  have hw := hr.world (w' := w.alloc (.map #[] 0)) (m' := m.updK w.heap.size []) (Keep.alloc (Nat.le_refl _) (fun c T fr e => by cases e)) hs (Mem.le_updK (Mem.le_refl m) hk _) ⟨fun _ _ _ h => .inl h, fun b e he => by
   by_cases hb : b = w.heap.size
   ·exact .inr ⟨Nat.le_of_eq hb.symm, by rw [hb]; exact Wr.new (fun c T fr e => by cases e)⟩
   ·rw [Mem.updK_other m hb] at he; exact .inl he⟩
  exact ⟨_, _, .map (some w.heap.size), _, h1, hw.put d hd rfl, by simp [Instr.makeMap, Result.andThen]⟩
end
end Go.Eng
namespace Go.Eng
open Go Go.RowKit
def isByteSl (E : Env) (s d : TypeId) : Bool := match E.tt s with
 | none => false
 | some i => match i.d with
  | .slice e => Nat.beq s d && (match E.tt e with
   | none => false
   | some j => match j.d with
    | .int .u8 => true
    | _ => false)
  | _ => false
def opW (E : Env) (S : St) (m : Mem) (o : Oper) (K : St → Mem → Prop) : Prop := match o.op with
 | .move x => K (S.put o.dst (S.ev x)) m
 | .assign x => K (S.put o.dst (S.ev x)) m
 | .pick c x y => wv S c fun v => chk (isBool v) (br (boolOf v) (K (S.put o.dst (S.ev x)) m) (K (S.put o.dst (S.ev y)) m))
 | .load T x => match ldFOf E o.dst with
  | none => loadW E S m T x fun v => K (S.put o.dst (some (.v v))) m
  | some y => loadW E S m T x fun v => ldW y v fun v => K (S.put o.dst (some (.v v))) m
 | .store T x y => wv S y fun v => match stKey E x with
  | none => storeW E S T x v fun S' => K (S'.put o.dst none) m
  | some key => bif E.fix.isSome then False else storeTokW E S m T key x v fun m' => K (S.put o.dst none) m'
 | .alloc T => allocW E S T o.dst fun S' => K S' m
 | .box T x => wv S x fun v => bif frzNewOf E o.dst then (bif E.fix.isSome then False else boxFW E S m T v o.dst K) else boxW E S T v o.dst fun S' => K S' m
 | .buildSlice T len parts => match tokCOf E o.dst with
  | none => buildSliceW E S m T len parts.toList o.dst K
  | some ke => bif E.fix.isSome then False else match len, parts.toList with
   | 0, [] => makeTW E S (some m) T (.const (.int .i64 0)) (.const (.int .i64 0)) o.dst ke.1 fun S' => K S' m
   | _, _ => False
 | .makeSlice T l c => match tokCOf E o.dst with
  | none => bif mkMOf E o.dst then (bif E.fix.isSome then False else makeMW E S m T l c o.dst K) else makeW E S T l c o.dst fun S' => K S' m
  | some ke => bif E.fix.isSome then False else makeTW E S none T l c o.dst ke.1 fun S' => K S' m
 | .lookup T x y ok => lookW E S m T x y ok fun v => K (S.put o.dst (some (.v v))) m
 | .mapUpdate T x y z => bif E.fix.isSome || !E.thaw then False else mapUpW E S m T x y z fun m' => K (S.put o.dst none) m'
 | .makeMap T r => bif E.fix.isSome then False else mkMapW S m r o.dst K
 | .convert s d x => bif isByteSl E s d then (match S.ev x with
   | some (.sl id n c) => K (S.put o.dst (some (.sl id n c))) m
   | _ => False)
  else bif isStrBytes E s d then (bif E.fix.isSome then False else strBW S m x o.dst K)
  else bif isBytesStr E s d then (bytesW E S m x fun v => K (S.put o.dst (some (.v v))) m)
  else pureW E S o fun sv => K (S.put o.dst (some sv)) m
 | .call c => match c.callee with
  | .value f => frzW E o.dst S m (callV E o.type o.dst f c.args.toList K)
  | .builtin .append => match c.args.toList, c.argTypes.toList, o.dst with
   | [s, x], [T, xT], some d => frzW E (some d) S m fun S m => wv S s fun vs => wv S x fun vx => appendW E S m T xT (E.tokOf d) vs vx fun v tk m' => K ({ S with tok := tk, tkeys := E.tokOf d :: S.tkeys }.put (some d) (some (.v v))) m'
   | _, _, _ => False
  | .builtin .copy => match c.args.toList, c.argTypes.toList with
   | [d, s], [T, xT] => (match hintOf E d with
    | none => False
    | some id => wv S d fun vd => wv S s fun vs => copyW E S m T id vd vs fun n S' => K (S'.put o.dst (some (.v (.int .i64 n)))) m)
   | _, _ => False
  | _ => pureW E S o fun sv => K (S.put o.dst (some sv)) m
 | _ => pureW E S o fun sv => K (S.put o.dst (some sv)) m
section
variable {C : Ctx} {S : St} {m : Mem} {a : Act} {w : World}
theorem pure_upon {E : Env} (hE : E.ok) {o : Oper} (hd : ∀ t, o.dst = some t → t < C.n) (hr : Rel C S m a w) {K : St → Mem → Prop} (h : pureW E S o fun sv => K (S.put o.dst (some sv)) m) {F : Fence} {n : Nat} {next : Act → World → Prop} {Q : Exit → Act → World → Prop}
  (hK : ∀ S' m' a' w', K S' m' → Rel C S' m' a' w' → next a' w') : o.uponIn F n E.P a next Q ((execOp a.eval o).run E.P w) := by
 obtain ⟨sv, v, hk, hden, hrun⟩ := pureW_sound hE hr h
 rw [hrun]
 exact hK _ _ _ _ hk (hr.put o.dst hd hden)
theorem extW_sound {C : Ctx} {S : St} {m : Mem} {a : Act} {w : World} {E : Env} {g : FuncId} {args : List Value} {d : Option Tmp} {K : St → SV → Prop} (hd : ∀ t, d = some t → t < C.n) (hr : Rel C S m a w) (h : extW E S g args d K) :
  ∃ S' sv v w', K S' sv ∧ Rel C (S'.put d (some sv)) m (a.put d v) w' ∧ (callFunc g args.toArray).run E.P w = .ok (.value v) w' := by
 unfold extW at h
 cases he : exvOf E d with
 | true =>
  simp only [he, cond_true] at h
  obtain ⟨v, h1, h2⟩ := h
  exact ⟨S, .v v, v, w, h2, hr.put d hd (by simp [St.den]), h1 w⟩
 | false =>
 simp only [he, cond_false] at h
 split at h
 ·rename_i d v
  cases hL : S.L d with
  | some x => simp only [hL] at h
  | none =>
   simp only [hL] at h
   obtain ⟨n, e, rfl, hn, hmk, hk⟩ := h
   obtain ⟨cs, hrun, hle⟩ := hmk n w hn
   have hb := hr.drew.drew.newBox (d := d) hL (x := { b := w.heap.size, cs := cs.toList, T := e, cap := cs.toList.length, fz := false, full := true }) (m' := m) [] rfl (by simp) (fun _ => rfl) (.inl ⟨rfl, rfl⟩)
   simp only [List.append_nil, Array.toArray_toList] at hb
   exact ⟨_, _, .slice (some ⟨w.heap.size, 0, none⟩) n cs.size, _, hk w.heap.size cs.toList (by simpa using hle), hb.put (some d) hd (by simp [St.den, St.newL]), by simpa using hrun⟩
 ·exact h.elim
theorem callTW_sound {C : Ctx} {S : St} {m : Mem} {a : Act} {w : World} {E : Env} {rt : TypeId} {g : FuncId} {args : List Value} {key esz : Nat} {K : Value → St → Mem → Prop} (hr : Rel C S m a w) (h : callTW E S m rt g args key esz K) :
  Enters E.P g ∧ Calls E.P g args.toArray w fun e w' => ∃ v S' m', e = .returned v ∧ K v S' m' ∧ Rel C S' m' a w' := by
 obtain ⟨R, h⟩ := h
 obtain ⟨hcx, hfit, hall⟩ := fixA_elim h
 refine ⟨hcx.1, (hcx.2 w hr.sub).mono ?_⟩
 rintro e w' ⟨v, m', rfl, hle, hsub, hnew, hkeep, htok, hblk, hR⟩
 have hk := Shape.all_fits _ _ hall v (hfit _ _ _ hR) m' hle hR
 have hrw := hr.world hkeep hsub hle hnew
 refine ⟨v, _, m', rfl, hk, hrw.tokUpd key ⟨v, esz⟩ htok (fun b hb => ?_) ?_⟩
 ·have hge := hblk b hb
  refine ⟨⟨fun id x hx e => ?_, fun o => ?_⟩, fun k' t' _ hk' hb' => ?_⟩
  ·have := (hr.own id x hx).lt; omega
  ·cases he : C.me b o with
   | none => rfl
   | some u => have := hr.sub.lt (hr.le _ _ _ he); omega
  ·have := (hr.toks k' t' hk').1.lt hb'; omega
 ·obtain ⟨M, hd⟩ := hr.dom
  refine ⟨_, hd.step (m' := m') (hkeep.upd (by simp)) (hnew.grown hsub _), fun b hb => ?_⟩
  exact .inr ⟨hblk b hb, htok.lt hb, htok.wr hb⟩
theorem callYW_sound {C : Ctx} {S : St} {m : Mem} {a : Act} {w : World} {E : Env} {rt : TypeId} {g : FuncId} {args : List Value} {ids : List Nat} {ks : List (Nat × Nat)} {K : Value → St → Mem → Prop} (hY : YOk E C) (hr : Rel C S m a w) (h : callYW E S m rt g args ids ks K) :
  Enters E.P g ∧ Calls E.P g args.toArray w fun e w' => ∃ v S' m', e = .returned v ∧ K v S' m' ∧ Rel C S' m' a w' := by
 unfold callYW at h
 cases hb : boxesOf S ids with
 | none => simp [hb] at h
 | some bxs =>
 simp only [hb] at h
 cases hm0 : E.m0 with
 | none => simp [hm0] at h
 | some mm =>
 simp only [hm0] at h
 obtain ⟨h1, Y, R, hcx, c1, c2, hfit, hall⟩ := chk_elim h
 simp only [Bool.and_eq_true, List.all_eq_true, Bool.not_eq_true'] at h1
 obtain ⟨hfo, h1⟩ := h1
 have hme := hr.fo hfo
 obtain ⟨hC0, hW⟩ := hY.m0 mm hm0
 obtain ⟨hlen, hmem⟩ := boxesOf_spec hb
 obtain ⟨tlen, tmem⟩ := toksAt_spec (S := S) (ks := ks)
 generalize toksAt S ks = tks at *
 have tlen : tks.length = (ks.map (·.1)).length := by rw [List.length_map]; exact tlen
 have hkl : (ks.map (·.1)).length = ks.length := List.length_map _
 generalize hks : ks.map (·.1) = kl at *
 have hnd := natsNodup_spec h1.2.1
 have hnk := natsNodup_spec h1.2.2
 have tk_of : ∀ t ∈ tks, ∀ b, t.blk = some b → ∃ k ∈ kl, S.tok k = some t := fun t ht b hb => by
  obtain ⟨i, hi⟩ := List.getElem?_of_mem ht
  obtain ⟨k, q1, q2⟩ := tmem i t hi
  rcases q2 with q2 | q2
  ·exact ⟨k, List.mem_of_getElem? q1, q2⟩
  ·simp [Tok.blk, q2] at hb
 have hYc : ∀ b, Y b → b < w.heap.size ∧ (∀ D, w.heap[b]? ≠ some (.deferred D)) ∧ C.me.free b ∧ (∀ M, Dom C S m a w M → M b) ∧ (∀ id x, S.L id = some x → x.b ≠ b) ∧ (∀ k t, S.tok k = some t → t.blk = some b → k ∈ kl) := fun b hYb => by
  rcases c2 b hYb with ⟨t, ht, hbk⟩ | ⟨⟨q1, q1k⟩, q2, q3⟩
  ·obtain ⟨k, hk, hkt⟩ := tk_of t ht b hbk
   obtain ⟨g1, g2⟩ := hr.toks k t hkt
   refine ⟨g1.lt hbk, fun D e => ?_, (g2 b hbk).2, fun M hd => hd.tok k t b hkt hbk, (g2 b hbk).1, fun k' t' hk' hb' => ?_⟩
   ·rcases g1 with g1 | ⟨b', o0, n, c, cur, T, fr, hv, _, hh, _⟩
    ·simp [Tok.blk, g1] at hbk
    ·simp [Tok.blk, hv] at hbk; subst hbk; rw [hh] at e; cases e
   ·rw [hr.tapart k' k t' t b hk' hkt hb' hbk]; exact hk
  ·rcases q2 with ⟨o, v, q2⟩ | ⟨e0, q2⟩
   ·obtain ⟨q4, q5⟩ := nfz_spec q3
    have hs := hr.sub b o v q2
    refine ⟨hr.sub.lt q2, fun D e => ?_, by rw [hme, hC0]; exact q1, fun M hd => ?_, fun id x hx e => ?_, fun k t hkt hbk => ?_⟩
    ·unfold World.cell? at hs
     rw [e] at hs
     simp at hs
    ·rcases hd.new b o v q2 with h6 | h6
     ·rw [hme, hC0, q1] at h6; cases h6
     ·exact h6
    ·have ho := hr.own id x hx
     cases hz : x.fz with
     | true => exact q5 id x (hr.ids id x hx) hx hz e
     | false =>
      have := ho.free hz o
      rw [e, q2] at this; cases this
    ·exact Classical.byContradiction fun hn => ntk_spec q4 k t (hr.tkeys k t hkt) hkt hn hbk
   ·have hs := hr.sub.k b e0 q2
    obtain ⟨es, cl, g1, _⟩ := hs
    refine ⟨(hr.sub.k b e0 q2).lt, fun D e => ?_, by rw [hme, hC0]; exact q1, fun M hd => ?_, fun id x hx e => ?_, fun k t hkt hbk => ?_⟩
    ·rw [e] at g1; cases g1
    ·rcases hd.new.k b e0 q2 with h6 | h6
     ·rw [hme, hC0, q1k] at h6; cases h6
     ·exact h6
    ·obtain ⟨c, T, fr, h0⟩ := (hr.own id x hx).isC
     rw [e, g1] at h0; cases h0
    ·rcases (hr.toks k t hkt).1 with q0 | ⟨b', o0, n, c, cur, T, fr, hv, _, hh, _⟩
     ·simp [Tok.blk, q0] at hbk
     ·simp [Tok.blk, hv] at hbk; subst hbk; rw [hh] at g1; cases g1
 have hown : ∀ x ∈ bxs, Own m w x ∧ x.fz = false ∧ ¬ Y x.b := fun x hx => by
  obtain ⟨i, hi⟩ := List.getElem?_of_mem hx
  obtain ⟨id, _, hL⟩ := hmem i x hi
  exact ⟨hr.own id x hL, by simpa using h1.1 x hx, fun hy => (hYc _ hy).2.2.2.2.1 id x hL rfl⟩
 have hndb : (bxs.map (·.b)).Nodup := boxes_nodup hr.apart hb hnd
 have hpw : tokPw tks := fun i j t t' b hi hj hb1 hb2 => by
  obtain ⟨k, q1, q2⟩ := tmem i t hi
  obtain ⟨k', q3, q4⟩ := tmem j t' hj
  have q2 : S.tok k = some t := q2.resolve_right fun e => by simp [Tok.blk, e] at hb1
  have q4 : S.tok k' = some t' := q4.resolve_right fun e => by simp [Tok.blk, e] at hb2
  have := hr.tapart k k' t t' b q2 q4 hb1 hb2
  subst this
  have hi' := (List.getElem?_eq_some_iff.1 q1).1
  exact (List.getElem?_inj (l := kl) (i := i) (j := j) hi' hnk).1 (by rw [q1, q3])
 refine ⟨hcx.1, (hcx.2 w hr.sub hown hndb (fun t ht => ?_) hpw (fun b hYb => ⟨(hYc b hYb).1, ?_⟩)).mono ?_⟩
 ·refine ⟨?_, c1 t ht⟩
  obtain ⟨i, hi⟩ := List.getElem?_of_mem ht
  obtain ⟨k, _, q2⟩ := tmem i t hi
  rcases q2 with q2 | q2
  ·exact (hr.toks k t q2).1
  ·exact .inl q2
 ·obtain ⟨M, hd⟩ := hr.dom
  exact hW _ _ _ hd.p b ((hYc b hYb).2.2.2.1 M hd)
 rintro e w' ⟨v, m', css, tvs, rfl, hle, hsub, hnew, hu, hcl, hcs, htl, hts, htpw, hR⟩
 have hsl : ∀ u ∈ tvs, isSl u = true := fun u hu => by
  obtain ⟨i, hi⟩ := List.getElem?_of_mem hu
  have hlt := (List.getElem?_eq_some_iff.1 hi).1
  exact (hts i (tks[i]'(by omega)) u (List.getElem?_eq_getElem (by omega)) hi).1
 have hk := allSl_elim (allL_elim (Shape.all_fits _ _ hall v (hfit _ _ _ _ hR) m' hle (hnew.mono fun b h => h.imp_right fun h o => by
  cases he : m b o with
  | none => rfl
  | some u => have := hr.sub.lt he; omega)) css (by omega)) tvs (by omega) hsl hR
 refine ⟨v, _, m', rfl, hk, ?_⟩
 have hlow : ∀ b, b < w.heap.size → ¬ Y b → ∀ o, m b o = none → m' b o = none := fun b hlt hn o ho => by
  cases he : m' b o with
  | none => rfl
  | some u =>
   rcases hnew b o u he with h | h | h
   ·rw [ho] at h; cases h
   ·exact absurd h hn
   ·omega
 have hkeep : ∀ b, ¬ Y b → ∀ o u, m b o = some u → m' b o = some u := fun b hn o u h => hle b o u (by rw [Mem.off_at hn]; exact h)
 have hLs : ∀ id y, (setLs S ids bxs css).L id = some y → ∃ x, S.L id = some x ∧ x.b = y.b := fun id y hy => by
  rcases setLs_L (S := S) hnd hlen (by omega : css.length = ids.length) id with ⟨_, h4⟩ | ⟨i, x, cs, h3, h4, h5, h6⟩
  ·exact ⟨y, by rw [← h4]; exact hy, rfl⟩
  ·obtain ⟨id', g1, g2⟩ := hmem i x h4
   rw [h3] at g1; cases g1
   rw [h6] at hy; cases hy
   exact ⟨x, g2, rfl⟩
 have hLb : ∀ id x, S.L id = some x → ∃ y, (setLs S ids bxs css).L id = some y ∧ y.b = x.b := fun id x hx => by
  rcases setLs_L (S := S) hnd hlen (by omega : css.length = ids.length) id with ⟨_, h4⟩ | ⟨i, x', cs, h3, h4, h5, h6⟩
  ·exact ⟨x, by rw [h4]; exact hx, rfl⟩
  ·obtain ⟨id', g1, g2⟩ := hmem i x' h4
   rw [h3] at g1; cases g1
   rw [hx] at g2; cases g2
   exact ⟨_, h6, rfl⟩
 have hbM : ∀ M, Dom C S m a w M → ∀ b, b ∈ bxs.map (·.b) → M b := fun M hd b hb => by
  obtain ⟨z, hz, rfl⟩ := List.mem_map.1 hb
  obtain ⟨i, hi⟩ := List.getElem?_of_mem hz
  obtain ⟨id', _, g2⟩ := hmem i z hi
  exact hd.own id' z g2
 have hbc : ∀ b, b ∈ bxs.map (·.b) → ∃ id x, S.L id = some x ∧ x.b = b := fun b hb => by
  obtain ⟨z, hz, rfl⟩ := List.mem_map.1 hb
  obtain ⟨i, hi⟩ := List.getElem?_of_mem hz
  obtain ⟨id', _, g2⟩ := hmem i z hi
  exact ⟨id', z, g2, rfl⟩
 have henvL : (setLs S ids bxs css).env = S.env ∧ (setLs S ids bxs css).ids = S.ids ∧ (setLs S ids bxs css).tkeys = S.tkeys ∧ (setLs S ids bxs css).gh = S.gh ∧ (setLs S ids bxs css).fo = S.fo := by rw [setLs_eq]; exact ⟨rfl, rfl, rfl, rfl, rfl⟩
 have hTk : ∀ k t, setTk S.tok kl tks tvs k = some t → (k ∉ kl ∧ S.tok k = some t) ∨ ∃ (q : Nat) (t0 : Tok) (tv : Value), kl[q]? = some k ∧ tks[q]? = some t0 ∧ tvs[q]? = some tv ∧ t = ⟨tv, t0.esz⟩ := fun k t ht => by
  rcases setTk_spec (tok := S.tok) hnk tlen (by omega : tvs.length = kl.length) k with ⟨q1, q2⟩ | ⟨q, t0, tv, q1, q2, q3, q4⟩
  ·exact .inl ⟨q1, by rw [← q2]; exact ht⟩
  ·rw [ht] at q4; cases q4
   exact .inr ⟨q, t0, tv, q1, q2, q3, rfl⟩
 refine ⟨?_, hr.size, fun i sv he => ?_, fun id y hy => ?_, fun id id' y y' hy hy' e => ?_, fun id y hy => ?_, fun k t ht => ?_, fun k t ht => ?_, fun k k' t t' b ht ht' hb1 hb2 => ?_, hsub, ⟨fun b o u hu0 => ?_, fun b e he0 => ?_⟩, ?_, fun h' => hr.fo (by simpa only [henvL.2.2.2.2] using h')⟩
 ·obtain ⟨ms, q1, q2, q3⟩ := hr.defers
  refine ⟨ms, q1, q2, fun D hD => ?_⟩
  rw [hu.block D (Array.getElem?_eq_some_iff.1 (q3 D hD)).1 (fun hm => ?_)]
  ·exact q3 D hD
  ·rcases hm with hm | hm
   ·obtain ⟨id, x, g1, g2⟩ := hbc D hm
    obtain ⟨sp, fr, g3, _⟩ := (hr.own id x g1).cells
    have := q3 D hD
    rw [← g2, g3] at this; cases this
   ·exact (hYc D hm).2.1 _ (q3 D hD)
 ·simp only [henvL.1] at he
  obtain ⟨u, q1, q2⟩ := hr.env i sv he
  refine ⟨u, ?_, q2⟩
  cases sv with
  | v x => exact q1
  | loc id off =>
   simp only [St.den] at q1 ⊢
   cases hx : S.L id with
   | none => simp [hx] at q1
   | some x =>
    obtain ⟨y, g1, g2⟩ := hLb id x hx
    simp only [hx] at q1
    simp only [g1, g2]; exact q1
  | sl id n c =>
   simp only [St.den] at q1 ⊢
   cases hx : S.L id with
   | none => simp [hx] at q1
   | some x =>
    obtain ⟨y, g1, g2⟩ := hLb id x hx
    simp only [hx] at q1
    simp only [g1, g2]; exact q1
 ·rcases setLs_L (S := S) hnd hlen (by omega : css.length = ids.length) id with ⟨h3, h4⟩ | ⟨i, x, cs, h3, h4, h5, h6⟩
  ·have hy' : S.L id = some y := by rw [← h4]; exact hy
   have ho := hr.own id y hy'
   have hn : ¬ Y y.b := fun hh => (hYc _ hh).2.2.2.2.1 id y hy' rfl
   have hheap : w'.heap[y.b]? = w.heap[y.b]? := hu.block _ ho.lt (fun hm => by
    rcases hm with hm | hm
    ·obtain ⟨z, hz, hzb⟩ := List.mem_map.1 hm
     obtain ⟨i, hi⟩ := List.getElem?_of_mem hz
     obtain ⟨id', g1, g2⟩ := hmem i z hi
     have := hr.apart _ _ _ _ g2 hy' hzb
     subst this
     exact h3 (List.mem_of_getElem? g1)
    ·exact hn hm)
   exact ⟨by rw [hheap]; exact ho.cells, fun hz o => hlow _ ho.lt hn o (ho.free hz o), fun hz j u hu => hkeep _ hn _ _ (ho.known hz j u hu), ho.whole⟩
  ·simp only [h6, Option.some.injEq] at hy
   subst hy
   exact hcs i x cs h4 h5
 ·obtain ⟨x, g1, g2⟩ := hLs id y hy
  obtain ⟨x', g3, g4⟩ := hLs id' y' hy'
  exact hr.apart _ _ _ _ g1 g3 (by rw [g2, g4, e])
 ·obtain ⟨x, g1, g2⟩ := hLs id y hy
  simp only [henvL.2.1]; exact hr.ids id x g1
 ·rcases hTk k t ht with ⟨q1, q2⟩ | ⟨q, t0, tv, q1, q2, q3, rfl⟩
  ·obtain ⟨g1, g2⟩ := hr.toks k t q2
   have hn : ∀ b, t.blk = some b → ¬ Y b := fun b hb hh => q1 ((hYc b hh).2.2.2.2.2 k t q2 hb)
   refine ⟨g1.same (fun b hb => hu.block b (g1.lt hb) (fun hm => ?_)) (fun b o hb => hlow b (g1.lt hb) (hn b hb) o), fun b hb => ⟨fun id y hy => ?_, (g2 b hb).2⟩⟩
   ·rcases hm with hm | hm
    ·obtain ⟨id, x, g3, g4⟩ := hbc b hm
     exact (g2 b hb).1 id x g3 g4
    ·exact hn b hb hm
   ·obtain ⟨x, g3, g4⟩ := hLs id y hy
    rw [← g4]; exact (g2 b hb).1 id x g3
  ·obtain ⟨g1, g2, g3⟩ := hts q t0 tv q2 q3
   refine ⟨g2, fun b hb => ⟨fun id y hy => ?_, ?_⟩⟩
   ·obtain ⟨x, g4, g5⟩ := hLs id y hy
    rw [← g5]
    rcases (g3 b hb).1 with h | h
    ·exact (hYc b h).2.2.2.2.1 id x g4
    ·have := (hr.own id x g4).lt; omega
   ·rcases (g3 b hb).1 with h | h
    ·exact (hYc b h).2.2.1
    ·intro o
     cases he : C.me b o with
     | none => rfl
     | some u => have := hr.sub.lt (hr.le _ _ _ he); omega
 ·rcases hTk k t ht with ⟨q1, q2⟩ | ⟨q, t0, tv, q1, q2, q3, rfl⟩
  ·exact List.mem_append_right _ (hr.tkeys k t q2)
  ·exact List.mem_append_left _ (List.mem_of_getElem? q1)
 ·have cross : ∀ (k k' : Nat) (t t' : Tok), (k ∉ kl ∧ S.tok k = some t) → (∃ (q : Nat) (t0 : Tok) (tv : Value), kl[q]? = some k' ∧ tks[q]? = some t0 ∧ tvs[q]? = some tv ∧ t' = ⟨tv, t0.esz⟩) → t.blk = some b → t'.blk = some b → False := by
   rintro k k' t t' ⟨q1, q2⟩ ⟨q, t0, tv, q3, q4, q5, rfl⟩ e1 e2
   rcases ((hts q t0 tv q4 q5).2.2 b e2).1 with h | h
   ·exact q1 ((hYc b h).2.2.2.2.2 k t q2 e1)
   ·have := (hr.toks k t q2).1.lt e1; omega
  rcases hTk k t ht with h3 | h3 <;> rcases hTk k' t' ht' with h4 | h4
  ·exact hr.tapart k k' t t' b h3.2 h4.2 hb1 hb2
  ·exact (cross k k' t t' h3 h4 hb1 hb2).elim
  ·exact (cross k' k t' t h4 h3 hb2 hb1).elim
  ·obtain ⟨q, t0, tv, q1, q2, q3, rfl⟩ := h3
   obtain ⟨q', t0', tv', q1', q2', q3', rfl⟩ := h4
   have hz : ∀ (q : Nat) (t0 : Tok) (tv : Value), tks[q]? = some t0 → tvs[q]? = some tv → ((tks.zip tvs).map fun q => (⟨q.2, q.1.esz⟩ : Tok))[q]? = some ⟨tv, t0.esz⟩ := fun q t0 tv h5 h6 => by
    rw [List.getElem?_map, (List.getElem?_zip_eq_some (z := (t0, tv))).2 ⟨h5, h6⟩]; rfl
   have := htpw q q' _ _ b (hz q t0 tv q2 q3) (hz q' t0' tv' q2' q3') hb1 hb2
   subst this
   rw [q1] at q1'; cases q1'; rfl
 ·refine hkeep b (fun hh => ?_) o u (hr.le b o u hu0)
  rw [(hYc b hh).2.2.1 o] at hu0; cases hu0
 ·have h5 := hr.le.k b e he0
  by_cases hh : Y b
  ·rcases c2 b hh with ⟨t, ht, hbk⟩ | ⟨⟨q1, q1k⟩, q2, q3⟩
   ·obtain ⟨k, hk, hkt⟩ := tk_of t ht b hbk
    obtain ⟨es, cl, g1, _⟩ := hr.sub.k b e h5
    rcases (hr.toks k t hkt).1 with q0 | ⟨b', o0, n, c, cur, T, fr, hv, _, hh2, _⟩
    ·simp [Tok.blk, q0] at hbk
    ·simp [Tok.blk, hv] at hbk; subst hbk; rw [hh2] at g1; cases g1
   ·rw [hme, hC0, q1k] at he0; cases he0
  ·exact hle.k b e (by rw [Mem.off_k hh]; exact h5)
 ·obtain ⟨M, hd⟩ := hr.dom
  have hu' : Upd M w w' := ⟨hu.os, hu.tape, hu.output, hu.size, fun k hk hn => hu.block k hk (fun hm => hn (by
   rcases hm with hm | hm
   ·exact hbM M hd k hm
   ·exact (hYc k hm).2.2.2.1 M hd)), hu.wr⟩
  have hst := hd.step (m' := m') hu' ⟨fun b o u h => by
   rcases hnew b o u h with h | h | h
   ·exact .inl h
   ·exact .inr (.inl ((hYc b h).2.2.2.1 M hd))
   ·exact .inr (.inr ⟨h.1, hsub.lt (by assumption), h.2⟩), fun b e h => by
   rcases hnew.k b e h with h | h | h
   ·exact .inl h
   ·exact .inr (.inl ((hYc b h).2.2.2.1 M hd))
   ·exact .inr (.inr ⟨h.1, (hsub.k b e (by assumption)).lt, h.2⟩)⟩
  refine ⟨_, by simpa only [henvL.2.2.2.1] using hst.p, hst.lt, fun id y hy => ?_, fun k t b ht hb => ?_, hst.mks, hst.new⟩
  ·obtain ⟨x, g1, g2⟩ := hLs id y hy
   rw [← g2]; exact hst.own id x g1
  ·rcases hTk k t ht with ⟨q1, q2⟩ | ⟨q, t0, tv, q1, q2, q3, rfl⟩
   ·exact hst.tok k t b q2 hb
   ·obtain ⟨g1, g2, g3⟩ := hts q t0 tv q2 q3
    rcases (g3 b hb).1 with h | h
    ·exact .inl ((hYc b h).2.2.2.1 M hd)
    ·exact .inr ⟨h, g2.lt hb, g2.wr hb⟩
theorem effW_sound {C : Ctx} {S : St} {m : Mem} {a : Act} {w : World} {E : Env} {rt : TypeId} {g : FuncId} {args : List Value} {K : Value → Int → Prop} (hY : YOk E C) (hr : Rel C S m a w) (h : effW E rt g args K S m) :
  Enters E.P g ∧ Calls E.P g args.toArray w fun e w' => ∃ v gh, e = .returned v ∧ K v gh ∧ Rel C { S with gh := gh } m a w' := by
 unfold effW at h
 split at h
 ·exact h.elim
 rename_i Y hyl
 obtain ⟨l, xs, go, stop, hcy, hys, hfit, hall⟩ := h
 have hyo := hY.y Y hyl
 obtain ⟨M0, hd⟩ := hr.dom
 let at' : Int → Int := fun j => if j < 0 then -1 else S.gh + j
 let p : Int → (Nat → Prop) → World → Prop := fun j M w1 => C.p (at' j) (fun k => M0 k ∨ M k) w1 ∧ (∀ k, M k → w.heap.size ≤ k) ∧ w.heap.size ≤ w1.heap.size ∧ (∀ k, M0 k → w1.heap[k]? = w.heap[k]?) ∧ Sub m w1
 have hmlt : ∀ b o v, m b o = some v → b < w.heap.size := fun b o v hv => hr.sub.lt hv
 have hp : Lasts p := by
  rintro j M M' w1 w2 ⟨h1, h2, h3, h4, h5⟩ hu hM'
  have hM2 : ∀ k, M' k → w.heap.size ≤ k := fun k hk => by
   rcases hM' k hk with hk | hk
   ·exact h2 k hk
   ·exact Nat.le_trans h3 hk.1
  have hst : ∀ k, k < w.heap.size → w2.heap[k]? = w1.heap[k]? := fun k hk => hu.block k (Nat.lt_of_lt_of_le hk h3) fun hm => by have := h2 k hm; omega
  refine ⟨C.st _ _ _ _ _ h1 ⟨hu.os, hu.tape, hu.output, hu.size, fun k hk hn => hu.block k hk fun hm => hn (.inr hm), hu.wr⟩ (fun k hk => ?_), hM2, Nat.le_trans h3 hu.size, fun k hk => by rw [hst k (hd.lt k hk)]; exact h4 k hk, ⟨fun b o v hv => ?_, fun b e he => (h5.k b e he).same (hst b (hr.sub.k b e he).lt)⟩⟩
  ·rcases hk with hk | hk
   ·exact .inl (.inl hk)
   ·rcases hM' k hk with hk | hk
    ·exact .inl (.inr hk)
    ·exact .inr hk
  ·rw [cell?_eq (hst b (hmlt b o v hv))]; exact h5 b o v hv
 have hp0 : p 0 (fun _ => False) w := by
  refine ⟨?_, fun _ h => h.elim, Nat.le_refl _, fun _ _ => rfl, hr.sub⟩
  have e1 : at' 0 = S.gh := by simp [at']
  have e2 : (fun k => M0 k ∨ False) = M0 := by funext k; simp
  rw [e1]
  show C.p S.gh (fun k => M0 k ∨ False) w
  rw [e2]; exact hd.p
 have hyp : YieldOk E.P m p (fun l' g v => l' = l ∧ 0 ≤ g ∧ xs[g.toNat]? = some v) := by
  rintro F n l' j v M w1 hF hMlt ⟨rfl, hj, hxs⟩ ⟨h1, h2, h3, h4, h5⟩ hsub
  have e1 : at' j = S.gh + ((j.toNat : Nat) : Int) := by
   show (if j < 0 then -1 else S.gh + j) = _
   rw [if_neg (by omega)]; omega
  rw [e1] at h1
  have hlt : ∀ k, M0 k ∨ M k → k < w1.heap.size := fun k hk => by
   rcases hk with hk | hk
   ·exact Nat.lt_of_lt_of_le (hd.lt k hk) h3
   ·exact hMlt k hk
  have hya := hyo F n l' _ v (fun k => M0 k ∨ M k) w1 hF hlt (hys _ _ hxs) h1 (hsub.less hr.le)
  obtain ⟨fn, tmps, asg, bdy, hrn, hround⟩ := hya
  refine ⟨fn, tmps, asg, bdy, hrn, hround.mono ?_⟩
  rintro e w2 ⟨b, rfl, hpb, hfr⟩
  have hsub2 : Sub m w2 := ⟨fun b o v hv => by
   rcases hd.new b o v hv with h6 | h6
   ·exact hfr.sub b o v h6
   ·have hb := hfr.block b (Nat.lt_of_lt_of_le (hd.lt b h6) h3) (.inl h6)
    rw [cell?_eq hb]; exact hsub b o v hv, fun b e he => by
   rcases hd.new.k b e he with h6 | h6
   ·exact hfr.sub.k b e h6
   ·exact (hsub.k b e he).same (hfr.block b (Nat.lt_of_lt_of_le (hd.lt b h6) h3) (.inl h6))⟩
  refine ⟨b, rfl, ⟨?_, h2, Nat.le_trans h3 hfr.size, fun k hk => ?_, hsub2⟩, ⟨hfr.size, fun k hk hm => hfr.block k hk (.inr hm), hsub2⟩⟩
  ·cases b with
   | true =>
    have e2 : at' (j + 1) = S.gh + ((j.toNat : Nat) : Int) + 1 := by
     show (if j + 1 < 0 then -1 else S.gh + (j + 1)) = _
     rw [if_neg (by omega)]; omega
    simp only [if_true] at hpb ⊢
    rw [e2]; exact hpb
   | false =>
    simp only [Bool.false_eq_true, if_false] at hpb ⊢
    exact hpb
  ·rw [hfr.block k (Nat.lt_of_lt_of_le (hd.lt k hk) h3) (.inl hk)]; exact h4 k hk
 refine ⟨hcy.1, (hcy.2 p hp w hr.sub hp0 hyp).mono ?_⟩
 rintro e w' ⟨v, M, rfl, hMlt, hres⟩
 have fin : ∀ j, p j M w' → Rel C { S with gh := at' j } m a w' := by
  rintro j ⟨h1, h2, h3, h4, h5⟩
  refine hr.yielded hd (C.st _ _ _ _ _ h1 (Upd.refl _ _) fun k hk => .inl (.inl hk)) ⟨h3, fun k _ hk => h4 k hk, h5.less hr.le⟩
 have hv : go v ∨ stop v := by
  rcases hres with h | h
  ·exact .inl h.1
  ·exact .inr h.1
 have hk := Shape.all_fits _ _ hall v (hfit v hv)
 rcases hres with ⟨h1, h2⟩ | ⟨h1, h2⟩
 ·have := fin _ h2
  have e1 : at' (xs.length : Int) = S.gh + (xs.length : Int) := by
   show (if ((xs.length : Nat) : Int) < 0 then -1 else S.gh + ((xs.length : Nat) : Int)) = _
   rw [if_neg (by omega)]
  rw [e1] at this
  exact ⟨v, _, rfl, hk.1 h1, this⟩
 ·have := fin _ h2
  have e1 : at' (-1) = -1 := rfl
  rw [e1] at this
  exact ⟨v, _, rfl, hk.2 h1, this⟩
theorem opW_sound {E : Env} (hE : E.ok) {F : Fence} (hF : FOk F) (hY : YOk E C) {o : Oper} (hd : ∀ t, o.dst = some t → t < C.n) (hr : Rel C S m a w) {K : St → Mem → Prop} (h : opW E S m o K) {n : Nat} {next : Act → World → Prop} {Q : Exit → Act → World → Prop}
  (hK : ∀ S' m' a' w', K S' m' → Rel C S' m' a' w' → next a' w') : o.uponIn F n E.P a next Q ((execOp a.eval o).run E.P w) := by
 obtain ⟨dst, op, type, pos, after, guard⟩ := o
 cases op with
 | move x => exact hK _ _ _ _ h (hr.putEv' dst hd x)
 | assign x => exact hK _ _ _ _ h (hr.putEv' dst hd x)
 | pick c x y =>
  obtain ⟨v, hv, h⟩ := wv_elim h
  obtain ⟨h1, h2⟩ := chk_elim h
  have he := hr.ev hv
  obtain ⟨b, rfl⟩ : ∃ b, v = .bool b := ⟨_, isBool_elim h1⟩
  have hrun : (execOp a.eval ⟨dst, .pick c x y, type, pos, after, guard⟩).run E.P w = .ok (.value (if b then a.eval x else a.eval y)) w := by
   simp [execOp, he, asBool]
  rw [hrun]
  simp only [boolOf] at h2
  cases b
  ·exact hK _ _ _ _ h2 (hr.putEv' dst hd y)
  ·exact hK _ _ _ _ h2 (hr.putEv' dst hd x)
 | load T x =>
  have h' : ∃ v, K (S.put dst (some (.v v))) m ∧ (Instr.loadAt T (a.eval x)).run E.P w = .ok v w := by
   simp only [opW] at h
   cases hld : ldFOf E dst with
   | none =>
    simp only [hld] at h
    exact loadW_sound hE hr h
   | some y =>
    simp only [hld] at h
    obtain ⟨v, hk, hrun⟩ := loadW_sound hE hr h
    exact ⟨v, ldW_elim hk, hrun⟩
  obtain ⟨v, hk, hrun⟩ := h'
  have hrun' : (execOp a.eval ⟨dst, .load T x, type, pos, after, guard⟩).run E.P w = .ok (.value v) w := by simp [execOp, hrun]
  rw [hrun']
  exact hK _ _ _ _ hk (hr.put dst hd rfl)
 | store T x y =>
  obtain ⟨v, hv, h⟩ := wv_elim h
  have he := hr.ev hv
  cases hsk : stKey E x with
  | none =>
   simp only [hsk] at h
   obtain ⟨S', w', hk, hrel, hrun⟩ := storeW_sound hE hr h
   have hrun' : (execOp a.eval ⟨dst, .store T x y, type, pos, after, guard⟩).run E.P w = .ok .skip w' := by simp [execOp, he, hrun]
   rw [hrun']
   exact hK _ _ _ _ hk (hrel.putNone dst _)
  | some key =>
   simp only [hsk] at h
   cases hfx : E.fix with
   | some f => simp [hfx] at h
   | none =>
    simp only [hfx, Option.isSome_none, cond_false] at h
    obtain ⟨m', w', hk, hrel, hrun⟩ := storeTokW_sound hE hY hr h
    have hrun' : (execOp a.eval ⟨dst, .store T x y, type, pos, after, guard⟩).run E.P w = .ok .skip w' := by simp [execOp, he, hrun]
    rw [hrun']
    exact hK _ _ _ _ hk (hrel.putNone dst _)
 | alloc T =>
  simp only [opW, allocW] at h
  cases dst with
  | none => exact h.elim
  | some d =>
   simp only at h
   cases ht : E.tt T with
   | none => simp [ht] at h
   | some i =>
    simp only [ht] at h
    cases hL : S.L d with
    | some x => simp [hL] at h
    | none =>
     simp only [hL] at h
     have hok := hE T i ht
     have hz := hok.run_zero (w := w)
     have hzl : i.zero.cells.toList.length = i.size := by simpa using hok.zsize
     have hb := hr.newBox (d := d) hL (x := { b := w.heap.size, cs := i.zero.cells.toList, T := T, cap := i.size, fz := false, full := true }) (m' := m) [] rfl (by simpa using hzl) (fun _ => hzl) (.inl ⟨rfl, rfl⟩)
     simp only [List.append_nil, Array.toArray_toList] at hb
     have hrun : (execOp a.eval ⟨some d, .alloc T, type, pos, after, guard⟩).run E.P w = .ok (.value (.pointer (some ⟨w.heap.size, 0, none⟩))) (w.alloc (.cells i.zero.cells T (0, 0))) := by
      simp [execOp, Instr.alloc, hz, newVar, newRow]
     rw [hrun]
     exact hK _ _ _ _ (h w.heap.size) (hb.put (some d) hd (by simp [St.den, St.newL]))
 | box T x =>
  obtain ⟨v, hv, h⟩ := wv_elim h
  have he := hr.ev hv
  cases hfn : frzNewOf E dst with
  | true =>
   simp only [hfn, cond_true] at h
   cases hfx : E.fix with
   | some f => simp [hfx] at h
   | none =>
    simp only [hfx, Option.isSome_none, cond_false, boxFW] at h
    cases dst with
    | none => exact h.elim
    | some d =>
     simp only at h
     cases ht : E.tt T with
     | none => simp [ht] at h
     | some i =>
      simp only [ht] at h
      cases hL : S.L d with
      | some x => simp [hL] at h
      | none =>
       simp only [hL] at h
       obtain ⟨h1, h2⟩ := chk_elim h
       have hsz := Nat.eq_of_beq_eq_true h1
       have hzl : v.cells.toList.length = i.size := by simpa using hsz
       have hfree : m.free w.heap.size := fun o => by
        cases he : m w.heap.size o with
        | none => rfl
        | some v => have := hr.sub.lt he; omega
       have hb := hr.newBox (d := d) hL (x := { b := w.heap.size, cs := v.cells.toList, T := T, cap := i.size, fz := true, full := true }) (m' := m.add w.heap.size v.cells.toList) [] rfl (by simpa using hzl) (fun _ => hzl) (.inr ⟨rfl, rfl⟩)
       simp only [List.append_nil, Array.toArray_toList] at hb
       have hrun : (execOp a.eval ⟨some d, .box T x, type, pos, after, guard⟩).run E.P w = .ok (.value (.pointer (some ⟨w.heap.size, 0, none⟩))) (w.alloc (.cells v.cells T (0, 0))) := by
        simp [execOp, he, Instr.box, newVar, newRow]
       rw [hrun]
       exact hK _ _ _ _ (onlyW_elim (h2 w.heap.size _ (Mem.le_add hfree _) (fun j v hv => by rw [Mem.add_same]; simpa using hv)) hfree (fun b' o u hu => by
        by_cases e : b' = w.heap.size
        ·exact .inr e
        ·rw [Mem.add_other _ e] at hu; exact .inl hu) (by
        cases he : m.k w.heap.size with
        | none => rfl
        | some e => have := (hr.sub.k _ e he).lt; omega)) (hb.put (some d) hd (by simp [St.den, St.newL]))
  | false =>
  simp only [hfn, cond_false] at h
  simp only [boxW] at h
  cases dst with
  | none => exact h.elim
  | some d =>
   simp only at h
   cases ht : E.tt T with
   | none => simp [ht] at h
   | some i =>
    simp only [ht] at h
    cases hL : S.L d with
    | some x => simp [hL] at h
    | none =>
     simp only [hL] at h
     obtain ⟨h1, h2⟩ := chk_elim h
     have hsz := Nat.eq_of_beq_eq_true h1
     have hzl : v.cells.toList.length = i.size := by simpa using hsz
     have hb := hr.newBox (d := d) hL (x := { b := w.heap.size, cs := v.cells.toList, T := T, cap := i.size, fz := false, full := true }) (m' := m) [] rfl (by simpa using hzl) (fun _ => hzl) (.inl ⟨rfl, rfl⟩)
     simp only [List.append_nil, Array.toArray_toList] at hb
     have hrun : (execOp a.eval ⟨some d, .box T x, type, pos, after, guard⟩).run E.P w = .ok (.value (.pointer (some ⟨w.heap.size, 0, none⟩))) (w.alloc (.cells v.cells T (0, 0))) := by
      simp [execOp, he, Instr.box, newVar, newRow]
     rw [hrun]
     exact hK _ _ _ _ (h2 w.heap.size) (hb.put (some d) hd (by simp [St.den, St.newL]))
 | buildSlice T len parts =>
  simp only [opW] at h
  cases htc : tokCOf E dst with
  | some ke =>
   simp only [htc] at h
   cases hfx : E.fix with
   | some f => simp [hfx] at h
   | none =>
    simp only [hfx, Option.isSome_none, cond_false] at h
    split at h
    ·rename_i hp
     have hpa : parts = #[] := by rw [← Array.toArray_toList (xs := parts), hp]
     subst hpa
     obtain ⟨S', v, w', hk, hrel, _, hx⟩ := makeTW_sound hE (fun m' e => by cases e; rfl) hd hr h
     obtain ⟨i, e, g1, g2, rfl, rfl⟩ := hx rfl
     have hu := (hE T i g1).run_und (w := w)
     rw [g2] at hu
     have hsz : ∃ n, (Go.sizeOf e).run E.P w = .ok n w := by
      unfold makeTW at h
      cases dst with
      | none => exact h.elim
      | some d =>
       simp only at h
       cases hs : sliceElem E T with
       | none => simp [hs] at h
       | some ej =>
        obtain ⟨e', j⟩ := ej
        obtain ⟨i', q1, q2, q3⟩ := sliceElem_spec hs
        rw [g1] at q1; cases q1
        rw [g2] at q2; cases q2
        exact ⟨_, (hE _ j q3).run_size (w := w)⟩
     obtain ⟨n0, hsz⟩ := hsz
     have hrun : (execOp a.eval ⟨dst, .buildSlice T 0 #[], type, pos, after, guard⟩).run E.P w = .ok (.value (.slice (some ⟨w.heap.size, 0, none⟩) 0 0)) (w.alloc (.cells #[] e (0, 0))) := by
      simp [execOp, Instr.buildSlice, hu, hsz, newRow, Instr.fill]
      congr 2
      apply Array.ext'
      simp
     rw [hrun]
     exact hK _ _ _ _ hk hrel
    ·exact h.elim
  | none =>
  simp only [htc, buildSliceW] at h
  cases dst with
  | none => exact h.elim
  | some d =>
   simp only at h
   cases ht : E.tt T with
   | none => simp [ht] at h
   | some t =>
    simp only [ht] at h
    have htk := hE T t ht
    cases htd : t.d with
    | slice e =>
     simp only [htd] at h
     cases hi : E.tt e with
     | none => simp [hi] at h
     | some i =>
      simp only [hi] at h
      have hok := hE e i hi
      cases hL : S.L d with
      | some x => simp [hL] at h
      | none =>
       simp only [hL] at h
       obtain ⟨h1, h2⟩ := chk_elim h
       simp only [Bool.and_eq_true, Nat.ble_eq] at h1
       have h3 := wvs_sound hr h2
       obtain ⟨h4, h5⟩ := chk_elim h3
       generalize hvs : List.map a.eval (List.map (fun x => x.2) parts.toList) = vs at *
       have hlen : parts.toList.length = len := Nat.eq_of_beq_eq_true h1.2.1
       have hvl : vs.length = len := by rw [← hvs]; simpa using hlen
       have hcl : (catCells vs).length = len * i.size := by rw [sizes_cat h4, hvl]
       have hfree : m.free w.heap.size := fun o => by
        cases he : m w.heap.size o with
        | none => rfl
        | some v => have := hr.sub.lt he; omega
       have hb := hr.newBox (d := d) hL (x := { b := w.heap.size, cs := catCells vs, T := e, cap := len * i.size, fz := true, full := true }) (m' := m.add w.heap.size (catCells vs)) [] rfl (by simpa using hcl) (fun _ => hcl) (.inr ⟨rfl, rfl⟩)
       simp only [List.append_nil] at hb
       have hu := htk.run_und (w := w)
       rw [htd] at hu
       have hsz := hok.run_size (w := w)
       have hz := hok.run_zero (w := w)
       have hparts : (parts.map fun x => (x.1, a.eval x.2)).toList = (List.range' 0 vs.length).zip vs := by
        have e1 := idxFrom_spec h1.1
        simp only [List.length_map] at e1
        rw [hlen, ← hvl] at e1
        rw [← e1, ← hvs, List.map_map, List.zip_map']
        simp
       have hzl : i.zero.cells.toList.length = i.size := by simpa using hok.zsize
       have hz0 : ∀ zz : Array Value, ((Array.range (len * i.size)).map (fun q => zz[q % zz.size]!)).toList.length = vs.length * i.size := fun zz => by simp [hvl]
       have hfill : ∀ zz : Array Value, Instr.fill (fun q => some (q * i.size, i.size)) ((Array.range (len * i.size)).map (fun q => zz[q % zz.size]!)) (parts.map fun x => (x.1, a.eval x.2)).toList = some (catCells vs).toArray := fun zz => by
        have := fill_whole i.size vs 0 [] ((Array.range (len * i.size)).map (fun q => zz[q % zz.size]!)).toList h4 (by simp) (hz0 zz)
        rw [hparts]
        simpa only [List.nil_append, Array.toArray_toList] using this
       have hle : ¬ (16777216 < len * i.size) := by omega
       have hrun : (execOp a.eval ⟨some d, .buildSlice T len parts, type, pos, after, guard⟩).run E.P w = .ok (.value (.slice (some ⟨w.heap.size, 0, none⟩) len len)) (w.alloc (.cells (catCells vs).toArray e (0, 0))) := by
        by_cases h0 : len * i.size = 0
        ·have := hfill #[]
         simp only [h0] at this
         simp [execOp, Instr.buildSlice, hu, hsz, h0, newRow]
         simp at this
         simp [this]
        ·have := hfill i.zero.cells
         simp [execOp, Instr.buildSlice, hu, hsz, hle, h0, hz, newRow]
         simp at this
         simp [this]
       rw [hrun]
       exact hK _ _ _ _ (h5 w.heap.size hfree) (hb.put (some d) hd (by simp [St.den, St.newL]))
    | _ => simp [htd] at h
 | makeSlice T l c =>
  have h' : ∃ S' m' v w', K S' m' ∧ Rel C S' m' (a.put dst v) w' ∧ (Instr.makeSlice T (a.eval l) (a.eval c)).run E.P w = .ok v w' := by
   simp only [opW] at h
   cases htc : tokCOf E dst with
   | none =>
    simp only [htc] at h
    cases hmk : mkMOf E dst with
    | false =>
     simp only [hmk, cond_false] at h
     obtain ⟨S', v, w', g⟩ := makeW_sound hE hd hr h
     exact ⟨S', m, v, w', g⟩
    | true =>
     simp only [hmk, cond_true] at h
     cases hfx : E.fix with
     | some f => simp [hfx] at h
     | none =>
      simp only [hfx, Option.isSome_none, cond_false] at h
      exact makeMW_sound hE hd hr h
   | some ke =>
    simp only [htc] at h
    cases hfx : E.fix with
    | some f => simp [hfx] at h
    | none =>
     simp only [hfx, Option.isSome_none, cond_false] at h
     obtain ⟨S', v, w', g1, g2, g3, _⟩ := makeTW_sound hE (fun m' e => by cases e) hd hr h
     exact ⟨S', m, v, w', g1, g2, g3⟩
  obtain ⟨S', m', v, w', hk, hrel, hrun⟩ := h'
  have hrun' : (execOp a.eval ⟨dst, .makeSlice T l c, type, pos, after, guard⟩).run E.P w = .ok (.value v) w' := by simp [execOp, hrun]
  rw [hrun']
  exact hK _ _ _ _ hk hrel
 | lookup T x y ok =>
  simp only [opW] at h
  obtain ⟨v, hk, hrun⟩ := lookW_sound hE hr h
  have hrun' : (execOp a.eval ⟨dst, .lookup T x y ok, type, pos, after, guard⟩).run E.P w = .ok (.value v) w := by simp [execOp, hrun]
  rw [hrun']
  exact hK _ _ _ _ hk (hr.put dst hd rfl)
 | mapUpdate T x y z =>
  simp only [opW] at h
  cases hfx : E.fix with
  | some f => simp [hfx] at h
  | none =>
   simp only [hfx, Option.isSome_none, Bool.false_or] at h
   cases hth : E.thaw with
   | false => simp [hth] at h
   | true =>
   simp only [hth, Bool.not_true, cond_false] at h
   obtain ⟨m', w', hk, hrel, hrun⟩ := mapUpW_sound hE hY hr h
   have hrun' : (execOp a.eval ⟨dst, .mapUpdate T x y z, type, pos, after, guard⟩).run E.P w = .ok .skip w' := by simp [execOp, hrun]
   rw [hrun']
   exact hK _ _ _ _ hk (hrel.putNone dst _)
 | makeMap T r =>
  simp only [opW] at h
  cases hfx : E.fix with
  | some f => simp [hfx] at h
  | none =>
   simp only [hfx, Option.isSome_none, cond_false] at h
   obtain ⟨S', m', v, w', hk, hrel, hrun⟩ := mkMapW_sound (E := E) (T := T) hd hr h
   have hrun' : (execOp a.eval ⟨dst, .makeMap T r, type, pos, after, guard⟩).run E.P w = .ok (.value v) w' := by simp [execOp, hrun]
   rw [hrun']
   exact hK _ _ _ _ hk hrel
 | convert s d x =>
  simp only [opW] at h
  cases hbs : isByteSl E s d with
  | false =>
   simp only [hbs, cond_false] at h
   cases hsb : isStrBytes E s d with
   | false =>
    simp only [hsb, cond_false] at h
    cases hbt : isBytesStr E s d with
    | false =>
     simp only [hbt, cond_false] at h
     exact pure_upon hE hd hr h hK
    | true =>
     simp only [hbt, cond_true] at h
     obtain ⟨v, hk, hrun⟩ := bytesStrW_sound hE hbt hr (bytesW_str h)
     have hrun' : (execOp a.eval ⟨dst, .convert s d x, type, pos, after, guard⟩).run E.P w = .ok (.value v) w := by simp [execOp, hrun]
     rw [hrun']
     exact hK _ _ _ _ hk (hr.put dst hd rfl)
   | true =>
    simp only [hsb, cond_true] at h
    cases hfx : E.fix with
    | some f => simp [hfx] at h
    | none =>
     simp only [hfx, Option.isSome_none, cond_false] at h
     obtain ⟨S', m', v, w', hk, hrel, hrun⟩ := strBW_sound hE hsb hd hr h
     have hrun' : (execOp a.eval ⟨dst, .convert s d x, type, pos, after, guard⟩).run E.P w = .ok (.value v) w' := by simp [execOp, hrun]
     rw [hrun']
     exact hK _ _ _ _ hk hrel
  | true =>
   simp only [hbs, cond_true] at h
   cases he : S.ev x with
   | none => simp [he] at h
   | some sv =>
    cases sv with
    | v u => simp [he] at h
    | loc id off => simp [he] at h
    | sl id n' c =>
     simp only [he] at h
     obtain ⟨v, h1, h2, h3⟩ := hr.ev_val he
     simp only [St.den] at h1
     cases hL : S.L id with
     | none => simp [hL] at h1
     | some bx =>
      simp only [hL, Option.some.injEq] at h1
      unfold isByteSl at hbs
      cases ht : E.tt s with
      | none => simp [ht] at hbs
      | some i =>
       simp only [ht] at hbs
       cases hid : i.d with
       | slice e =>
        simp only [hid, Bool.and_eq_true] at hbs
        have hsd : s = d := Nat.eq_of_beq_eq_true hbs.1
        subst hsd
        cases hj : E.tt e with
        | none => simp [hj] at hbs
        | some j =>
         simp only [hj] at hbs
         have hu := (hE s i ht).run_und (w := w)
         have hue := (hE e j hj).run_und (w := w)
         rw [hid] at hu
         obtain ⟨sp, fr, hh, hc, hf⟩ := (hr.own id bx hL).cells
         have hms := run_markStringish (P := E.P) bx.b 0 hh
         have hrel := hr.freeze hL _ ⟨_, _, _, hh, rfl⟩
         have hjd : j.d = .int .u8 := by
          cases hjd : j.d with
          | int kk => cases kk <;> simp [hjd] at hbs <;> rfl
          | _ => simp [hjd] at hbs
         rw [hjd] at hue
         have hrun : (execOp a.eval ⟨dst, .convert s s x, type, pos, after, guard⟩).run E.P w = .ok (.value (.slice (some ⟨bx.b, 0, none⟩) n' c)) (w.freeze ⟨bx.b, (bx.cs ++ sp).toArray.size, none⟩ 1) := by
          simp only [execOp, h3, ← h1]
          simp only [convert, Sem.run_bind, hu, Result.andThen_ok, beq_self_eq_true, hue, hms, Sem.run_pure]
         rw [hrun]
         exact hK _ _ _ _ h (hrel.put dst hd (by simp [St.den, hL]))
       | _ => simp [hid] at hbs
 | call c =>
  obtain ⟨callee, args, argTypes⟩ := c
  cases callee with
  | value f =>
   simp only [opW] at h
   obtain ⟨S, m, hr, h⟩ := frzW_sound hr h
   simp only [callV] at h
   cases he : S.ev f with
   | none => simp [he] at h
   | some sv =>
    obtain ⟨v, h1, h2, h3⟩ := hr.ev_val he
    cases sv with
    | v fv =>
     cases fv with
     | func fn first captured =>
      cases fn with
      | func g =>
       simp only [he] at h
       simp only [St.den, Option.some.injEq] at h1
       have hargs : (first ++ Array.map a.eval args ++ captured) = (first.toList ++ List.map a.eval args.toList ++ captured.toList).toArray := Array.ext' (by simp)
       cases hex : extOf E dst with
       | true =>
        simp only [hex, cond_true] at h
        cases hfx : E.fix with
        | some f => simp [hfx] at h
        | none =>
         simp only [hfx, Option.isSome_none, cond_false] at h
         obtain ⟨S', sv, v, w', hk, hrel, hrun⟩ := extW_sound hd hr (wvs_sound hr h)
         have hrun' : (execOp a.eval ⟨dst, .call ⟨.value f, args, argTypes⟩, type, pos, after, guard⟩).run E.P w = .ok (.value v) w' := by
          simp only [execOp, resolve, h3, ← h1, Deferred.ofValue]
          simp only [Sem.run_bind, Sem.run_pure, Result.andThen_ok, invoke, hargs]
          exact hrun
         rw [hrun']
         exact hK _ _ _ _ hk hrel
       | false =>
       simp only [hex, cond_false] at h
       have hec : Enters E.P g ∧ Calls E.P g (first.toList ++ List.map a.eval args.toList ++ captured.toList).toArray w fun e w' => ∃ v S' m', e = .returned v ∧ K (S'.put dst (some (.v v))) m' ∧ Rel C S' m' a w' := by
        cases hcy : callYOf E dst with
        | some ks =>
         simp only [hcy] at h
         cases hfx : E.fix with
         | some f => simp [hfx] at h
         | none =>
          simp only [hfx, Option.isSome_none, cond_false] at h
          have h4 := wvs_sound hr h
          exact callYW_sound hY hr h4
        | none =>
        simp only [hcy] at h
        cases hef : effOf E dst with
        | true =>
         simp only [hef, cond_true] at h
         cases hfx : E.fix with
         | some f => simp [hfx] at h
         | none =>
          simp only [hfx, Option.isSome_none, cond_false] at h
          have h4 := wvs_sound hr h
          obtain ⟨h5, h6⟩ := effW_sound hY hr h4
          refine ⟨h5, h6.mono ?_⟩
          rintro e w' ⟨v, gh, rfl, h7, h8⟩
          exact ⟨v, _, m, rfl, h7, h8⟩
        | false =>
        simp only [hef, cond_false] at h
        cases htc : tokCOf E dst with
        | none =>
         simp only [htc] at h
         have h4 := wvs_sound hr h
         exact callW_sound hr h4
        | some ke =>
         simp only [htc] at h
         split at h
         ·have h4 := wvs_sound hr h
          exact callTW_sound hr h4
         ·exact h.elim
       obtain ⟨hent, hcall⟩ := hec
       have hrun : (execOp a.eval ⟨dst, .call ⟨.value f, args, argTypes⟩, type, pos, after, guard⟩).run E.P w = .ok (.enter g (first.toList ++ List.map a.eval args.toList ++ captured.toList).toArray) w := by
        simp only [execOp, resolve, h3, ← h1, Deferred.ofValue]
        simp only [Sem.run_bind, Sem.run_pure, Result.andThen_ok, invoke, hargs]
        exact hent _ _
       rw [hrun]
       refine ⟨fun hs => by rw [hF.depth] at hs; simp at hs, ?_⟩
       refine hF.calls (hcall.mono ?_)
       rintro e w' ⟨v, S', m', rfl, hk, hrel⟩
       exact hK _ _ _ _ hk (hrel.put dst hd rfl)
      | yield l =>
       simp only [he] at h
       cases hfx : E.fix with
       | some f => simp [hfx] at h
       | none =>
        simp only [hfx, Option.isSome_none, cond_false] at h
        cases hyl : E.yl with
        | none =>
         cases hfi : first.toList with
         | cons x l => simp [hyl, hfi] at h
         | nil =>
          cases hca : captured.toList with
          | cons x l => simp [hyl, hfi, hca] at h
          | nil =>
           simp only [hyl, hfi, hca] at h
           cases hyY : E.ylY with
           | none => simp [hyY] at h
           | some Y =>
            simp only [hyY] at h
            obtain ⟨hy, hk1⟩ := wvs_sound hr h
            have hfi' : first = #[] := by rw [← Array.toArray_toList (xs := first), hfi]
            have hca' : captured = #[] := by rw [← Array.toArray_toList (xs := captured), hca]
            subst hfi' hca'
            obtain ⟨M, hd'⟩ := hr.dom
            obtain ⟨fn, tmps, asg, bdy, hrn, hround⟩ := hY.yY Y hyY F (n - 1) l S.gh _ M w m hF hd'.lt hy hr.le hd'.new hd'.p hr.sub
            simp only [St.den, Option.some.injEq] at h1
            have hrun : (execOp a.eval ⟨dst, .call ⟨.value f, args, argTypes⟩, type, pos, after, guard⟩).run E.P w = .ok (.round l fn tmps asg bdy) w := by
             have hargs : (#[] ++ Array.map a.eval args) = (List.map a.eval args.toList).toArray := Array.ext' (by simp)
             simp only [execOp, resolve, h3, ← h1, Deferred.ofValue]
             simp only [Sem.run_bind, Sem.run_pure, Result.andThen_ok, invoke, hargs]
             simpa using hrn
            rw [hrun]
            refine ⟨fun hs => by rw [hF.depth] at hs; simp at hs, hround.mono ?_⟩
            rintro e w' ⟨rfl, hp, hfr⟩
            exact hK _ _ _ _ hk1 ((hr.yielded hd' hp hfr).put dst hd rfl)
        | some Y =>
         cases hfi : first.toList with
         | cons x l => simp [hyl, hfi] at h
         | nil =>
          cases hca : captured.toList with
          | cons x l => simp [hyl, hfi, hca] at h
          | nil =>
           simp only [hyl, hfi, hca] at h
           obtain ⟨hy, hk1, hk2⟩ := wvs_sound hr h
           have hfi' : first = #[] := by rw [← Array.toArray_toList (xs := first), hfi]
           have hca' : captured = #[] := by rw [← Array.toArray_toList (xs := captured), hca]
           subst hfi' hca'
           obtain ⟨M, hd'⟩ := hr.dom
           obtain ⟨fn, tmps, asg, bdy, hrn, hround⟩ := hY.y Y hyl F (n - 1) l S.gh _ M w hF hd'.lt hy hd'.p (hr.sub.less hr.le)
           simp only [St.den, Option.some.injEq] at h1
           have hrun : (execOp a.eval ⟨dst, .call ⟨.value f, args, argTypes⟩, type, pos, after, guard⟩).run E.P w = .ok (.round l fn tmps asg bdy) w := by
            have hargs : (#[] ++ Array.map a.eval args) = (List.map a.eval args.toList).toArray := Array.ext' (by simp)
            simp only [execOp, resolve, h3, ← h1, Deferred.ofValue]
            simp only [Sem.run_bind, Sem.run_pure, Result.andThen_ok, invoke, hargs]
            simpa using hrn
           rw [hrun]
           refine ⟨fun hs => by rw [hF.depth] at hs; simp at hs, hround.mono ?_⟩
           rintro e w' ⟨b, rfl, hp, hfr⟩
           cases b with
           | true => exact hK _ _ _ _ hk1 ((hr.yielded hd' hp hfr).put dst hd rfl)
           | false => exact hK _ _ _ _ hk2 ((hr.yielded hd' hp hfr).put dst hd rfl)
      | _ => simp [he] at h
     | _ => simp [he] at h
    | _ => simp [he] at h
  | invoke r m => exact pure_upon hE hd hr h hK
  | builtin b =>
   cases b with
   | append =>
    simp only [opW] at h
    split at h
    ·rename_i s x T xT d hA hT
     obtain ⟨S, m, hr, h⟩ := frzW_sound hr h
     obtain ⟨vs, hvs, h⟩ := wv_elim h
     obtain ⟨vx, hvx, h⟩ := wv_elim h
     have ha : args = #[s, x] := by rw [← Array.toArray_toList (xs := args), hA]
     have hat : argTypes = #[T, xT] := by rw [← Array.toArray_toList (xs := argTypes), hT]
     subst ha hat
     obtain ⟨v, tk, m', w', hk, hrel, hrun⟩ := appendW_sound (ty := type) hE hr h
     have hrun' : (execOp a.eval ⟨some d, .call ⟨.builtin .append, #[s, x], #[T, xT]⟩, type, pos, after, guard⟩).run E.P w = .ok (.value v) w' := by
      simp [execOp, resolve, invoke, builtin, hr.ev hvs, hr.ev hvx, hrun]
     rw [hrun']
     exact hK _ _ _ _ hk (hrel.put (some d) hd rfl)
    ·exact h.elim
   | copy =>
    simp only [opW] at h
    split at h
    ·rename_i d s T xT hA hT
     cases hh : hintOf E d with
     | none => simp [hh] at h
     | some id =>
      simp only [hh] at h
      obtain ⟨vd, hvd, h⟩ := wv_elim h
      obtain ⟨vs, hvs, h⟩ := wv_elim h
      have ha : args = #[d, s] := by rw [← Array.toArray_toList (xs := args), hA]
      have hat : argTypes = #[T, xT] := by rw [← Array.toArray_toList (xs := argTypes), hT]
      subst ha hat
      obtain ⟨n, S', w', hk, hrel, hrun⟩ := copyW_sound (ty := type) (xT := xT) hE hr h
      have hrun' : (execOp a.eval ⟨dst, .call ⟨.builtin .copy, #[d, s], #[T, xT]⟩, type, pos, after, guard⟩).run E.P w = .ok (.value (.int .i64 n)) w' := by
       simp [execOp, resolve, invoke, builtin, hr.ev hvd, hr.ev hvs, hrun]
      rw [hrun']
      exact hK _ _ _ _ hk (hrel.put dst hd rfl)
    ·exact h.elim
   | _ => exact pure_upon hE hd hr h hK
 | _ => exact pure_upon hE hd hr h hK
end
end Go.Eng
namespace Go.Eng
open Go Go.RowKit
mutual
def Shape.ex : Shape → (Value → Prop) → Prop
 | .any, k => ∃ v, k v
 | .int ki, k => ∃ n : Int, k (.int ki n)
 | .bool, k => ∃ b : Bool, k (.bool b)
 | .str, k => ∃ s : ByteArray, k (.string s)
 | .slice, k => ∃ (a : Option Addr) (n c : Nat), k (.slice a n c)
 | .agg l, k => Shape.exL l fun vs => k (.agg vs.toArray)
 | .tup l, k => Shape.exL l fun vs => k (.tuple vs.toArray)
 | .fn, k => ∃ (g : Nat) (fi ca : List Value), k (.func (.func g) fi.toArray ca.toArray)
 | .cells, k => ∃ cs : List Value, k (.agg cs.toArray)
 | .ptr, k => ∃ b o : Nat, k (.pointer (some ⟨b, o, none⟩))
def Shape.exL : List Shape → (List Value → Prop) → Prop
 | [], k => k []
 | s :: l, k => Shape.ex s fun v => Shape.exL l fun vs => k (v :: vs)
end
mutual
theorem Shape.ex_elim : ∀ (s : Shape) (k : Value → Prop), s.ex k → ∃ v, k v
 | .any, k, h => h
 | .int ki, k, h => by simp only [Shape.ex] at h; obtain ⟨n, h⟩ := h; exact ⟨_, h⟩
 | .bool, k, h => by simp only [Shape.ex] at h; obtain ⟨n, h⟩ := h; exact ⟨_, h⟩
 | .str, k, h => by simp only [Shape.ex] at h; obtain ⟨n, h⟩ := h; exact ⟨_, h⟩
 | .slice, k, h => by simp only [Shape.ex] at h; obtain ⟨a, n, c, h⟩ := h; exact ⟨_, h⟩
 | .agg l, k, h => by
  simp only [Shape.ex] at h
  obtain ⟨vs, _, h⟩ := Shape.exL_elim l _ h
  exact ⟨_, h⟩
 | .tup l, k, h => by
  simp only [Shape.ex] at h
  obtain ⟨vs, _, h⟩ := Shape.exL_elim l _ h
  exact ⟨_, h⟩
 | .fn, k, h => by simp only [Shape.ex] at h; obtain ⟨_, _, _, h⟩ := h; exact ⟨_, h⟩
 | .cells, k, h => by simp only [Shape.ex] at h; obtain ⟨_, h⟩ := h; exact ⟨_, h⟩
 | .ptr, k, h => by simp only [Shape.ex] at h; obtain ⟨_, _, h⟩ := h; exact ⟨_, h⟩
theorem Shape.exL_elim : ∀ (l : List Shape) (k : List Value → Prop), Shape.exL l k → ∃ vs, vs.length = l.length ∧ k vs
 | [], k, h => ⟨[], rfl, h⟩
 | s :: l, k, h => by
  simp only [Shape.exL] at h
  obtain ⟨v, h⟩ := Shape.ex_elim s _ h
  obtain ⟨vs, hl, h⟩ := Shape.exL_elim l _ h
  exact ⟨v :: vs, by simp [hl], h⟩
end
def isUndef : Value → Bool
 | .tuple _ => true
 | _ => false
def opG (E : Env) (ops : Array Oper) (o : Oper) (S : St) (m : Mem) (K : St → Mem → Prop) : Prop := match o.guard with
 | none => opW E S m o K
 | some (j, want) => match ops.toList[j]? with
  | none => False
  | some oj => match oj.dst with
   | none => False
   | some t => match S.env t with
    | some (.v v) => bif isUndef v then K (S.put o.dst (some (.v undef))) m else chk (isBool v) (match want with
     | true => br (boolOf v) (opW E S m o K) (K (S.put o.dst (some (.v undef))) m)
     | false => br (boolOf v) (K (S.put o.dst (some (.v undef))) m) (opW E S m o K))
    | _ => False
def guardSlot (ops : Array Oper) (o : Oper) : Option Nat := match o.guard with
 | none => none
 | some (j, _) => match ops.toList[j]? with
  | none => none
  | some oj => oj.dst
def opGB (E : Env) (ops : Array Oper) (o : Oper) (S : St) (m : Mem) (K : St → Mem → Prop) : Prop := match guardSlot ops o with
 | none => opG E ops o S m K
 | some t => match S.env t with
  | some (.v v) => bif isUndef v then opG E ops o S m K else chk (isBool v) (br (boolOf v) (opG E ops o (S.put (some t) (some (.v (.bool true)))) m K) (opG E ops o (S.put (some t) (some (.v (.bool false)))) m K))
  | _ => False
def opsW (E : Env) (ops : Array Oper) : List Nat → (St → Mem → Prop) → St → Mem → Prop
 | [], K, S, m => K S m
 | i :: l, K, S, m => match ops.toList[i]? with
  | none => False
  | some o => opGB E ops o S m (opsW E ops l K)
def dstLt (n : Nat) (o : Oper) : Bool := match o.dst with
 | none => true
 | some d => Nat.blt d n
def opsLt (n : Nat) : List Oper → Bool
 | [] => true
 | o :: l => dstLt n o && opsLt n l
def codeLt (n : Nat) : Code → Bool
 | .region _ ops _ => opsLt n ops.toList
 | .seq a b => codeLt n a && codeLt n b
 | .cond _ a b => codeLt n a && codeLt n b
 | .block _ a => codeLt n a
 | .loop a => codeLt n a
 | .scope a => codeLt n a
 | .rangeFunc _ ps a b => ps.toList.all (Nat.blt · n) && (codeLt n a && codeLt n b)
 | _ => true
def opDsts : List Oper → List Nat
 | [] => []
 | o :: l => match o.dst with
  | none => opDsts l
  | some d => d :: opDsts l
def dsts : Code → List Nat
 | .region _ ops _ => opDsts ops.toList
 | .seq a b => dsts a ++ dsts b
 | .cond _ a b => dsts a ++ dsts b
 | .block _ a => dsts a
 | .loop a => dsts a
 | .scope a => dsts a
 | .rangeFunc _ ps a b => ps.toList ++ (dsts a ++ dsts b)
 | _ => []
def firstRegion : Code → Nat
 | .region id _ _ => id
 | .seq a _ => firstRegion a
 | .cond _ a _ => firstRegion a
 | .block _ a => firstRegion a
 | .loop a => firstRegion a
 | .scope a => firstRegion a
 | .rangeFunc _ _ a _ => firstRegion a
 | _ => 0
def valsOf (S : St) : List (Nat × Shape) → (List Value → Prop) → Prop
 | [], k => k []
 | (t, sh) :: l, k => wv S (.tmp t) fun v => chk (sh.fits v) (valsOf S l fun vs => k (v :: vs))
def csOf (S : St) : List Nat → (List (List Value) → Prop) → Prop
 | [], k => k []
 | id :: l, k => match S.L id with
  | none => False
  | some x => csOf S l fun css => k (x.cs :: css)
def tokVal (S : St) (k : Nat) : Value := match S.tok k with
 | some t => t.v
 | none => .slice none 0 0
def toksOf (S : St) : List (Nat × Nat) → (List Value → Prop) → Prop
 | [], k => k []
 | (q, esz) :: l, k => chk (isSl (tokVal S q) && (match S.tok q with
  | some t => Nat.beq t.esz esz
  | none => true)) (toksOf S l fun vs => k (tokVal S q :: vs))
def setVals (e : Nat → Option SV) : List (Nat × Shape) → List Value → (Nat → Option SV)
 | (t, _) :: l, v :: vs => fun i => bif Nat.beq i t then some (.v v) else setVals e l vs i
 | _, _ => e
def setCs (L : Nat → Option Box) : List Nat → List (List Value) → (Nat → Option Box)
 | id :: l, cs :: css => fun i => bif Nat.beq i id then (match L i with
  | some x => some { x with cs := cs }
  | none => none) else setCs L l css i
 | _, _ => L
def setToks (tk : Nat → Option Tok) : List (Nat × Nat) → List Value → (Nat → Option Tok)
 | (q, esz) :: l, v :: vs => fun i => bif Nat.beq i q then some ⟨v, esz⟩ else setToks tk l vs i
 | _, _ => tk
def havoc (S : St) (ds : List Nat) (A : LoopAnn) (g : Int) (xs : List Value) (css : List (List Value)) (tvs : List Value) : St :=
 {env := setVals (fun i => bif ds.any (Nat.beq i ·) then none else S.env i) A.slots xs
  L := setCs S.L A.boxes css
  ids := S.ids
  tok := setToks S.tok A.toks tvs
  tkeys := A.toks.map (·.1) ++ S.tkeys
  gh := g
  fo := S.fo }
def ghs (b : Bool) (g : Int) (xs : List Value) : List Value := bif b then .int .i64 g :: xs else xs
def allG (b : Bool) (g : Int) (k : Int → Prop) : Prop := bif b then ∀ y, k y else k g
def sameG (b : Bool) (x y : Int) (f g : Bool) (p : Prop) : Prop := bif Bool.xor f g then False else bif b then p else match x, y with
 | .ofNat 0, .ofNat 0 => p
 | x, y => x = y ∧ p
theorem sameG_elim {b : Bool} {x y : Int} {f g : Bool} {p : Prop} (h : sameG b x y f g p) : (b = false → x = y) ∧ f = g ∧ p := by
 unfold sameG at h
 cases hx : Bool.xor f g with
 | true => simp [hx] at h
 | false =>
 have hfg : f = g := by cases f <;> cases g <;> first | rfl | cases hx
 simp only [hx, cond_false] at h
 cases b with
 | true => exact ⟨fun h => (by cases h), hfg, h⟩
 | false =>
  simp only [cond_false] at h
  split at h
  ·exact ⟨fun _ => rfl, hfg, h⟩
  ·exact ⟨fun _ => h.1, hfg, h.2⟩
theorem allG_elim {b : Bool} {g : Int} {k : Int → Prop} (h : allG b g k) {y : Int} (hy : b = false → y = g) : k y := by
 cases b with
 | true => exact h y
 | false => rw [hy rfl]; exact h
def allCs : List Nat → (List (List Value) → Prop) → Prop
 | [], k => k []
 | _ :: l, k => ∀ cs, allCs l fun css => k (cs :: css)
def allTs : List (Nat × Nat) → (List Value → Prop) → Prop
 | [], k => k []
 | _ :: l, k => ∀ (a : Option Addr) (n c : Nat), allTs l fun vs => k (.slice a n c :: vs)
def restOf (S : St) (A : LoopAnn) (ids : List Nat) : List (Option Box) := ids.map fun id => bif A.boxes.any (Nat.beq id ·) then (match S.L id with
 | some x => some { x with cs := [] }
 | none => none) else S.L id
def restTok (S : St) (A : LoopAnn) (ks : List Nat) : List (Option Tok) := ks.map fun k => bif A.toks.any (fun q => Nat.beq k q.1) then none else S.tok k
def sameB (a b : List (Option Box)) (p : Prop) : Prop := match a, b with
 | [], [] => p
 | a, b => a = b ∧ p
def sameT (a b : List (Option Tok)) (p : Prop) : Prop := match a, b with
 | [], [] => p
 | a, b => a = b ∧ p
theorem sameB_iff {a b : List (Option Box)} {p : Prop} : sameB a b p ↔ a = b ∧ p := by
 unfold sameB
 split
 ·simp
 ·exact Iff.rfl
theorem sameT_iff {a b : List (Option Tok)} {p : Prop} : sameT a b p ↔ a = b ∧ p := by
 unfold sameT
 split
 ·simp
 ·exact Iff.rfl
abbrev KT := Exit → St → Mem → Prop
def leT (th : Bool) (m m' : Mem) : Prop := bif th then True else m.le m'
theorem leT.of {th : Bool} {m m' : Mem} (h : m.le m') : leT th m m' := by
 cases th with
 | true => trivial
 | false => exact h
theorem leT.refl (th : Bool) (m : Mem) : leT th m m := .of (Mem.le_refl m)
theorem leT.trans {th : Bool} {a b c : Mem} (h : leT th a b) (k : leT th b c) : leT th a c := by
 cases th with
 | true => trivial
 | false => exact mLt h k
def Env.cold (E : Env) : Env := { E with thaw := false }
def loopW (th : Bool) (A : LoopAnn) (ds : List Nat) (body : KT → St → Mem → Prop) (K : KT) (S : St) (m : Mem) : Prop :=
 ∃ I : List Value → List (List Value) → List Value → Mem → Nat → Prop,
  (valsOf S A.slots fun xs => csOf S A.boxes fun css => toksOf S A.toks fun tvs => ∃ n, I (ghs A.gh S.gh xs) css tvs m n) ∧
  allG A.gh S.gh fun y => Shape.allL (A.slots.map (·.2)) fun xs => allCs A.boxes fun css => allTs A.toks fun tvs => ∀ (m' : Mem) (n : Nat), leT th m m' → I (ghs A.gh y xs) css tvs m' n →
   body (fun e S' m'' => match e with
    | .normal => sameG A.gh S'.gh S.gh S'.fo S.fo (sameB (restOf S' A S.ids) (restOf S A S.ids) (sameT (restTok S' A S.tkeys) (restTok S A S.tkeys) (valsOf S' A.slots fun xs' => csOf S' A.boxes fun css' => toksOf S' A.toks fun tvs' => ∃ n', n' < n ∧ I (ghs A.gh S'.gh xs') css' tvs' m'' n')))
    | e => K e S' m'') (havoc S ds A y xs css tvs) m'
def cutW (th : Bool) (A : LoopAnn) (ds : List Nat) (x y : KT → St → Mem → Prop) (K : KT) (S : St) (m : Mem) : Prop :=
 ∃ J : List Value → List (List Value) → List Value → Mem → Prop,
  x (fun e S' m' => match e with
   | .normal => sameG A.gh S'.gh S.gh S'.fo S.fo (sameB (restOf S' A S.ids) (restOf S A S.ids) (sameT (restTok S' A S.tkeys) (restTok S A S.tkeys) (valsOf S' A.slots fun xs => csOf S' A.boxes fun css => toksOf S' A.toks fun tvs => J (ghs A.gh S'.gh xs) css tvs m')))
   | e => K e S' m') S m ∧
  allG A.gh S.gh fun g => Shape.allL (A.slots.map (·.2)) fun xs => allCs A.boxes fun css => allTs A.toks fun tvs => ∀ m' : Mem, leT th m m' → J (ghs A.gh g xs) css tvs m' → y K (havoc S ds A g xs css tvs) m'
def noneA : LoopAnn := ⟨[], [], [], false⟩
def joinW (outs : List (Nat × Shape)) (ds : List Nat) (body : (St → Mem → Prop) → St → Mem → Prop) (K : St → Mem → Prop) (S : St) (m : Mem) : Prop :=
 Shape.exL (outs.map (·.2)) fun xs => (body (fun S' _ => sameG false S'.gh S.gh S'.fo S.fo (sameB (restOf S' noneA S.ids) (restOf S noneA S.ids) (sameT (restTok S' noneA S.tkeys) (restTok S noneA S.tkeys) (valsOf S' outs fun xs' => xs' = xs)))) S m) ∧
  K { S with env := setVals (fun i => bif ds.any (Nat.beq i ·) then none else S.env i) outs xs } m
def IX (P : Program) (g : FuncId) (first captured : List Value) (m : Mem) (xs : List (List Value)) : Prop :=
 Enters P g ∧ ∀ (p : Int → (Nat → Prop) → World → Prop), Lasts p → ∀ (l : Nat) (w : World), Sub m w → p 0 (fun _ => False) w →
  YieldOk P m p (fun l' g v => l' = l ∧ 0 ≤ g ∧ xs[g.toNat]? = some v) →
  Calls P g (first ++ .func (.yield l) #[] #[] :: captured).toArray w fun e w' => ∃ v M, e = .returned v ∧ (∀ k, M k → k < w'.heap.size) ∧ (p xs.length M w' ∨ p (-1) M w')
def natsEq : List Nat → List Nat → Bool
 | [], [] => true
 | a :: l, b :: l' => Nat.beq a b && natsEq l l'
 | _, _ => false
def ofRound (K : KT) (e : Exit) (S : St) (m : Mem) : Prop := match e with
 | .ret => K .ret S m
 | .exit id => K (.exit id) S m
 | .goto l => K (.goto l) S m
 | _ => False
def exMi (th : Bool) (m : Mem) (k : Mem → Prop) : Prop := bif th then ∃ mi, Mem.le mi m ∧ k mi else k m
def leMi (th : Bool) (mi m : Mem) (p : Prop) : Prop := bif th then (mi.le m ∧ p) else p
theorem exMi_elim {th : Bool} {m : Mem} {k : Mem → Prop} (h : exMi th m k) : ∃ mi : Mem, mi.le m ∧ (th = false → mi = m) ∧ k mi := by
 cases th with
 | true => obtain ⟨mi, h1, h2⟩ := h; exact ⟨mi, h1, fun e => (by cases e), h2⟩
 | false => exact ⟨m, Mem.le_refl m, fun _ => rfl, h⟩
theorem leMi_elim {th : Bool} {mi m : Mem} {p : Prop} (h : leMi th mi m p) : (th = true → mi.le m) ∧ p := by
 cases th with
 | true => exact ⟨fun _ => h.1, h.2⟩
 | false => exact ⟨fun e => (by cases e), h⟩
theorem exMi_mono {th : Bool} {m : Mem} {k k' : Mem → Prop} (h : ∀ mi : Mem, mi.le m → (th = false → mi = m) → k mi → k' mi) (hx : exMi th m k) : exMi th m k' := by
 cases th with
 | true => obtain ⟨mi, h1, h2⟩ := hx; exact ⟨mi, h1, h mi h1 (fun e => (by cases e)) h2⟩
 | false => exact h m (Mem.le_refl m) (fun _ => rfl) hx
theorem leMi_mono {th : Bool} {mi m : Mem} {p q : Prop} (h : p → q) (hx : leMi th mi m p) : leMi th mi m q := by
 cases th with
 | true => exact ⟨hx.1, h hx.2⟩
 | false => exact h hx
def rangeW (th : Bool) (P : Program) (A : LoopAnn) (f : Operand) (ps : List Nat) (assign body : KT → St → Mem → Prop) (K : KT) (S : St) (m : Mem) : Prop := match S.ev f with
 | some (.v (.func (.func g) first captured)) => chk (natsEq ps (A.slots.map (·.1)) && natsNodup ps) (exMi th m fun mi => ∃ xs : List (List Value), IX P g first.toList captured.toList mi xs ∧ (∀ x ∈ xs, Shape.fitsL (A.slots.map (·.2)) x = true) ∧
   ∃ I : List Value → List (List Value) → List Value → Mem → Nat → Prop,
    (csOf S A.boxes fun css => toksOf S A.toks fun tvs => I (ghs A.gh S.gh []) css tvs m 0) ∧
    (allG A.gh S.gh fun y => Shape.allL (A.slots.map (·.2)) fun x => allCs A.boxes fun css => allTs A.toks fun tvs => ∀ (m' : Mem) (n : Nat), mi.le m' → xs[n]? = some x → I (ghs A.gh y []) css tvs m' n →
     assign (fun e S1 m1 => match e with
      | .normal => body (fun e S' m'' => leMi th mi m'' (sameG A.gh S'.gh S.gh S'.fo S.fo (sameB (restOf S' A S.ids) (restOf S A S.ids) (sameT (restTok S' A S.tkeys) (restTok S A S.tkeys) (csOf S' A.boxes fun css' => toksOf S' A.toks fun tvs' => match e with
       | .normal => I (ghs A.gh S'.gh []) css' tvs' m'' (n + 1)
       | e => ofRound K e (havoc S [] { A with slots := [] } S'.gh [] css' tvs') m''))))) S1 m1
      | _ => False) (havoc S [] A y x css tvs) m') ∧
    (allG A.gh S.gh fun y => allCs A.boxes fun css => allTs A.toks fun tvs => ∀ m' : Mem, mi.le m' → I (ghs A.gh y []) css tvs m' xs.length → K .normal (havoc S [] { A with slots := [] } y [] css tvs) m'))
 | _ => False
def IXY (P : Program) (g : FuncId) (first captured : List Value) (m : Mem) (Y : Nat → Prop) (n : Nat) (V : Nat → List Value → Mem → Prop) (R : Mem → Prop) : Prop :=
 Enters P g ∧ ∀ (p : Int → (Nat → Prop) → World → Prop), Lasts p → ∀ (l : Nat) (w : World), Sub m w → (∀ b, Y b → b < w.heap.size ∧ Wr w b) → p 0 Y w →
  YieldOkY P (m.off Y) p (fun l' g v mi => l' = l ∧ ∃ i : Nat, g = (i : Int) ∧ i < n ∧ V i v mi) →
  Calls P g (first ++ .func (.yield l) #[] #[] :: captured).toArray w fun e w' => ∃ v M m', e = .returned v ∧ (∀ k, M k → k < w'.heap.size) ∧ p n M w' ∧ Sub m' w' ∧ (m.off Y).le m' ∧ NewM (m.off Y) m' M ∧ R m'
def rangeYW (E : Env) (A : LoopAnn) (f : Operand) (ps : List Nat) (assign body : KT → St → Mem → Prop) (K : KT) (S : St) (m : Mem) : Prop := match S.ev f, E.m0 with
 | some (.v (.func (.func g) first captured)), some m0 => chk ((E.thaw && !S.fo) && (natsEq ps (A.slots.map (·.1)) && natsNodup ps)) (∃ (Y : Nat → Prop) (n : Nat) (V : Nat → List Value → Mem → Prop) (R : Mem → Prop), IXY E.P g first.toList captured.toList m Y n V R ∧
   (∀ b, Y b → m0.k b = none ∧ ∃ e, m.k b = some e) ∧ (∀ i x mi, V i x mi → Shape.fitsL (A.slots.map (·.2)) x = true) ∧
   ∃ I : List Value → List (List Value) → List Value → Mem → Nat → Prop,
    (csOf S A.boxes fun css => toksOf S A.toks fun tvs => I (ghs A.gh S.gh []) css tvs (m.off Y) 0) ∧
    (allG A.gh S.gh fun y => Shape.allL (A.slots.map (·.2)) fun x => allCs A.boxes fun css => allTs A.toks fun tvs => ∀ (m' mi : Mem) (k : Nat), k < n → (m.off Y).le m' → (m.off Y).le mi → mi.le (m'.or mi) → (∀ b, (m.off Y).newC mi b → m'.free b) → V k x mi → I (ghs A.gh y []) css tvs m' k →
     assign (fun e S1 m1 => match e with
      | .normal => body (fun e S' m'' => match e with
       | .normal => sameG A.gh S'.gh S.gh S'.fo true (sameB (restOf S' A S.ids) (restOf S A S.ids) (sameT (restTok S' A S.tkeys) (restTok S A S.tkeys) (csOf S' A.boxes fun css' => toksOf S' A.toks fun tvs' => (m.off Y).le m'' ∧ I (ghs A.gh S'.gh []) css' tvs' (m''.less (m.off Y) mi) (k + 1))))
       | _ => False) S1 m1
      | _ => False) (havoc { S with fo := true } [] A y x css tvs) (m'.or mi)) ∧
    (allG A.gh S.gh fun y => allCs A.boxes fun css => allTs A.toks fun tvs => ∀ m' me : Mem, (m.off Y).le m' → (m.off Y).le me → me.le (m'.or me) → I (ghs A.gh y []) css tvs m' n → R me → K .normal (havoc S [] { A with slots := [] } y [] css tvs) (m'.or me)))
 | _, _ => False
def Mem.cutA (m : Mem) (a : Option Addr) (o : Nat) : Mem := match a with
 | some ⟨b, _, _⟩ => ⟨fun b' o' => if b' = b ∧ o ≤ o' then none else m b' o', m.k⟩
 | none => m
def Mem.addA (m : Mem) (a : Option Addr) (o : Nat) (zs : List Value) : Mem := match a with
 | some ⟨b, o0, _⟩ => m.addAt b (o0 + o) zs
 | none => m
def AcqM (m m0 : Mem) (esz : Nat) (a : Option Addr) (n c : Nat) : Prop :=
 (a = none ∧ n = 0 ∧ c = 0) ∨ ∃ b, a = some ⟨b, 0, none⟩ ∧ n ≤ c ∧ 0 < c * esz ∧ (∀ o, o < c * esz → ∃ v, m b o = some v) ∧ m0.free b
def acqW (E : Env) (kz : Option (Nat × Nat)) (f : (St → Mem → Prop) → St → Mem → Prop) (K : St → Mem → Prop) (S : St) (m : Mem) : Prop := match kz with
 | none => f K S m
 | some (key, esz) => chk (E.thaw && E.fix.isNone) (match E.m0 with
  | none => False
  | some m0 => S.fo = false ∧ ∃ (a : Option Addr) (n c : Nat), AcqM m m0 esz a n c ∧ (∀ b, (Tok.mk (.slice a n c) esz).blk = some b → nfz S b S.ids (ntk S b [key] S.tkeys)) ∧
    f (fun S' m' => match S'.tok key with
     | none => False
     | some t => chk (isSl t.v) (∀ zs : List Value, zs.length = (slC t.v - slN t.v) * t.esz → K { S' with tok := fun k => bif Nat.beq k key then none else S'.tok k } (m'.addA (slA t.v) (slN t.v * t.esz) zs)))
     {S with tok := fun k => bif Nat.beq k key then some ⟨.slice a n c, esz⟩ else S.tok k, tkeys := key :: S.tkeys } (m.cutA a (n * esz)))
def W (E : Env) (drawW : Nat → Array Oper → (St → Mem → Prop) → St → Mem → Prop) : Code → KT → St → Mem → Prop
 | .skip, K, S, m => K .normal S m
 | .label _, K, S, m => K .normal S m
 | .region id ops draw, K, S, m => match E.joins id with
  | none => bif draw then drawW id ops (K .normal) S m else acqW E (E.acq id) (opsW E ops (List.range ops.size)) (K .normal) S m
  | some outs => joinW outs (opDsts ops.toList) (fun k S m => bif draw then (bif E.last id then False else drawW id ops k S m) else opsW E.cold ops (List.range ops.size) k S m) (K .normal) S m
 | .seq x y, K, S, m => match E.cuts (firstRegion y) with
  | none => W E drawW x (fun e S' m' => match e with
   | .normal => W E drawW y K S' m'
   | e => K e S' m') S m
  | some A => cutW E.thaw A (dsts x) (W E drawW x) (W E drawW y) K S m
 | .cond c x y, K, S, m => wv S c fun v => chk (isBool v) (br (boolOf v) (W E drawW x K S m) (W E drawW y K S m))
 | .block id x, K, S, m => W E drawW x (fun e S' m' => match e with
  | .exit id' => bif Nat.beq id' id then K .normal S' m' else K (.exit id') S' m'
  | e => K e S' m') S m
 | .loop x, K, S, m => loopW E.thaw (E.loops (firstRegion x)) (dsts x) (W E drawW x) K S m
 | .exit id, K, S, m => K (.exit id) S m
 | .ret, K, S, m => K .ret S m
 | .rangeFunc f ps x y, K, S, m => bif E.rgY (firstRegion y) then rangeYW E (E.loops (firstRegion y)) f ps.toList (W E drawW x) (W E drawW y) K S m else rangeW E.thaw E.P (E.loops (firstRegion y)) f ps.toList (W E drawW x) (W E drawW y) K S m
 | .scope x, K, S, m => W E drawW x (fun e S' m' => match e with
  | .goto _ => False
  | e => K e S' m') S m
 | _, _, _, _ => False
section
variable {C : Ctx} {S : St} {m : Mem} {a : Act} {w : World}
theorem opG_sound {E : Env} (hE : E.ok) {F : Fence} (hF : FOk F) (hY : YOk E C) {ops : Array Oper} {o : Oper} (hd : ∀ t, o.dst = some t → t < C.n) (hr : Rel C S m a w) {K : St → Mem → Prop} (h : opG E ops o S m K) {n : Nat} {next : Act → World → Prop} {Q : Exit → Act → World → Prop}
  (hK : ∀ S' m' a' w', K S' m' → Rel C S' m' a' w' → next a' w') :
  if Region.wanted o (yielded ops a.tmps) then o.wpIn F n E.P a w next Q else (∀ f, o.about E.P w a.eval = some f → F.fn f) ∧ next (a.put o.dst undef) w := by
 have hex : opW E S m o K → o.wpIn F n E.P a w next Q := fun hh => by
  have hdef : ∀ c, o.op ≠ .defer c := fun c e => by
   obtain ⟨dst, op, type, pos, after, guard⟩ := o
   simp only at e; subst e
   simp [opW, pureW] at hh
  refine ⟨fun f _ => hF.fn f, ?_⟩
  rw [Oper.semAt_eq _ _ _ hdef]
  exact opW_sound hE hF hY hd hr hh hK
 have hsk : K (S.put o.dst (some (.v undef))) m → (∀ f, o.about E.P w a.eval = some f → F.fn f) ∧ next (a.put o.dst undef) w := fun hh =>
  ⟨fun f _ => hF.fn f, hK _ _ _ _ hh (hr.put o.dst hd rfl)⟩
 unfold opG at h
 cases hg : o.guard with
 | none =>
  simp only [hg] at h
  simp only [Region.wanted, hg, if_true]
  exact hex h
 | some jw =>
  obtain ⟨j, want⟩ := jw
  simp only [hg] at h
  cases hj : ops.toList[j]? with
  | none => simp [hj] at h
  | some oj =>
   simp only [hj] at h
   have hj' : ops[j]? = some oj := by simpa using hj
   cases ht : oj.dst with
   | none => simp [ht] at h
   | some t =>
    simp only [ht] at h
    cases he : S.env t with
    | none => simp [he] at h
    | some sv =>
     cases sv with
     | loc id off => simp [he] at h
     | sl id n' c => simp [he] at h
     | v v =>
      simp only [he] at h
      obtain ⟨v', h1, h2⟩ := hr.env t _ he
      simp only [St.den, Option.some.injEq] at h1
      subst h1
      cases hu : isUndef v with
      | true =>
       simp only [hu, cond_true] at h
       have : Region.wanted o (yielded ops a.tmps) = false := by
        cases v <;> simp [isUndef] at hu
        simp [Region.wanted, hg, yielded, hj', ht, h2]
       simp only [this, Bool.false_eq_true, if_false]
       exact hsk h
      | false =>
       simp only [hu, cond_false] at h
       obtain ⟨h3, h4⟩ := chk_elim h
       obtain ⟨b, rfl⟩ : ∃ b, v = .bool b := ⟨_, isBool_elim h3⟩
       have hw : Region.wanted o (yielded ops a.tmps) = (b == want) := by
        simp [Region.wanted, hg, yielded, hj', ht, h2]
       rw [hw]
       simp only [boolOf] at h4
       cases b <;> cases want <;> simp only [br] at h4 <;> simp <;> first
        | exact hex h4
        | exact hsk h4
theorem Rel.refine {t : Nat} {v : Value} (hr : Rel C S m a w) (he : S.env t = some (.v v)) : Rel C (S.put (some t) (some (.v v))) m a w := by
 have : S.put (some t) (some (.v v)) = S := by
  unfold St.put
  have : (fun i => bif Nat.beq i t then some (SV.v v) else S.env i) = S.env := by
   funext i
   by_cases hi : i = t
   ·subst hi; simp [he]
   ·simp [beq_ne hi]
  simp only [this]
 rw [this]; exact hr
theorem opGB_sound {E : Env} (hE : E.ok) {F : Fence} (hF : FOk F) (hY : YOk E C) {ops : Array Oper} {o : Oper} (hd : ∀ t, o.dst = some t → t < C.n) (hr : Rel C S m a w) {K : St → Mem → Prop} (h : opGB E ops o S m K) {n : Nat} {next : Act → World → Prop} {Q : Exit → Act → World → Prop}
  (hK : ∀ S' m' a' w', K S' m' → Rel C S' m' a' w' → next a' w') :
  if Region.wanted o (yielded ops a.tmps) then o.wpIn F n E.P a w next Q else (∀ f, o.about E.P w a.eval = some f → F.fn f) ∧ next (a.put o.dst undef) w := by
 unfold opGB at h
 split at h
 ·exact opG_sound hE hF hY hd hr h hK
 ·rename_i t _
  split at h
  ·rename_i v he
   cases hu : isUndef v with
   | true => simp only [hu, cond_true] at h; exact opG_sound hE hF hY hd hr h hK
   | false =>
    simp only [hu, cond_false] at h
    obtain ⟨h1, h2⟩ := chk_elim h
    obtain ⟨b, rfl⟩ : ∃ b, v = .bool b := ⟨_, isBool_elim h1⟩
    have hr2 := hr.refine he
    cases b
    ·exact opG_sound hE hF hY hd hr2 h2 hK
    ·exact opG_sound hE hF hY hd hr2 h2 hK
  ·exact h.elim
theorem opsLt_spec {n : Nat} : ∀ {l : List Oper}, opsLt n l = true → ∀ (i : Nat) o, l[i]? = some o → ∀ t, o.dst = some t → t < n
 | [], _, i, o, h, _, _ => by simp at h
 | x :: l, hl, i, o, h, t, ht => by
  simp only [opsLt, Bool.and_eq_true] at hl
  cases i with
  | zero =>
   simp at h; subst h
   simp [dstLt, ht] at hl
   exact hl.1
  | succ i => exact opsLt_spec hl.2 i o (by simpa using h) t ht
theorem opsW_sound {E : Env} (hE : E.ok) {F : Fence} (hF : FOk F) (hY : YOk E C) {ops : Array Oper} (hlt : opsLt C.n ops.toList = true) {n : Nat} {Q : Exit → Act → World → Prop} : ∀ (l : List Nat) {K : St → Mem → Prop} {S : St} {m : Mem} {a : Act} {w : World}, Rel C S m a w → opsW E ops l K S m →
  (∀ S' m' a' w', K S' m' → Rel C S' m' a' w' → Q .normal a' w') → wpOpsIn F n E.P ops Q l a w
 | [], K, S, m, a, w, hr, h, hK => hK _ _ _ _ h hr
 | i :: l, K, S, m, a, w, hr, h, hK => by
  simp only [opsW] at h
  cases ho : ops.toList[i]? with
  | none => simp [ho] at h
  | some o =>
   simp only [ho] at h
   have ho' : ops[i]? = some o := by simpa using ho
   have := opGB_sound hE hF hY (opsLt_spec hlt i o ho) hr h (n := n) (Q := Q) (next := wpOpsIn F n E.P ops Q l) (fun S' m' a' w' hk hrel => opsW_sound hE hF hY hlt l hrel hk hK)
   simp only [wpOpsIn, ho']
   exact this
end
end Go.Eng
namespace Go.Eng
open Go Go.RowKit
def SameOut (ds : List Nat) (S S' : St) : Prop := ∀ i, i ∉ ds → S'.env i = S.env i
theorem SameOut.refl (ds : List Nat) (S : St) : SameOut ds S S := fun _ _ => rfl
theorem SameOut.trans {ds : List Nat} {a b c : St} (h : SameOut ds a b) (k : SameOut ds b c) : SameOut ds a c := fun i hi => (k i hi).trans (h i hi)
theorem SameOut.mono {ds ds' : List Nat} {a b : St} (h : SameOut ds a b) (k : ∀ i, i ∈ ds → i ∈ ds') : SameOut ds' a b := fun i hi => h i (fun hm => hi (k i hm))
theorem SameOut.put {ds : List Nat} {S S' : St} (h : SameOut ds S S') {d : Option Tmp} (hd : ∀ t, d = some t → t ∈ ds) (x : Option SV) : SameOut ds S (S'.put d x) := by
 cases d with
 | none => exact h
 | some d =>
  intro i hi
  have hne : i ≠ d := fun e => hi (e ▸ hd d rfl)
  simp [St.put, beq_ne hne, h i hi]
theorem br_mono {b : Bool} {p q p' q' : Prop} (h : p → p') (k : q → q') (x : br b p q) : br b p' q' := by
 cases b
 ·exact k x
 ·exact h x
theorem chk_mono {b : Bool} {p p' : Prop} (h : p → p') (x : chk b p) : chk b p' := br_mono h id x
theorem wv_mono {S : St} {x : Operand} {k k' : Value → Prop} (h : ∀ v, k v → k' v) (hx : wv S x k) : wv S x k' := by
 unfold wv at *
 split at hx
 ·exact h _ hx
 ·exact hx
theorem wvs_mono {S : St} : ∀ {l : List Operand} {k k' : List Value → Prop}, (∀ v, k v → k' v) → wvs S l k → wvs S l k'
 | [], k, k', h, hx => h _ hx
 | x :: l, k, k', h, hx => wv_mono (fun v hv => wvs_mono (fun vs hvs => h _ hvs) hv) hx
theorem look_mono {l : List Value} {n : Nat} {k k' : Value → Prop} (h : ∀ v, k v → k' v) (hx : look l n k) : look l n k' := by
 unfold look at *
 split at hx
 ·exact h _ hx
 ·exact hx
theorem exN_mono : ∀ {n : Nat} {k k' : List Value → Prop}, (∀ v, k v → k' v) → exN n k → exN n k'
 | 0, k, k', h, hx => h _ hx
 | n + 1, k, k', h, ⟨v, hx⟩ => ⟨v, exN_mono (fun l hl => h _ hl) hx⟩
theorem allL_mono : ∀ {n : Nat} {k k' : List (List Value) → Prop}, (∀ v, k v → k' v) → allL n k → allL n k'
 | 0, k, k', h, hx => h _ hx
 | n + 1, k, k', h, hx => fun cs => allL_mono (fun l hl => h _ hl) (hx cs)
mutual
theorem Shape.all_mono : ∀ (s : Shape) {k k' : Value → Prop}, (∀ v, k v → k' v) → s.all k → s.all k'
 | .any, k, k', h, hx => by simp only [Shape.all] at *; exact fun v => h _ (hx v)
 | .int ki, k, k', h, hx => by simp only [Shape.all] at *; exact fun v => h _ (hx v)
 | .bool, k, k', h, hx => by simp only [Shape.all] at *; exact fun v => h _ (hx v)
 | .str, k, k', h, hx => by simp only [Shape.all] at *; exact fun v => h _ (hx v)
 | .slice, k, k', h, hx => by simp only [Shape.all] at *; exact fun a n c => h _ (hx a n c)
 | .agg l, k, k', h, hx => by simp only [Shape.all] at *; exact Shape.allL_mono l (fun vs hvs => h _ hvs) hx
 | .tup l, k, k', h, hx => by simp only [Shape.all] at *; exact Shape.allL_mono l (fun vs hvs => h _ hvs) hx
 | .fn, k, k', h, hx => by simp only [Shape.all] at *; exact fun g fi ca => h _ (hx g fi ca)
 | .cells, k, k', h, hx => by simp only [Shape.all] at *; exact fun cs => h _ (hx cs)
 | .ptr, k, k', h, hx => by simp only [Shape.all] at *; exact fun b o => h _ (hx b o)
theorem Shape.allL_mono : ∀ (l : List Shape) {k k' : List Value → Prop}, (∀ v, k v → k' v) → Shape.allL l k → Shape.allL l k'
 | [], k, k', h, hx => by simp only [Shape.allL] at *; exact h _ hx
 | s :: l, k, k', h, hx => by simp only [Shape.allL] at *; exact Shape.all_mono s (fun v hv => Shape.allL_mono l (fun vs hvs => h _ hvs) hv) hx
end
mutual
theorem Shape.ex_mono : ∀ (s : Shape) {k k' : Value → Prop}, (∀ v, k v → k' v) → s.ex k → s.ex k'
 | .any, k, k', h, hx => by simp only [Shape.ex] at *; obtain ⟨v, hx⟩ := hx; exact ⟨v, h _ hx⟩
 | .int ki, k, k', h, hx => by simp only [Shape.ex] at *; obtain ⟨v, hx⟩ := hx; exact ⟨v, h _ hx⟩
 | .bool, k, k', h, hx => by simp only [Shape.ex] at *; obtain ⟨v, hx⟩ := hx; exact ⟨v, h _ hx⟩
 | .str, k, k', h, hx => by simp only [Shape.ex] at *; obtain ⟨v, hx⟩ := hx; exact ⟨v, h _ hx⟩
 | .slice, k, k', h, hx => by simp only [Shape.ex] at *; obtain ⟨a, n, c, hx⟩ := hx; exact ⟨a, n, c, h _ hx⟩
 | .agg l, k, k', h, hx => by simp only [Shape.ex] at *; exact Shape.exL_mono l (fun vs hvs => h _ hvs) hx
 | .tup l, k, k', h, hx => by simp only [Shape.ex] at *; exact Shape.exL_mono l (fun vs hvs => h _ hvs) hx
 | .fn, k, k', h, hx => by simp only [Shape.ex] at *; obtain ⟨g, fi, ca, hx⟩ := hx; exact ⟨g, fi, ca, h _ hx⟩
 | .cells, k, k', h, hx => by simp only [Shape.ex] at *; obtain ⟨cs, hx⟩ := hx; exact ⟨cs, h _ hx⟩
 | .ptr, k, k', h, hx => by simp only [Shape.ex] at *; obtain ⟨b, o, hx⟩ := hx; exact ⟨b, o, h _ hx⟩
theorem Shape.exL_mono : ∀ (l : List Shape) {k k' : List Value → Prop}, (∀ v, k v → k' v) → Shape.exL l k → Shape.exL l k'
 | [], k, k', h, hx => by simp only [Shape.exL] at *; exact h _ hx
 | s :: l, k, k', h, hx => by simp only [Shape.exL] at *; exact Shape.ex_mono s (fun v hv => Shape.exL_mono l (fun vs hvs => h _ hvs) hv) hx
end
theorem intW_mono {op : BinOp} {k : IntKind} {a b : Int} {r r' : Value → Prop} (h : ∀ v, r v → r' v) (x : intW op k a b r) : intW op k a b r' := by
 cases op <;> simp only [intW] at * <;> first
  | exact h _ x
  | exact ⟨x.1, h _ x.2⟩
  | exact x
theorem shiftW_mono {op : BinOp} {k : IntKind} {a b : Int} {r r' : Value → Prop} (h : ∀ v, r v → r' v) (x : shiftW op k a b r) : shiftW op k a b r' := by
 cases op <;> simp only [shiftW] at * <;> first
  | exact ⟨x.1, h _ x.2⟩
  | exact x
theorem strW_mono {op : BinOp} {a b : ByteArray} {r r' : Value → Prop} (h : ∀ v, r v → r' v) (x : strW op a b r) : strW op a b r' := by
 cases op <;> simp only [strW] at * <;> first
  | exact h _ x
  | exact ⟨x.1, h _ x.2⟩
  | exact x
theorem eqNe_mono {op : BinOp} {b : Bool} {r r' : Value → Prop} (h : ∀ v, r v → r' v) (x : eqNe op b r) : eqNe op b r' := by
 cases op <;> simp only [eqNe] at * <;> first
  | exact h _ x
  | exact x
theorem binW_mono {E : Env} {op : BinOp} {T : TypeId} {x y : Value} {r r' : Value → Prop} (h : ∀ v, r v → r' v) (hx : binW E op T x y r) : binW E op T x y r' := by
 unfold binW at *
 cases ht : E.tt T with
 | none => simp [ht] at hx
 | some i =>
  simp only [ht] at *
  cases hd : i.d <;> simp only [hd] at * <;> first
   | exact hx.elim
   | exact chk_mono (fun y => strW_mono h y) hx
   | exact chk_mono (eqNe_mono h) hx
   | exact chk_mono (fun ⟨b, hb, y⟩ => ⟨b, hb, eqNe_mono h y⟩) hx
   | (cases hc : isCmp op <;> simp only [hc, cond_true, cond_false] at * <;> exact hx.elim fun v y => ⟨v, y.1, h _ y.2⟩)
   | (cases hs : isShift op <;> simp only [hs, cond_true, cond_false] at * <;> first
     | exact chk_mono (intW_mono h) hx
     | exact chk_mono (shiftW_mono h) hx)
theorem fillW_mono {place : Nat → Option (Nat × Nat)} : ∀ {parts : List (Nat × Value)} {cs : List Value} {k k' : List Value → Prop}, (∀ v, k v → k' v) → fillW place cs parts k → fillW place cs parts k'
 | [], cs, k, k', h, hx => h _ hx
 | (i, v) :: rest, cs, k, k', h, hx => by
  simp only [fillW] at *
  cases hp : place i with
  | none => simp [hp] at hx
  | some os => simp only [hp] at *; exact chk_mono (fillW_mono h) hx
theorem boundW_mono {x : Option Value} {d y : Nat} {r r' : Nat → Prop} (h : ∀ v, r v → r' v) (hx : boundW x d y r) : boundW x d y r' := by
 cases x with
 | none => exact h _ hx
 | some v => exact chk_mono (fun ⟨a, b⟩ => ⟨a, h _ b⟩) hx
theorem optV_mono {S : St} {x : Option Operand} {r r' : Option Value → Prop} (h : ∀ v, r v → r' v) (hx : optV S x r) : optV S x r' := by
 cases x with
 | none => exact h _ hx
 | some v => exact wv_mono (fun v hv => h _ hv) hx
theorem sliceW_mono {E : Env} {T : TypeId} {v : Value} {lo hi mx : Option Value} {r r' : Value → Prop} (h : ∀ v, r v → r' v) (hx : sliceW E T v lo hi mx r) : sliceW E T v lo hi mx r' := by
 unfold sliceW at *
 cases he : elemSize E T with
 | some sz => simp only [he] at *; exact chk_mono (fun y => boundW_mono (fun m y => boundW_mono (fun h' y => boundW_mono (fun l y => chk_mono (h _) y) y) y) y) hx
 | none =>
  simp only [he] at *
  cases hs : isStrT E T <;> simp only [hs, cond_true, cond_false] at *
  exact chk_mono (fun y => boundW_mono (fun h' y => boundW_mono (fun l y => h _ y) y) y) hx
theorem pureW_mono {E : Env} {S : St} {o : Oper} {k k' : SV → Prop} (h : ∀ v, k v → k' v) (hx : pureW E S o k) : pureW E S o k' := by
 obtain ⟨dst, op, type, pos, after, guard⟩ := o
 cases op <;> simp only [pureW] at * <;> try exact hx.elim
 case unOp op T x =>
  refine wv_mono (fun v y => ?_) hx
  cases op <;> simp only at *
  ·split at y <;> first | exact chk_mono (h _) y | exact y.elim
  ·split at y <;> first | exact chk_mono (h _) y | exact y.elim
  ·exact chk_mono (h _) y
 case binOp => exact wv_mono (fun v y => wv_mono (fun v' y => binW_mono (fun r y => h _ y) y) y) hx
 case convert =>
  refine wv_mono (fun v y => ?_) hx
  unfold convW at *
  (repeat' split at y) <;> first | exact (y : False).elim | exact chk_mono (h _) y | exact y.elim fun u z => ⟨u, z.1, h _ z.2⟩
 case makeFunc => exact wvs_mono (fun v y => wvs_mono (fun v' y => h _ y) y) hx
 case fieldAddr =>
  (repeat' split at hx) <;> first | exact hx.elim | exact h _ hx | exact chk_mono (h _) hx
 case indexAddr =>
  refine wv_mono (fun v y => chk_mono (fun y => ?_) y) hx
  split at y
  ·exact y.elim
  ·refine ⟨y.1, ?_⟩
   have y2 := y.2
   (repeat' split at y2) <;> first | exact y2.elim | exact h _ y2 | exact chk_mono (h _) y2
  ·(repeat' split at y) <;> first
    | exact y.elim
    | exact ⟨y.1, h _ y.2⟩
    | exact chk_mono (fun ⟨b, o, h1, h2, h3⟩ => ⟨b, o, h1, h2, h _ h3⟩) y
 case index =>
  refine wv_mono (fun v y => wv_mono (fun v' y => chk_mono (fun y => ?_) y) y) hx
  cases hs : isStrT E _ <;> simp only [hs, cond_true, cond_false] at *
  ·split at y
   ·exact chk_mono (fun ⟨a, b⟩ => ⟨a, look_mono (fun u hu => h _ hu) b⟩) y
   ·exact y.elim
  ·exact chk_mono (fun ⟨a, b⟩ => ⟨a, h _ b⟩) y
 case build =>
  split at hx
  ·exact hx.elim
  ·exact wvs_mono (fun vs y => fillW_mono (fun r y => h _ y) y) hx
 case extract => exact wv_mono (fun v y => chk_mono (fun y => look_mono (fun u hu => h _ hu) y) y) hx
 case makeInterface => exact wv_mono (fun v y => chk_mono (h _) y) hx
 case nilCheck => (repeat' split at hx) <;> first | exact hx.elim | exact h _ hx | exact chk_mono (h _) hx
 case slice => exact wv_mono (fun v y => optV_mono (fun l y => optV_mono (fun h' y => optV_mono (fun m y => sliceW_mono (fun r y => h _ y) y) y) y) y) hx
 case call c =>
  split at hx
  ·split at hx
   ·refine wv_mono (fun v y => ?_) hx
    unfold lenW at *
    (repeat' split at y) <;> first | exact y.elim | exact chk_mono (h _) y | exact h _ y
   ·exact hx.elim
  ·split at hx
   ·refine wv_mono (fun v y => wv_mono (fun v' y => ?_) y) hx
    split at y
    ·exact chk_mono (h _) y
    ·exact y.elim
   ·exact hx.elim
  ·split at hx
   ·refine wv_mono (fun v y => wv_mono (fun v' y => ?_) y) hx
    split at y
    ·exact chk_mono (h _) y
    ·exact y.elim
   ·refine wv_mono (fun v y => wv_mono (fun v' y => wv_mono (fun v'' y => ?_) y) y) hx
    split at y
    ·exact chk_mono (h _) y
    ·exact y.elim
   ·exact hx.elim
  ·exact hx.elim
end Go.Eng
namespace Go.Eng
open Go Go.RowKit
def dl (d : Option Tmp) : List Nat := match d with
 | none => []
 | some t => [t]
theorem mem_dl {d : Option Tmp} {t : Nat} (h : d = some t) : t ∈ dl d := by subst h; simp [dl]
theorem sameOut_put (S : St) (d : Option Tmp) (x : Option SV) : SameOut (dl d) S (S.put d x) := (SameOut.refl _ S).put (fun t ht => mem_dl ht) x
theorem sameOut_env {ds : List Nat} {S S' : St} (h : S'.env = S.env) : SameOut ds S S' := fun i _ => by rw [h]
theorem memLoad_mono {i : TI} {m : Mem} {b o : Nat} {k k' : Value → Prop} (h : ∀ v, k v → k' v) (hx : memLoad i m b o k) : memLoad i m b o k' := by
 unfold memLoad at *
 cases ha : i.agg <;> simp only [ha, cond_true, cond_false] at *
 ·obtain ⟨v, h1, h2⟩ := hx; exact ⟨v, h1, h _ h2⟩
 ·cases hb : Nat.ble i.size 16 <;> simp only [hb, cond_true, cond_false] at *
  ·obtain ⟨vs, h1, h2, h3⟩ := hx; exact ⟨vs, h1, h2, h _ h3⟩
  ·exact exN_mono (fun vs ⟨a, b⟩ => ⟨a, h _ b⟩) hx
theorem boxLoad_mono {i : TI} {x : Box} {off : Nat} {k k' : Value → Prop} (h : ∀ v, k v → k' v) (hx : boxLoad i x off k) : boxLoad i x off k' := by
 unfold boxLoad at *
 cases ha : i.agg <;> simp only [ha, cond_true, cond_false] at *
 ·exact look_mono h hx
 ·cases hb : (x.full && (Nat.beq x.cap i.size && Nat.beq off 0)) <;> simp only [hb, cond_true, cond_false] at *
  ·exact chk_mono (h _) hx
  ·exact h _ hx
theorem loadW_mono {E : Env} {S : St} {m : Mem} {T : TypeId} {x : Operand} {k k' : Value → Prop} (h : ∀ v, k v → k' v) (hx : loadW E S m T x k) : loadW E S m T x k' := by
 unfold loadW at *
 split at hx
 ·exact hx.elim
 ·split at hx
  ·split at hx
   ·exact hx.elim
   ·exact boxLoad_mono h hx
  ·split at hx
   ·exact chk_mono (memLoad_mono h) hx
   ·split at hx
    ·exact hx.elim
    ·exact chk_mono (fun ⟨a, b⟩ => ⟨a, boxLoad_mono h b⟩) hx
  ·exact hx.elim
theorem copyW_mono {E : Env} {S : St} {m : Mem} {T : TypeId} {id : Nat} {vd vs : Value} {k k' : Int → St → Prop} (h : ∀ n S', S'.env = S.env → k n S' → k' n S') (hx : copyW E S m T id vd vs k) : copyW E S m T id vd vs k' := by
 unfold copyW at *
 split at hx
 ·exact hx.elim
 ·split at hx
  ·exact hx.elim
  ·exact chk_mono (fun g hf => by
   obtain ⟨o, xs, h1, h2, h3, h4, h5, h6⟩ := g hf
   exact ⟨o, xs, h1, h2, h3, h4, h5, h _ _ rfl h6⟩) hx
theorem storeW_mono {E : Env} {S : St} {T : TypeId} {x : Operand} {v : Value} {k k' : St → Prop} (h : ∀ S', S'.env = S.env → k S' → k' S') (hx : storeW E S T x v k) : storeW E S T x v k' := by
 unfold storeW at *
 split at hx
 ·exact hx.elim
 ·split at hx
  ·split at hx
   ·exact hx.elim
   ·refine chk_mono (fun y => ?_) hx
    cases hb : (_ && (Nat.beq _ _ && Nat.beq _ 0)) <;> simp only [hb, cond_true, cond_false] at *
    ·exact chk_mono (h _ rfl) y
    ·exact h _ rfl y
  ·split at hx
   ·exact hx.elim
   ·split at hx
    ·exact hx.elim
    ·exact chk_mono (fun ⟨a, b, c⟩ => ⟨a, b, h _ rfl c⟩) hx
  ·exact hx.elim
theorem setLs_env (S : St) (ids : List Nat) (bxs : List Box) (css : List (List Value)) : (setLs S ids bxs css).env = S.env := by
 rw [setLs_eq]
theorem callTW_mono {E : Env} {S : St} {m : Mem} {rt : TypeId} {g : FuncId} {args : List Value} {key esz : Nat} {K K' : Value → St → Mem → Prop} (h : ∀ v S' m', S'.env = S.env → m.le m' → K v S' m' → K' v S' m') (hx : callTW E S m rt g args key esz K) : callTW E S m rt g args key esz K' := by
 obtain ⟨R, hx⟩ := hx
 exact ⟨R, fixA_mono (fun ⟨h1, h2, h3⟩ => ⟨h1, h2, Shape.all_mono _ (fun v y m' hm hr => h v _ m' rfl hm (y m' hm hr)) h3⟩) hx⟩
theorem callW_mono {E : Env} {S : St} {m : Mem} {rt : TypeId} {g : FuncId} {args : List Value} {ids : List Nat} {K K' : Value → St → Mem → Prop} (h : ∀ v S' m', S'.env = S.env → m.le m' → K v S' m' → K' v S' m') (hx : callW E S m rt g args ids K) : callW E S m rt g args ids K' := by
 unfold callW at *
 split at hx
 ·exact hx.elim
 ·refine chk_mono (fun ⟨R, h0, h1, h2, h3⟩ => ⟨R, h0, h1, h2, Shape.all_mono _ (fun v y m' hm => allL_mono (fun css y hR => h _ _ _ (setLs_env _ _ _ _) hm (y hR)) (y m' hm)) h3⟩) hx
theorem callYW_mono {E : Env} {S : St} {m : Mem} {rt : TypeId} {g : FuncId} {args : List Value} {ids : List Nat} {ks : List (Nat × Nat)} {K K' : Value → St → Mem → Prop} (h : ∀ v S' m', S'.env = S.env → K v S' m' → K' v S' m') (hx : callYW E S m rt g args ids ks K) : callYW E S m rt g args ids ks K' := by
 unfold callYW at *
 split at hx
 ·exact hx.elim
 ·split at hx
  ·exact hx.elim
  ·exact chk_mono (fun ⟨Y, R, h1, h2, h3, h4, h5⟩ => ⟨Y, R, h1, h2, h3, h4, Shape.all_mono _ (fun v y m' hm hn => allL_mono (fun css y => allSl_mono (fun tvs y hR => h _ _ _ (setLs_env S _ _ _) (y hR)) y) (y m' hm hn)) h5⟩) hx
theorem bytesStrW_mono {S : St} {m : Mem} {x : Operand} {k k' : Value → Prop} (h : ∀ v, k v → k' v) (hx : bytesStrW S m x k) : bytesStrW S m x k' := by
 unfold bytesStrW at *
 split at hx
 ·split at hx
  ·exact hx.elim
  ·obtain ⟨bs, h1, h2, h3⟩ := hx
   exact ⟨bs, h1, h2, h _ h3⟩
 ·exact wv_mono (fun v y => chk_mono (fun ⟨bs, h1, h2, h3⟩ => ⟨bs, h1, h2, h _ h3⟩) y) hx
theorem effW_mono {E : Env} {rt : TypeId} {g : FuncId} {args : List Value} {K K' : Value → Int → Prop} {S : St} {m : Mem} (h : ∀ v gh, K v gh → K' v gh) (hx : effW E rt g args K S m) : effW E rt g args K' S m := by
 unfold effW at *
 split at hx
 ·exact hx.elim
 ·obtain ⟨l, xs, go, stop, h1, h2, h3, h4⟩ := hx
  exact ⟨l, xs, go, stop, h1, h2, h3, Shape.all_mono _ (fun v hv => ⟨fun hg => h _ _ (hv.1 hg), fun hs => h _ _ (hv.2 hs)⟩) h4⟩
theorem appendW_mono {E : Env} {S : St} {m : Mem} {T xT : TypeId} {key : Nat} {vs vx : Value} {K K' : Value → (Nat → Option Tok) → Mem → Prop} (h : ∀ v tk m', m.le m' → K v tk m' → K' v tk m') (hx : appendW E S m T xT key vs vx K) : appendW E S m T xT key vs vx K' := by
 unfold appendW at *
 split at hx
 ·exact hx.elim
 ·split at hx
  ·exact hx.elim
  ·have hb : ∀ {j : TI}, appB E S m j key vs vx K → appB E S m j key vs vx K' := fun ⟨ht, xs, ys, a1, a2, a3, a4, a5, a6, a7, a8⟩ => ⟨ht, xs, ys, a1, a2, a3, a4, a5, a6, a7, fun a' c' m' h1 h2 => tokNew_mono (h _ _ _ h1) (a8 a' c' m' h1 h2)⟩
   refine chk_mono (fun y => ?_) hx
   cases htl : E.tails with
   | false => rw [htl] at y; exact hb y
   | true => rw [htl] at y; exact br_mono (chk_mono (h _ _ _ (Mem.le_refl m))) hb y
def noTokSt (E : Env) (o : Oper) : Prop := (∀ T x y, o.op = .store T x y → stKey E x = none) ∧ (∀ f as ats, o.op = .call ⟨.value f, as, ats⟩ → callYOf E o.dst = none) ∧ (∀ T x y z, o.op = .mapUpdate T x y z → E.thaw = false)
theorem thawOr (E : Env) (o : Oper) : E.thaw = true ∨ noTokSt E o := by
 cases h : E.thaw with
 | true => exact .inl rfl
 | false => exact .inr ⟨fun T x y _ => by simp [stKey, h], fun _ _ _ _ => by simp [callYOf, h], fun _ _ _ _ _ => h⟩
theorem opW_mono {th : Bool} {E : Env} {S : St} {m : Mem} {o : Oper} (hth : th = true ∨ noTokSt E o) {K K' : St → Mem → Prop} (h0 : ∀ S' m', SameOut (dl o.dst) S S' → leT th m m' → K S' m' → K' S' m') (hx : opW E S m o K) : opW E S m o K' := by
 have h : ∀ S' m', SameOut (dl o.dst) S S' → m.le m' → K S' m' → K' S' m' := fun S' m' hs hm => h0 S' m' hs (.of hm)
 have hp : ∀ x, K (S.put o.dst x) m → K' (S.put o.dst x) m := fun x => h _ _ (sameOut_put S _ x) (Mem.le_refl m)
 have hp2 : ∀ (S1 : St) x m', S1.env = S.env → m.le m' → K (S1.put o.dst x) m' → K' (S1.put o.dst x) m' := fun S1 x m' he hm => h _ _ ((sameOut_env he).trans (sameOut_put S1 _ x)) hm
 obtain ⟨dst, op, type, pos, after, guard⟩ := o
 simp only at hp hp2
 have hpure : ∀ (o : Oper), o.dst = dst → pureW E S o (fun sv => K (S.put dst (some sv)) m) → pureW E S o (fun sv => K' (S.put dst (some sv)) m) := fun o ho y => pureW_mono (fun sv y => hp _ y) y
 cases op with
 | move x => exact hp _ hx
 | assign x => exact hp _ hx
 | pick c x y => exact wv_mono (fun v y => chk_mono (fun y => br_mono (hp _) (hp _) y) y) hx
 | load T x =>
  simp only [opW] at hx ⊢
  cases hld : ldFOf E dst with
  | none => simp only [hld] at hx ⊢; exact loadW_mono (fun v y => hp _ y) hx
  | some y =>
   simp only [hld] at hx ⊢
   exact loadW_mono (fun v y => ldW_mono (fun v y => hp _ y) y) hx
 | store T x y =>
  refine wv_mono (fun v y => ?_) hx
  cases hsk : stKey E x with
  | none =>
   simp only [hsk] at y ⊢
   exact storeW_mono (fun S' he y => hp2 S' _ _ he (Mem.le_refl m) y) y
  | some key =>
   simp only [hsk] at y ⊢
   have hth : th = true := by
    rcases hth with h | h
    ·exact h
    ·have := h.1 T x _ rfl; rw [hsk] at this; cases this
   cases hfx : E.fix with
   | some f => simp [hfx] at y
   | none =>
    simp only [hfx, Option.isSome_none, cond_false] at y ⊢
    unfold storeTokW at *
    refine wv_mono (fun p y => ?_) y
    split at y
    ·exact y.elim
    ·split at y
     ·split at y
      ·exact y.elim
      ·exact chk_mono (fun ⟨y1, y2, y3, y4⟩ => ⟨y1, y2, y3, nfz_mono (h0 _ _ (sameOut_put S _ _) (by rw [hth]; trivial)) y4⟩) y
     ·exact chk_mono (fun ⟨y1, y2, y3⟩ => ⟨y1, y2, h0 _ _ (sameOut_put S _ _) (by rw [hth]; trivial) y3⟩) y
 | alloc T =>
  simp only [opW, allocW] at *
  split at hx
  ·exact hx.elim
  ·split at hx
   ·exact hx.elim
   ·split at hx
    ·exact hx.elim
    ·exact fun b => hp2 _ _ _ rfl (Mem.le_refl m) (hx b)
 | box T x =>
  refine wv_mono (fun v y => ?_) hx
  simp only at y ⊢
  cases hfn : frzNewOf E dst with
  | true =>
   simp only [hfn, cond_true] at y ⊢
   cases hfx : E.fix with
   | some f => simp [hfx] at y
   | none =>
    simp only [hfx, Option.isSome_none, cond_false, boxFW] at y ⊢
    split at y
    ·exact y.elim
    ·split at y
     ·exact y.elim
     ·split at y
      ·exact y.elim
      ·exact chk_mono (fun y b m' hm hb => onlyW_mono (hp2 _ _ _ rfl hm) (y b m' hm hb)) y
  | false =>
  simp only [hfn, cond_false] at y ⊢
  simp only [boxW] at *
  split at y
  ·exact y.elim
  ·split at y
   ·exact y.elim
   ·split at y
    ·exact y.elim
    ·exact chk_mono (fun y b => hp2 _ _ _ rfl (Mem.le_refl m) (y b)) y
 | buildSlice T len parts =>
  cases htc : tokCOf E dst with
  | some ke =>
   simp only [opW, htc] at hx ⊢
   cases hfx : E.fix with
   | some f => simp [hfx] at hx
   | none =>
    simp only [hfx, Option.isSome_none, cond_false] at hx ⊢
    split at hx
    ·simp only [makeTW] at hx ⊢
     split at hx
     ·exact hx.elim
     ·split at hx
      ·exact hx.elim
      ·exact wv_mono (fun v y => wv_mono (fun v' y => chk_mono (fun ⟨a, y⟩ => ⟨a, fun b => frW_mono (hp2 _ _ _ rfl (Mem.le_refl m)) (y b)⟩) y) y) hx
    ·exact hx.elim
  | none =>
  simp only [opW, htc, buildSliceW] at hx ⊢
  split at hx
  ·exact hx.elim
  ·split at hx
   ·exact hx.elim
   ·split at hx
    ·split at hx
     ·exact hx.elim
     ·split at hx
      ·exact hx.elim
      ·exact chk_mono (fun y => wvs_mono (fun vs y => chk_mono (fun y b hf => hp2 _ _ _ rfl (Mem.le_add hf _) (y b hf)) y) y) hx
    ·exact hx.elim
 | lookup T x y ok =>
  simp only [opW, lookW] at hx ⊢
  refine wv_mono (fun v y => wv_mono (fun v' y => ?_) y) hx
  split at y
  ·exact y
  ·obtain ⟨b, es, u, o, h1, h2, h3, h4, h5⟩ := y
   exact ⟨b, es, u, o, h1, h2, h3, h4, hp2 _ _ _ rfl (Mem.le_refl m) h5⟩
 | mapUpdate T x y z =>
  simp only [opW] at hx ⊢
  cases hfx : E.fix with
  | some f => simp [hfx] at hx
  | none =>
   simp only [hfx, Option.isSome_none, Bool.false_or] at hx ⊢
   cases hEt : E.thaw with
   | false => simp [hEt] at hx
   | true =>
    simp only [hEt, Bool.not_true, cond_false, mapUpW] at hx ⊢
    have hth' : th = true := by
     rcases hth with hth | hth
     ·exact hth
     ·rw [hth.2.2 T x y z rfl] at hEt; cases hEt
    refine wv_mono (fun v y => wv_mono (fun v' y => wv_mono (fun v2 y => ?_) y) y) hx
    split at y
    ·exact y
    ·split at y
     ·exact y
     ·refine chk_mono (fun y => ?_) y
      obtain ⟨b, es, es', h1, h2, h3, h4, h5, h6⟩ := y
      exact ⟨b, es, es', h1, h2, h3, h4, h5, h0 _ _ (sameOut_put S _ none) (by rw [hth']; trivial) h6⟩
 | makeMap T r =>
  simp only [opW] at hx ⊢
  cases hfx : E.fix with
  | some f => simp [hfx] at hx
  | none =>
   simp only [hfx, Option.isSome_none, cond_false, mkMapW] at hx ⊢
   split at hx
   ·exact hx.elim
   ·exact fun b h1 h2 => hp2 _ _ _ rfl (Mem.le_updK (Mem.le_refl m) h2 _) (hx b h1 h2)
 | makeSlice T l c =>
  simp only [opW] at hx ⊢
  cases htc : tokCOf E dst with
  | none =>
   simp only [htc] at hx ⊢
   cases hmk : mkMOf E dst with
   | true =>
    simp only [hmk, cond_true] at hx ⊢
    cases hfx : E.fix with
    | some f => simp [hfx] at hx
    | none =>
     simp only [hfx, Option.isSome_none, cond_false, makeMW] at hx ⊢
     split at hx
     ·exact hx.elim
     ·split at hx
      ·exact hx.elim
      ·exact wv_mono (fun v y => wv_mono (fun v' y => chk_mono (fun ⟨a, y⟩ => ⟨a, fun b hf => hp2 _ _ _ rfl (Mem.le_add hf _) (y b hf)⟩) y) y) hx
   | false =>
   simp only [hmk, cond_false, makeW] at hx ⊢
   split at hx
   ·exact hx.elim
   ·split at hx
    ·exact hx.elim
    ·split at hx
     ·exact hx.elim
     ·exact wv_mono (fun v y => wv_mono (fun v' y => chk_mono (fun ⟨a, y⟩ => ⟨a, fun b => hp2 _ _ _ rfl (Mem.le_refl m) (y b)⟩) y) y) hx
  | some ke =>
   simp only [htc] at hx ⊢
   cases hfx : E.fix with
   | some f => simp [hfx] at hx
   | none =>
    simp only [hfx, Option.isSome_none, cond_false, makeTW] at hx ⊢
    split at hx
    ·exact hx.elim
    ·split at hx
     ·exact hx.elim
     ·exact wv_mono (fun v y => wv_mono (fun v' y => chk_mono (fun ⟨a, y⟩ => ⟨a, fun b => frW_mono (hp2 _ _ _ rfl (Mem.le_refl m)) (y b)⟩) y) y) hx
 | convert s d x =>
  simp only [opW] at *
  cases hb : isByteSl E s d <;> simp only [hb, cond_true, cond_false] at *
  ·cases hsb : isStrBytes E s d <;> simp only [hsb, cond_true, cond_false] at *
   ·cases hbt : isBytesStr E s d <;> simp only [hbt, cond_true, cond_false] at *
    ·exact hpure _ rfl hx
    ·unfold bytesW at *
     cases hfx : E.fix.isSome with
     | true => simp only [hfx, cond_true] at hx ⊢; exact bytesFW_mono (fun v y => hp _ y) hx
     | false => simp only [hfx, cond_false] at hx ⊢; exact bytesStrW_mono (fun v y => hp _ y) hx
   ·cases hfx : E.fix with
    | some f => simp [hfx] at hx
    | none =>
     simp only [hfx, Option.isSome_none, cond_false] at hx ⊢
     exact wv_mono (fun v y => chk_mono (fun y b c hf hc => hp2 _ _ _ rfl (Mem.le_add hf _) (y b c hf hc)) y) hx
  ·split at hx
   ·exact hp _ hx
   ·exact hx.elim
 | call c =>
  obtain ⟨callee, args, argTypes⟩ := c
  cases callee with
  | value f =>
   simp only [opW] at *
   refine frzW_mono (fun S2 m2 henv hm2 hx => ?_) hx
   simp only [callV] at hx ⊢
   split at hx
   ·cases hex : extOf E dst with
    | true =>
     simp only [hex, cond_true] at hx ⊢
     cases hfx : E.fix with
     | some f => simp [hfx] at hx
     | none =>
      simp only [hfx, Option.isSome_none, cond_false] at hx ⊢
      exact wvs_mono (fun vs y => extW_mono (fun S' sv he y => hp2 S' _ _ (he.trans henv) hm2 y) y) hx
    | false =>
    simp only [hex, cond_false] at hx ⊢
    cases hcy : callYOf E dst with
    | some ks =>
     simp only [hcy] at hx ⊢
     have hth : th = true := by
      rcases hth with h | h
      ·exact h
      ·have := h.2.1 _ _ _ rfl; simp only at this; rw [hcy] at this; cases this
     cases hfx : E.fix with
     | some f => simp [hfx] at hx
     | none =>
      simp only [hfx, Option.isSome_none, cond_false] at hx ⊢
      exact wvs_mono (fun vs y => callYW_mono (fun v S' m' he y => h0 _ _ ((sameOut_env (he.trans henv)).trans (sameOut_put S' _ _)) (by rw [hth]; trivial) y) y) hx
    | none =>
    simp only [hcy] at hx ⊢
    cases hef : effOf E dst with
    | true =>
     simp only [hef, cond_true] at hx ⊢
     cases hfx : E.fix with
     | some f => simp [hfx] at hx
     | none =>
      simp only [hfx, Option.isSome_none, cond_false] at hx ⊢
      exact wvs_mono (fun vs y => effW_mono (fun v gh y => hp2 _ _ _ henv hm2 y) y) hx
    | false =>
    simp only [hef, cond_false] at hx ⊢
    split at hx
    ·exact wvs_mono (fun vs y => callW_mono (fun v S' m' he hm y => hp2 S' _ _ (he.trans henv) (mLt hm2 hm) y) y) hx
    ·split at hx
     ·exact wvs_mono (fun vs y => callTW_mono (fun v S' m' he hm y => hp2 S' _ _ (he.trans henv) (mLt hm2 hm) y) y) hx
     ·exact hx.elim
   ·cases hfx : E.fix with
    | some f => simp [hfx] at hx
    | none =>
     simp only [hfx, Option.isSome_none, cond_false] at hx ⊢
     split at hx
     ·exact wvs_mono (fun vs ⟨y1, y2, y3⟩ => ⟨y1, hp2 _ _ _ henv hm2 y2, hp2 _ _ _ henv hm2 y3⟩) hx
     ·split at hx
      ·exact hx.elim
      ·exact wvs_mono (fun vs ⟨y1, y2⟩ => ⟨y1, hp2 _ _ _ henv hm2 y2⟩) hx
     ·exact hx.elim
   ·exact hx.elim
  | invoke r mm =>
   simp only [opW] at *
   exact hpure _ rfl hx
  | builtin b =>
   cases b with
   | append =>
    simp only [opW] at *
    split at hx
    ·exact frzW_mono (fun S2 m2 henv hm2 hx => wv_mono (fun v y => wv_mono (fun v' y => appendW_mono (fun v tk m' hm y => hp2 _ _ _ henv (mLt hm2 hm) y) y) y) hx) hx
    ·exact hx.elim
   | copy =>
    simp only [opW] at *
    split at hx
    ·split at hx
     ·exact hx.elim
     ·exact wv_mono (fun v y => wv_mono (fun v' y => copyW_mono (fun n S' he y => hp2 S' _ _ he (Mem.le_refl m) y) y) y) hx
    ·exact hx.elim
   | _ =>
    simp only [opW] at *
    exact hpure _ rfl hx
 | _ =>
  simp only [opW] at *
  exact hpure _ rfl hx
theorem opG_mono {th : Bool} {E : Env} {ops : Array Oper} {S : St} {m : Mem} {o : Oper} (hth : th = true ∨ noTokSt E o) {K K' : St → Mem → Prop} (h : ∀ S' m', SameOut (dl o.dst) S S' → leT th m m' → K S' m' → K' S' m') (hx : opG E ops o S m K) : opG E ops o S m K' := by
 unfold opG at *
 have hs : K (S.put o.dst (some (.v undef))) m → K' (S.put o.dst (some (.v undef))) m := h _ _ (sameOut_put S _ _) (leT.refl _ m)
 split at hx
 ·exact opW_mono hth h hx
 ·split at hx
  ·exact hx.elim
  ·split at hx
   ·exact hx.elim
   ·split at hx
    ·rename_i v _
     cases hu : isUndef v <;> simp only [hu, cond_true, cond_false] at *
     ·refine chk_mono (fun y => ?_) hx
      split at y
      ·exact br_mono (opW_mono hth h) hs y
      ·exact br_mono hs (opW_mono hth h) y
     ·exact hs hx
    ·exact hx.elim
theorem mem_opDsts : ∀ {l : List Oper} {i : Nat} {o : Oper} {t : Nat}, l[i]? = some o → o.dst = some t → t ∈ opDsts l
 | [], i, o, t, h, _ => by simp at h
 | x :: l, 0, o, t, h, ht => by simp at h; subst h; simp [opDsts, ht]
 | x :: l, i + 1, o, t, h, ht => by
  have := mem_opDsts (l := l) (by simpa using h) ht
  simp only [opDsts]
  cases x.dst with
  | none => exact this
  | some d => simp [this]
theorem guardSlot_mem {ops : Array Oper} {o : Oper} {t : Nat} (h : guardSlot ops o = some t) : t ∈ opDsts ops.toList := by
 unfold guardSlot at h
 split at h
 ·cases h
 ·split at h
  ·cases h
  ·rename_i hj; exact mem_opDsts hj h
theorem opGB_mono {E : Env} {ops : Array Oper} {S : St} {m : Mem} {o : Oper} (ho : ∀ t, o.dst = some t → t ∈ opDsts ops.toList) {K K' : St → Mem → Prop} (h : ∀ S' m', SameOut (opDsts ops.toList) S S' → leT E.thaw m m' → K S' m' → K' S' m') (hx : opGB E ops o S m K) : opGB E ops o S m K' := by
 have hm : ∀ {S' : St}, SameOut (dl o.dst) S S' → SameOut (opDsts ops.toList) S S' := fun hs => hs.mono fun q hq => by
  cases hd : o.dst with
  | none => simp [hd, dl] at hq
  | some t => simp [hd, dl] at hq; subst hq; exact ho _ hd
 unfold opGB at *
 split at hx
 ·exact opG_mono (thawOr E o) (fun S' m' hs hm' y => h _ _ (hm hs) hm' y) hx
 ·rename_i t ht
  have htm := guardSlot_mem ht
  have hb : ∀ b : Bool, opG E ops o (S.put (some t) (some (.v (.bool b)))) m K → opG E ops o (S.put (some t) (some (.v (.bool b)))) m K' := fun b => opG_mono (thawOr E o) (fun S' m' hs hm' y => h _ _ (by
   have h1 : SameOut (opDsts ops.toList) S (S.put (some t) (some (.v (.bool b)))) := (SameOut.refl _ S).put (fun t' e => by cases e; exact htm) _
   refine h1.trans (hs.mono fun q hq => ?_)
   cases hd : o.dst with
   | none => simp [hd, dl] at hq
   | some t => simp [hd, dl] at hq; subst hq; exact ho _ hd) hm' y)
  split at hx
  ·rename_i v _
   cases hu : isUndef v with
   | true => simp only [hu, cond_true] at hx ⊢; exact opG_mono (thawOr E o) (fun S' m' hs hm' y => h _ _ (hm hs) hm' y) hx
   | false => simp only [hu, cond_false] at hx ⊢; exact chk_mono (br_mono (hb true) (hb false)) hx
  ·exact hx.elim
theorem opsW_mono {E : Env} {ops : Array Oper} : ∀ {l : List Nat} {S : St} {m : Mem} {K K' : St → Mem → Prop}, (∀ S' m', SameOut (opDsts ops.toList) S S' → leT E.thaw m m' → K S' m' → K' S' m') → opsW E ops l K S m → opsW E ops l K' S m
 | [], S, m, K, K', h, hx => h _ _ (SameOut.refl _ S) (leT.refl _ m) hx
 | i :: l, S, m, K, K', h, hx => by
  simp only [opsW] at *
  cases ho : ops.toList[i]? with
  | none => simp [ho] at hx
  | some o =>
   simp only [ho] at hx ⊢
   exact opGB_mono (fun t ht => mem_opDsts ho ht) (fun S' m' hs hm y => opsW_mono (fun S'' m'' hs' hm' y => h _ _ (SameOut.trans hs hs') (leT.trans hm hm') y) y) hx
theorem csOf_mono {S : St} : ∀ {l : List Nat} {k k' : List (List Value) → Prop}, (∀ v, k v → k' v) → csOf S l k → csOf S l k'
 | [], k, k', h, hx => h _ hx
 | id :: l, k, k', h, hx => by
  simp only [csOf] at *
  split at hx
  ·exact hx.elim
  ·exact csOf_mono (fun vs hvs => h _ hvs) hx
theorem toksOf_mono {S : St} : ∀ {l : List (Nat × Nat)} {k k' : List Value → Prop}, (∀ v, k v → k' v) → toksOf S l k → toksOf S l k'
 | [], k, k', h, hx => h _ hx
 | (q, e) :: l, k, k', h, hx => chk_mono (fun y => toksOf_mono (fun vs hvs => h _ hvs) y) hx
theorem allCs_mono : ∀ {l : List Nat} {k k' : List (List Value) → Prop}, (∀ v, k v → k' v) → allCs l k → allCs l k'
 | [], k, k', h, hx => h _ hx
 | _ :: l, k, k', h, hx => fun cs => allCs_mono (fun vs hvs => h _ hvs) (hx cs)
theorem allTs_mono : ∀ {l : List (Nat × Nat)} {k k' : List Value → Prop}, (∀ v, k v → k' v) → allTs l k → allTs l k'
 | [], k, k', h, hx => h _ hx
 | _ :: l, k, k', h, hx => fun a n c => allTs_mono (fun vs hvs => h _ hvs) (hx a n c)
theorem setVals_out : ∀ {A : List (Nat × Shape)} {xs : List Value} {e : Nat → Option SV} {i : Nat}, (∀ q ∈ A, q.1 ≠ i) → setVals e A xs i = e i
 | [], xs, e, i, h => by simp [setVals]
 | (t, s) :: A, [], e, i, h => by simp [setVals]
 | (t, s) :: A, v :: xs, e, i, h => by
  have h1 : i ≠ t := fun e => h (t, s) (by simp) e.symm
  simp only [setVals, beq_ne h1, cond_false]
  exact setVals_out (fun q hq => h q (by simp [hq]))
theorem any_beq {ds : List Nat} {i : Nat} : ds.any (Nat.beq i ·) = true ↔ i ∈ ds := by
 rw [List.any_eq_true]
 constructor
 ·rintro ⟨x, hx, he⟩; rw [Nat.eq_of_beq_eq_true he]; exact hx
 ·intro h; exact ⟨i, h, Nat.beq_refl i⟩
theorem any_beq_false {ds : List Nat} {i : Nat} (h : i ∉ ds) : ds.any (Nat.beq i ·) = false := by
 cases hh : ds.any (Nat.beq i ·) with
 | false => rfl
 | true => exact absurd (any_beq.1 hh) h
def annOk (ds : List Nat) (A : List (Nat × Shape)) : Bool := A.all fun q => ds.any (Nat.beq q.1 ·)
theorem sameOut_vals {ds : List Nat} {A : List (Nat × Shape)} (hA : annOk ds A = true) {S S' : St} {xs : List Value} (h : S'.env = setVals (fun i => bif ds.any (Nat.beq i ·) then none else S.env i) A xs) : SameOut ds S S' := by
 intro i hi
 rw [h, setVals_out]
 ·simp [any_beq_false hi]
 ·intro q hq e
  simp only [annOk, List.all_eq_true] at hA
  exact hi (e ▸ any_beq.1 (hA q hq))
def codeAnn (E : Env) : Code → Bool
 | .region id ops draw => (match E.joins id with
  | none => true
  | some outs => annOk (opDsts ops.toList) outs)
 | .seq a b => codeAnn E a && codeAnn E b && (match E.cuts (firstRegion b) with
  | none => true
  | some A => annOk (dsts a) A.slots)
 | .cond _ a b => codeAnn E a && codeAnn E b
 | .block _ a => codeAnn E a
 | .loop a => codeAnn E a && annOk (dsts a) (E.loops (firstRegion a)).slots
 | .rangeFunc _ _ a b => codeAnn E a && codeAnn E b
 | .scope a => codeAnn E a
 | _ => true
def leD (E : Env) (id : Nat) (m m' : Mem) : Prop := match E.last id with
 | true => leT E.thaw m m'
 | false => m.le m'
theorem leD.leT {E : Env} {id : Nat} {m m' : Mem} (h : leD E id m m') : leT E.thaw m m' := by
 unfold leD at h
 cases hl : E.last id with
 | true => rw [hl] at h; exact h
 | false => rw [hl] at h; exact .of h
theorem leD.le {E : Env} {id : Nat} {m m' : Mem} (hl : E.last id = false) (h : leD E id m m') : m.le m' := by
 unfold leD at h; rw [hl] at h; exact h
def DrawMono (E : Env) (drawW : Nat → Array Oper → (St → Mem → Prop) → St → Mem → Prop) : Prop :=
 ∀ (id : Nat) (ops : Array Oper) (K K' : St → Mem → Prop) (S : St) (m : Mem), (∀ S' m', SameOut (opDsts ops.toList) S S' → leD E id m m' → K S' m' → K' S' m') → drawW id ops K S m → drawW id ops K' S m
theorem allG_mono {b : Bool} {g : Int} {k k' : Int → Prop} (h : ∀ y, k y → k' y) (hx : allG b g k) : allG b g k' := by
 cases b with
 | true => exact fun y => h y (hx y)
 | false => exact h g hx
theorem sameG_mono {b : Bool} {x y : Int} {f g : Bool} {p q : Prop} (h : p → q) (hx : sameG b x y f g p) : sameG b x y f g q := by
 unfold sameG at *
 cases hf : Bool.xor f g with
 | true => simp [hf] at hx
 | false =>
 simp only [hf, cond_false] at *
 cases b with
 | true => exact h hx
 | false =>
  simp only [cond_false] at *
  split at hx
  ·exact h hx
  ·exact ⟨hx.1, h hx.2⟩
theorem sameB_mono {a b : List (Option Box)} {p q : Prop} (h : p → q) (hx : sameB a b p) : sameB a b q := sameB_iff.2 ⟨(sameB_iff.1 hx).1, h (sameB_iff.1 hx).2⟩
theorem sameT_mono {a b : List (Option Tok)} {p q : Prop} (h : p → q) (hx : sameT a b p) : sameT a b q := sameT_iff.2 ⟨(sameT_iff.1 hx).1, h (sameT_iff.1 hx).2⟩
theorem ofRound_mono {K K' : KT} {e : Exit} {S : St} {m : Mem} (h : ∀ e, K e S m → K' e S m) (hx : ofRound K e S m) : ofRound K' e S m := by
 cases e with
 | ret => exact h _ hx
 | exit id => exact h _ hx
 | goto l => exact h _ hx
 | _ => exact hx
theorem leT.up {th : Bool} {mi m m' : Mem} (hc : th = false → mi = m) (h : mi.le m') : leT th m m' := by
 cases th with
 | true => trivial
 | false => rw [hc rfl] at h; exact h
theorem rangeW_mono {th : Bool} {P : Program} {A : LoopAnn} {f : Operand} {ps : List Nat} {assign body : KT → St → Mem → Prop} {ds : List Nat}
  (ha : ∀ {S : St} {m : Mem} {K K' : KT}, (∀ e S' m', leT th m m' → K e S' m' → K' e S' m') → assign K S m → assign K' S m)
  (hb : ∀ {S : St} {m : Mem} {K K' : KT}, (∀ e S' m', leT th m m' → K e S' m' → K' e S' m') → body K S m → body K' S m)
  {S : St} {m : Mem} {K K' : KT} (h : ∀ e S' m', SameOut ds S S' → leT th m m' → K e S' m' → K' e S' m') (hx : rangeW th P A f ps assign body K S m) : rangeW th P A f ps assign body K' S m := by
 unfold rangeW at *
 split at hx
 ·refine chk_mono (exMi_mono fun mi hmi hcold ⟨xs, h1, h2, I, h3, h4, h5⟩ => ⟨xs, h1, h2, I, h3, ?_, ?_⟩) hx
  all_goals have up : ∀ {m' : Mem}, mi.le m' → leT th m m' := fun hm => leT.up hcold hm
  ·refine allG_mono (fun y z => Shape.allL_mono _ (fun x z => allCs_mono (fun css z => allTs_mono (fun tvs z m' n hm hn hI => ?_) z) z) z) h4
   refine ha (fun e S1 m1 hm1 k => ?_) (z m' n hm hn hI)
   cases e with
   | normal =>
    refine hb (fun e S' m'' hm2 k => leMi_mono (sameG_mono (sameB_mono (sameT_mono (csOf_mono fun css' k => ?_ )))) k) k
    refine toksOf_mono (fun tvs' k => ?_) k
    cases e with
    | normal => exact k
    | _ => exact ofRound_mono (fun e => h e _ _ (SameOut.refl _ _) (leT.trans (up hm) (leT.trans hm1 hm2))) k
   | _ => exact k
  ·exact allG_mono (fun y z => allCs_mono (fun css z => allTs_mono (fun tvs z m' hm hI => h _ _ _ (SameOut.refl _ _) (up hm) (z m' hm hI)) z) z) h5
 ·exact hx.elim
theorem rangeYW_mono {E : Env} {A : LoopAnn} {f : Operand} {ps : List Nat} {assign body : KT → St → Mem → Prop} {ds : List Nat}
  {S : St} {m : Mem} {K K' : KT} (h : ∀ e S' m', SameOut ds S S' → leT E.thaw m m' → K e S' m' → K' e S' m') (hx : rangeYW E A f ps assign body K S m) : rangeYW E A f ps assign body K' S m := by
 unfold rangeYW at *
 split at hx
 ·obtain ⟨c1, hx⟩ := chk_elim hx
  refine chk_intro c1 ?_
  simp only [Bool.and_eq_true] at c1
  obtain ⟨Y, n, V, R, h1, h2, h3, I, h4, h5, h6⟩ := hx
  refine ⟨Y, n, V, R, h1, h2, h3, I, h4, h5, ?_⟩
  exact allG_mono (fun y z => allCs_mono (fun css z => allTs_mono (fun tvs z m' me a b c hI hR => h _ _ _ (SameOut.refl _ _) (by rw [c1.1.1]; trivial) (z m' me a b c hI hR)) z) z) h6
 ·exact hx.elim
theorem acqW_mono {E : Env} {kz : Option (Nat × Nat)} {ops : Array Oper} {l : List Nat} {S : St} {m : Mem} {K K' : St → Mem → Prop} (h : ∀ S' m', SameOut (opDsts ops.toList) S S' → leT E.thaw m m' → K S' m' → K' S' m')
  (y : acqW E kz (opsW E ops l) K S m) : acqW E kz (opsW E ops l) K' S m := by
 unfold acqW at *
 split at y
 ·exact opsW_mono h y
 ·obtain ⟨y1, y2⟩ := chk_elim y
  refine chk_intro y1 ?_
  simp only [Bool.and_eq_true] at y1
  split at y2
  ·exact y2
  ·obtain ⟨z0, a, n, c, z1, z2, z3⟩ := y2
   refine ⟨z0, a, n, c, z1, z2, opsW_mono (fun S' m' hs _ z => ?_) z3⟩
   split at z
   ·exact z
   ·exact chk_mono (fun z zs hz => h _ _ (fun t ht => hs t ht) (by rw [y1.1]; trivial) (z zs hz)) z
theorem W_mono {E : Env} {drawW : Nat → Array Oper → (St → Mem → Prop) → St → Mem → Prop} (hD : DrawMono E drawW) : ∀ (c : Code), codeAnn E c = true → ∀ {S : St} {m : Mem} {K K' : KT}, (∀ e S' m', SameOut (dsts c) S S' → leT E.thaw m m' → K e S' m' → K' e S' m') → W E drawW c K S m → W E drawW c K' S m
 | .skip, _, S, m, K, K', h, hx => h _ _ _ (SameOut.refl _ S) (leT.refl _ m) hx
 | .label _, _, S, m, K, K', h, hx => h _ _ _ (SameOut.refl _ S) (leT.refl _ m) hx
 | .exit _, _, S, m, K, K', h, hx => h _ _ _ (SameOut.refl _ S) (leT.refl _ m) hx
 | .ret, _, S, m, K, K', h, hx => h _ _ _ (SameOut.refl _ S) (leT.refl _ m) hx
 | .region id ops draw, hc, S, m, K, K', h, hx => by
  simp only [W] at *
  cases hj : E.joins id with
  | none =>
   simp only [hj] at hx ⊢
   cases draw with
   | true => simp only [cond_true] at *; exact hD _ _ _ _ _ _ (fun S' m' hs hm y => h _ _ _ hs (leD.leT hm) y) hx
   | false =>
    simp only [cond_false] at *
    exact acqW_mono (fun S' m' hs hm y => h _ _ _ hs hm y) hx
  | some outs =>
   simp only [hj] at hx ⊢
   refine Shape.exL_mono _ (fun xs ⟨h1, h2⟩ => ⟨h1, h _ _ _ ?_ (leT.refl _ m) h2⟩) hx
   simp only [codeAnn, hj] at hc
   exact sameOut_vals hc rfl
 | .seq x y, hc, S, m, K, K', h, hx => by
  simp only [codeAnn, Bool.and_eq_true] at hc
  simp only [W, dsts] at *
  cases hcut : E.cuts (firstRegion y) with
  | none =>
   simp only [hcut] at hx ⊢
   refine W_mono hD x hc.1.1 (fun e S' m' hs hm hy => ?_) hx
   have hs' : SameOut (dsts x ++ dsts y) S S' := hs.mono (fun i hi => by simp [hi])
   cases e with
   | normal => exact W_mono hD y hc.1.2 (fun e S'' m'' hs2 hm2 hy => h _ _ _ (hs'.trans (hs2.mono (fun i hi => by simp [hi]))) (leT.trans hm hm2) hy) hy
   | _ => exact h _ _ _ hs' hm hy
  | some A =>
   simp only [hcut] at hx ⊢ hc
   obtain ⟨J, h1, h2⟩ := hx
   refine ⟨J, W_mono hD x hc.1.1 (fun e S' m' hs hm hy => ?_) h1, allG_mono (fun g z => Shape.allL_mono _ (fun xs z => allCs_mono (fun css z => allTs_mono (fun tvs z m' hm hJ => ?_) z) z) z) h2⟩
   ·cases e with
    | normal => exact hy
    | _ => exact h _ _ _ (hs.mono (fun i hi => by simp [hi])) hm hy
   ·refine W_mono hD y hc.1.2 (fun e S' m'' hs hm2 hy => h _ _ _ ?_ (leT.trans hm hm2) hy) (z m' hm hJ)
    have h3 : SameOut (dsts x) S (havoc S (dsts x) A g xs css tvs) := sameOut_vals (S' := havoc S (dsts x) A g xs css tvs) hc.2 rfl
    exact (h3.mono (fun i hi => by simp [hi])).trans (hs.mono (fun i hi => by simp [hi]))
 | .cond c x y, hc, S, m, K, K', h, hx => by
  simp only [codeAnn, Bool.and_eq_true] at hc
  simp only [W, dsts] at *
  exact wv_mono (fun v hy => chk_mono (fun hy => br_mono (W_mono hD x hc.1 (fun e S' m' hs hm hy => h _ _ _ (hs.mono (fun i hi => by simp [hi])) hm hy)) (W_mono hD y hc.2 (fun e S' m' hs hm hy => h _ _ _ (hs.mono (fun i hi => by simp [hi])) hm hy)) hy) hy) hx
 | .block id x, hc, S, m, K, K', h, hx => by
  simp only [codeAnn] at hc
  simp only [W, dsts] at *
  refine W_mono hD x hc (fun e S' m' hs hm hy => ?_) hx
  cases e with
  | exit id' =>
   simp only at *
   cases hb : Nat.beq id' id <;> simp only [hb, cond_true, cond_false] at *
   ·exact h _ _ _ hs hm hy
   ·exact h _ _ _ hs hm hy
  | _ => exact h _ _ _ hs hm hy
 | .loop x, hc, S, m, K, K', h, hx => by
  simp only [codeAnn, Bool.and_eq_true] at hc
  simp only [W, dsts] at *
  obtain ⟨I, h1, h2⟩ := hx
  refine ⟨I, h1, allG_mono (fun g y => Shape.allL_mono _ (fun xs y => allCs_mono (fun css y => allTs_mono (fun tvs y m' n hm hI => ?_) y) y) y) h2⟩
  refine W_mono hD x hc.1 (fun e S' m'' hs hm2 hy => ?_) (y m' n hm hI)
  have hs' : SameOut (dsts x) S S' := (sameOut_vals (S' := havoc S (dsts x) (E.loops (firstRegion x)) g xs css tvs) hc.2 rfl).trans hs
  cases e with
  | normal => exact hy
  | _ => exact h _ _ _ hs' (leT.trans hm hm2) hy
 | .goto _, _, S, m, K, K', h, hx => by simp [W] at hx
 | .scope x, hc, S, m, K, K', h, hx => by
  simp only [codeAnn] at hc
  simp only [W, dsts] at *
  refine W_mono hD x hc (fun e S' m' hs hm hy => ?_) hx
  cases e with
  | goto l => exact hy
  | _ => exact h _ _ _ hs hm hy
 | .rangeFunc f ps x y, hc, S, m, K, K', h, hx => by
  simp only [codeAnn, Bool.and_eq_true] at hc
  simp only [W] at *
  cases hrg : E.rgY (firstRegion y) with
  | true =>
   simp only [hrg, cond_true] at hx ⊢
   exact rangeYW_mono (fun e S' m' hs hm => h e S' m' hs hm) hx
  | false =>
  simp only [hrg, cond_false] at hx ⊢
  exact rangeW_mono (assign := W E drawW x) (body := W E drawW y) (fun h' => W_mono hD x hc.1 fun e S' m' _ hm hy => h' e S' m' hm hy) (fun h' => W_mono hD y hc.2 fun e S' m' _ hm hy => h' e S' m' hm hy) (fun e S' m' hs hm => h e S' m' hs hm) hx
 | .refuse _, _, S, m, K, K', h, hx => by simp [W] at hx
end Go.Eng
namespace Go.Eng
open Go Go.RowKit
section
variable {C : Ctx} {m : Mem} {a : Act} {w : World}
theorem Rel.restrict {S S2 : St} (h : Rel C S m a w) (hg : S2.gh = S.gh) (hf : S2.fo = S.fo) (hL : ∀ id x, S2.L id = some x → S.L id = some x) (hT : ∀ k t, S2.tok k = some t → S.tok k = some t ∨ t.v = .slice none 0 0)
  (henv : ∀ i sv, S2.env i = some sv → ∃ v, S2.den sv = some v ∧ a.tmps[i]? = some v) (hids : ∀ id x, S2.L id = some x → id ∈ S2.ids) (hkeys : ∀ k t, S2.tok k = some t → k ∈ S2.tkeys) : Rel C S2 m a w := by
 refine ⟨h.defers, h.size, henv, fun id x hx => h.own id x (hL id x hx), fun id id' x x' hx hx' => h.apart id id' x x' (hL _ _ hx) (hL _ _ hx'), hids, ?_, hkeys, ?_, h.sub, h.le, h.dom.imp fun M d => d.cut hg (fun id x hx => ⟨id, x, hL id x hx, rfl⟩) (fun k t b ht hb => ?_) rfl (Mem.le_refl _), fun h' => h.fo (hf ▸ h')⟩
 ·intro k t ht
  rcases hT k t ht with h1 | h1
  ·obtain ⟨h2, h3⟩ := h.toks k t h1
   exact ⟨h2, fun b hb => ⟨fun id x hx => (h3 b hb).1 id x (hL _ _ hx), (h3 b hb).2⟩⟩
  ·exact ⟨.inl h1, fun b hb => by simp [Tok.blk, h1] at hb⟩
 ·intro k k' t t' b ht ht' hb hb'
  rcases hT k t ht with h1 | h1
  ·rcases hT k' t' ht' with h2 | h2
   ·exact h.tapart k k' t t' b h1 h2 hb hb'
   ·simp [Tok.blk, h2] at hb'
  ·simp [Tok.blk, h1] at hb
 ·rcases hT k t ht with h1 | h1
  ·exact ⟨k, t, h1, hb⟩
  ·simp [Tok.blk, h1] at hb
theorem Rel.forget {S : St} {m' : Mem} (h : Rel C S m' a w) (hm : m.le m') (h0 : C.me.le m) (hz : ∀ id x, S.L id = some x → x.fz = true → m.reads x.b 0 x.cs) : Rel C S m a w := by
 have hn : ∀ b o, m' b o = none → m b o = none := fun b o ho => by
  cases he : m b o with
  | none => rfl
  | some v => rw [hm _ _ _ he] at ho; cases ho
 refine ⟨h.defers, h.size, h.env, fun id x hx => ?_, h.apart, h.ids, fun k t ht => ?_, h.tkeys, h.tapart, h.sub.less hm, h0, h.dom.imp fun M d => d.cut rfl (fun id x hx => ⟨id, x, hx, rfl⟩) (fun k t b ht hb => ⟨k, t, ht, hb⟩) rfl hm, h.fo⟩
 ·have h1 := h.own id x hx
  exact ⟨h1.cells, fun hf o => hn _ _ (h1.free hf o), hz id x hx, h1.whole⟩
 ·obtain ⟨h1, h2⟩ := h.toks k t ht
  exact ⟨h1.same (fun _ _ => rfl) (fun b o _ ho => hn _ _ ho), h2⟩
theorem valsOf_sound {S : St} (hr : Rel C S m a w) : ∀ {l : List (Nat × Shape)} {k : List Value → Prop}, valsOf S l k → ∃ xs, Shape.fitsL (l.map (·.2)) xs = true ∧ (∀ (i : Nat) t sh v, l[i]? = some (t, sh) → xs[i]? = some v → a.tmps[t]? = some v) ∧ xs.length = l.length ∧ k xs
 | [], k, h => ⟨[], rfl, by simp, rfl, h⟩
 | (t, sh) :: l, k, h => by
  obtain ⟨v, hv, h⟩ := wv_elim h
  obtain ⟨h1, h2⟩ := chk_elim h
  obtain ⟨xs, g1, g2, g3, g4⟩ := valsOf_sound hr h2
  refine ⟨v :: xs, by simp [Shape.fitsL, h1, g1], ?_, by simp [g3], g4⟩
  intro i t' sh' v' hi hx
  cases i with
  | zero =>
   simp at hi hx
   obtain ⟨rfl, rfl⟩ := hi
   subst hx
   simp only [St.val, St.ev] at hv
   cases he : S.env t with
   | none => simp [he] at hv
   | some sv =>
    simp only [he] at hv
    obtain ⟨u, h3, h4⟩ := hr.env t sv he
    rw [hv] at h3; cases h3; exact h4
  | succ i => exact g2 i t' sh' v' (by simpa using hi) (by simpa using hx)
theorem csOf_sound {S : St} : ∀ {l : List Nat} {k : List (List Value) → Prop}, csOf S l k → ∃ css, css.length = l.length ∧ (∀ (i : Nat) id cs, l[i]? = some id → css[i]? = some cs → ∃ x, S.L id = some x ∧ x.cs = cs) ∧ k css
 | [], k, h => ⟨[], rfl, by simp, h⟩
 | id :: l, k, h => by
  simp only [csOf] at h
  cases hx : S.L id with
  | none => simp [hx] at h
  | some x =>
   simp only [hx] at h
   obtain ⟨css, g1, g2, g3⟩ := csOf_sound h
   refine ⟨x.cs :: css, by simp [g1], ?_, g3⟩
   intro i id' cs hi hc
   cases i with
   | zero => simp at hi hc; subst hi hc; exact ⟨x, hx, rfl⟩
   | succ i => exact g2 i id' cs (by simpa using hi) (by simpa using hc)
theorem toksOf_sound {S : St} : ∀ {l : List (Nat × Nat)} {k : List Value → Prop}, toksOf S l k → ∃ vs, vs.length = l.length ∧ (∀ (i : Nat) q e v, l[i]? = some (q, e) → vs[i]? = some v → isSl v = true ∧ (S.tok q = some ⟨v, e⟩ ∨ v = .slice none 0 0)) ∧ k vs
 | [], k, h => ⟨[], rfl, by simp, h⟩
 | (q, e) :: l, k, h => by
  obtain ⟨h1, h2⟩ := chk_elim h
  simp only [Bool.and_eq_true] at h1
  obtain ⟨vs, g1, g2, g3⟩ := toksOf_sound h2
  refine ⟨tokVal S q :: vs, by simp [g1], ?_, g3⟩
  intro i q' e' v hi hv
  cases i with
  | zero =>
   simp at hi hv
   obtain ⟨rfl, rfl⟩ := hi
   subst hv
   refine ⟨h1.1, ?_⟩
   unfold tokVal
   cases ht : S.tok q with
   | none => exact .inr rfl
   | some t =>
    left
    have : t.esz = e := by have := h1.2; simp only [ht] at this; exact Nat.eq_of_beq_eq_true this
    cases t; simp at this ⊢; exact this
  | succ i => exact g2 i q' e' v (by simpa using hi) (by simpa using hv)
theorem allCs_elim : ∀ {l : List Nat} {k : List (List Value) → Prop}, allCs l k → ∀ css, css.length = l.length → k css
 | [], k, h, css, hl => by cases css <;> simp_all [allCs]
 | _ :: l, k, h, css, hl => by
  cases css with
  | nil => simp at hl
  | cons c css => exact allCs_elim (h c) css (by simpa using hl)
theorem allTs_elim : ∀ {l : List (Nat × Nat)} {k : List Value → Prop}, allTs l k → ∀ vs, vs.length = l.length → (∀ v ∈ vs, isSl v = true) → k vs
 | [], k, h, vs, hl, _ => by cases vs <;> simp_all [allTs]
 | _ :: l, k, h, vs, hl, hs => by
  cases vs with
  | nil => simp at hl
  | cons v vs =>
   have := isSl_elim (hs v (by simp))
   rw [this]
   exact allTs_elim (h _ _ _) vs (by simpa using hl) (fun u hu => hs u (by simp [hu]))
theorem setVals_in : ∀ {A : List (Nat × Shape)} {xs : List Value} {e : Nat → Option SV} {i : Nat} {sv : SV}, setVals e A xs i = some sv → e i = some sv ∨ ∃ (q : Nat) (sh : Shape) (v : Value), A[q]? = some (i, sh) ∧ xs[q]? = some v ∧ sv = .v v
 | [], xs, e, i, sv, h => .inl (by simpa [setVals] using h)
 | (t, s) :: A, [], e, i, sv, h => .inl (by simpa [setVals] using h)
 | (t, s) :: A, v :: xs, e, i, sv, h => by
  by_cases hi : i = t
  ·subst hi
   simp [setVals] at h
   exact .inr ⟨0, s, v, by simp, by simp, h.symm⟩
  ·simp only [setVals, beq_ne hi, cond_false] at h
   rcases setVals_in h with h1 | ⟨q, sh, u, h1, h2, h3⟩
   ·exact .inl h1
   ·exact .inr ⟨q + 1, sh, u, by simpa using h1, by simpa using h2, h3⟩
theorem setCs_spec : ∀ {l : List Nat} {css : List (List Value)} {L : Nat → Option Box} {id : Nat} {y : Box}, setCs L l css id = some y → (∃ (i : Nat) (x : Box) (cs : List Value), l[i]? = some id ∧ css[i]? = some cs ∧ L id = some x ∧ y = { x with cs := cs }) ∨ ((∀ i, l[i]? = some id → css.length ≤ i) ∧ L id = some y)
 | [], css, L, id, y, h => .inr ⟨by simp, by simpa [setCs] using h⟩
 | d :: l, [], L, id, y, h => .inr ⟨fun i _ => by simp, by simpa [setCs] using h⟩
 | d :: l, cs :: css, L, id, y, h => by
  by_cases hid : id = d
  ·subst hid
   simp only [setCs, beq_same, cond_true] at h
   cases hx : L id with
   | none => simp [hx] at h
   | some x => simp [hx] at h; exact .inl ⟨0, x, cs, by simp, by simp, rfl, h.symm⟩
  ·simp only [setCs, beq_ne hid, cond_false] at h
   rcases setCs_spec h with ⟨i, x, c, h1, h2, h3, h4⟩ | ⟨h1, h2⟩
   ·exact .inl ⟨i + 1, x, c, by simpa using h1, by simpa using h2, h3, h4⟩
   ·refine .inr ⟨fun i hi => ?_, h2⟩
    cases i with
    | zero => simp at hi; exact absurd hi.symm hid
    | succ i => have := h1 i (by simpa using hi); simp; omega
theorem setCs_some : ∀ {l : List Nat} {css : List (List Value)} {L : Nat → Option Box} {id : Nat} {x : Box}, L id = some x → ∃ y, setCs L l css id = some y ∧ y.b = x.b
 | [], css, L, id, x, h => ⟨x, by simpa [setCs] using h, rfl⟩
 | d :: l, [], L, id, x, h => ⟨x, by simpa [setCs] using h, rfl⟩
 | d :: l, cs :: css, L, id, x, h => by
  by_cases hid : id = d
  ·subst hid
   exact ⟨{ x with cs := cs }, by simp [setCs, h], rfl⟩
  ·simp only [setCs, beq_ne hid, cond_false]
   exact setCs_some h
theorem setToks_spec : ∀ {l : List (Nat × Nat)} {vs : List Value} {tk : Nat → Option Tok} {k : Nat} {t : Tok}, setToks tk l vs k = some t → (∃ (i : Nat) (e : Nat) (v : Value), l[i]? = some (k, e) ∧ vs[i]? = some v ∧ t = ⟨v, e⟩) ∨ ((∀ i q, l[i]? = some q → q.1 = k → vs.length ≤ i) ∧ tk k = some t)
 | [], vs, tk, k, t, h => .inr ⟨by simp, by simpa [setToks] using h⟩
 | (q, e) :: l, [], tk, k, t, h => .inr ⟨fun i _ _ _ => by simp, by simpa [setToks] using h⟩
 | (q, e) :: l, v :: vs, tk, k, t, h => by
  by_cases hk : k = q
  ·subst hk
   simp [setToks] at h
   exact .inl ⟨0, e, v, by simp, by simp, h.symm⟩
  ·simp only [setToks, beq_ne hk, cond_false] at h
   rcases setToks_spec h with ⟨i, e', u, h1, h2, h3⟩ | ⟨h1, h2⟩
   ·exact .inl ⟨i + 1, e', u, by simpa using h1, by simpa using h2, h3⟩
   ·refine .inr ⟨fun i p hi hp => ?_, h2⟩
    cases i with
    | zero => simp at hi; subst hi; exact absurd hp.symm hk
    | succ i => have := h1 i p (by simpa using hi) hp; simp; omega
structure StOk (S : St) : Prop where
 env : ∀ i sv, S.env i = some sv → ∃ v, S.den sv = some v
 ids : ∀ id x, S.L id = some x → id ∈ S.ids
 tkeys : ∀ k t, S.tok k = some t → k ∈ S.tkeys
theorem Rel.ok {S : St} (h : Rel C S m a w) : StOk S := ⟨fun i sv he => (h.env i sv he).imp fun v hv => hv.1, h.ids, h.tkeys⟩
theorem havoc_rel {S S' : St} (hS : StOk S) {ds : List Nat} {A : LoopAnn} (hr : Rel C S' m a w) (hfo : S'.fo = S.fo) (hout : SameOut ds S S') (hrest : restOf S' A S.ids = restOf S A S.ids) (htok : restTok S' A S.tkeys = restTok S A S.tkeys)
  {xs : List Value} {css : List (List Value)} {tvs : List Value} (hx : ∀ (i : Nat) t sh v, A.slots[i]? = some (t, sh) → xs[i]? = some v → a.tmps[t]? = some v)
  (hcl : css.length = A.boxes.length) (hc : ∀ (i : Nat) id cs, A.boxes[i]? = some id → css[i]? = some cs → ∃ x, S'.L id = some x ∧ x.cs = cs)
  (htl : tvs.length = A.toks.length) (ht : ∀ (i : Nat) q e v, A.toks[i]? = some (q, e) → tvs[i]? = some v → isSl v = true ∧ (S'.tok q = some ⟨v, e⟩ ∨ v = .slice none 0 0)) : Rel C (havoc S ds A S'.gh xs css tvs) m a w := by
 have hL : ∀ id y, setCs S.L A.boxes css id = some y → S'.L id = some y := by
  intro id y hy
  have hone : ∀ id, id ∈ S.ids → (bif A.boxes.any (Nat.beq id ·) then (match S'.L id with
    | some x => some { x with cs := [] }
    | none => none) else S'.L id) = (bif A.boxes.any (Nat.beq id ·) then (match S.L id with
    | some x => some { x with cs := [] }
    | none => none) else S.L id) := fun id hid => by
   simp only [restOf] at hrest
   exact (List.map_inj_left.1 hrest) id hid
  rcases setCs_spec hy with ⟨i, x, cs, h1, h2, h3, h4⟩ | ⟨h1, h2⟩
  ·obtain ⟨x', g1, g2⟩ := hc i id cs h1 h2
   have := hone id (hS.ids id x h3)
   have hm : A.boxes.any (Nat.beq id ·) = true := any_beq.2 (List.mem_of_getElem? h1)
   simp only [hm, cond_true, g1, h3, Option.some.injEq, Box.mk.injEq, true_and] at this
   rw [g1, h4]
   obtain ⟨e1, e2, e3, e4, e5⟩ := this
   cases x; cases x'
   simp_all
  ·have hm : A.boxes.any (Nat.beq id ·) = false := any_beq_false (fun hmem => by
    obtain ⟨i, hi⟩ := List.getElem?_of_mem hmem
    have h3 := h1 i hi
    have h4 := (List.getElem?_eq_some_iff.1 hi).1
    omega)
   have := hone id (hS.ids id y h2)
   simp only [hm, cond_false] at this
   rw [this, h2]
 have hTk : ∀ k t, setToks S.tok A.toks tvs k = some t → S'.tok k = some t ∨ t.v = .slice none 0 0 := by
  intro k t hk
  have hone : ∀ k, k ∈ S.tkeys → (bif A.toks.any (fun q => Nat.beq k q.1) then none else S'.tok k) = (bif A.toks.any (fun q => Nat.beq k q.1) then none else S.tok k) := fun k hk => by
   simp only [restTok] at htok
   exact (List.map_inj_left.1 htok) k hk
  rcases setToks_spec hk with ⟨i, e, v, h1, h2, h3⟩ | ⟨h1, h2⟩
  ·obtain ⟨g1, g2⟩ := ht i k e v h1 h2
   subst h3
   exact g2.imp id id
  ·left
   have hm : A.toks.any (fun q => Nat.beq k q.1) = false := by
    cases hh : A.toks.any (fun q => Nat.beq k q.1) with
    | false => rfl
    | true =>
     obtain ⟨q, hq, he⟩ := List.any_eq_true.1 hh
     obtain ⟨i, hi⟩ := List.getElem?_of_mem hq
     have h3 := h1 i q hi (Nat.eq_of_beq_eq_true he).symm
     have h4 := (List.getElem?_eq_some_iff.1 hi).1
     omega
   have := hone k (hS.tkeys k t h2)
   simp only [hm, cond_false] at this
   rw [this, h2]
 refine hr.restrict rfl hfo.symm hL hTk ?_ ?_ ?_
 ·intro i sv he
  simp only [havoc] at he
  rcases setVals_in he with h1 | ⟨q, sh, v, h1, h2, h3⟩
  ·cases hi : ds.any (Nat.beq i ·) with
   | true => simp [hi] at h1
   | false =>
    simp only [hi, cond_false] at h1
    have hni : i ∉ ds := fun hm => by rw [any_beq.2 hm] at hi; cases hi
    have h2 : S'.env i = some sv := by rw [hout i hni, h1]
    obtain ⟨v, h3, h4⟩ := hr.env i sv h2
    refine ⟨v, ?_, h4⟩
    cases sv with
    | v u => exact h3
    | loc id off =>
     obtain ⟨v0, h5⟩ := hS.env i _ h1
     simp only [St.den] at h5
     cases hx : S.L id with
     | none => simp [hx] at h5
     | some x =>
      obtain ⟨y, hy, _⟩ := setCs_some (l := A.boxes) (css := css) hx
      have := hL id y hy
      simp only [St.den, this] at h3
      simp only [St.den, havoc, hy]; exact h3
    | sl id n c =>
     obtain ⟨v0, h5⟩ := hS.env i _ h1
     simp only [St.den] at h5
     cases hx : S.L id with
     | none => simp [hx] at h5
     | some x =>
      obtain ⟨y, hy, _⟩ := setCs_some (l := A.boxes) (css := css) hx
      have := hL id y hy
      simp only [St.den, this] at h3
      simp only [St.den, havoc, hy]; exact h3
  ·subst h3
   exact ⟨v, rfl, hx q i sh v h1 h2⟩
 ·intro id y hy
  simp only [havoc] at hy ⊢
  rcases setCs_spec hy with ⟨i, x, cs, h1, h2, h3, h4⟩ | ⟨h1, h2⟩
  ·exact hS.ids id x h3
  ·exact hS.ids id y h2
 ·intro k t hk
  simp only [havoc] at hk ⊢
  rcases setToks_spec hk with ⟨i, e, v, h1, h2, h3⟩ | ⟨h1, h2⟩
  ·exact List.mem_append_left _ (List.mem_map.2 ⟨(k, e), List.mem_of_getElem? h1, rfl⟩)
  ·exact List.mem_append_right _ (hS.tkeys k t h2)
end
theorem Rel.lessMem {C : Ctx} {S : St} {m m1 : Mem} {a : Act} {w : World} (h : Rel C S m a w) (hm : m1.le m) (h0 : C.me.le m1) (hk : ∀ id x, S.L id = some x → x.fz = true → ∀ o, m1 x.b o = m x.b o) : Rel C S m1 a w := by
 have hnone : ∀ b o, m b o = none → m1 b o = none := fun b o hn => by
  cases he : m1 b o with
  | none => rfl
  | some v => have := hm _ _ _ he; rw [hn] at this; cases this
 refine ⟨h.defers, h.size, h.env, fun id x hx => ?_, h.apart, h.ids, fun k t ht => ?_, h.tkeys, h.tapart, h.sub.less hm, h0, ?_, h.fo⟩
 ·obtain ⟨g1, g2, g3, g4⟩ := h.own id x hx
  exact ⟨g1, fun hz o => hnone _ _ (g2 hz o), fun hz j u hu => by rw [hk id x hx hz]; exact g3 hz j u hu, g4⟩
 ·obtain ⟨g1, g2⟩ := h.toks k t ht
  exact ⟨g1.same (fun b _ => rfl) (fun b o _ => hnone b o), g2⟩
 ·obtain ⟨M, hd⟩ := h.dom
  exact ⟨M, hd.p, hd.lt, hd.own, hd.tok, hd.mks, hd.new.less hm⟩
theorem Rel.acq {E : Env} {C : Ctx} (hY : YOk E C) {mm : Mem} (hm0 : E.m0 = some mm) {S : St} {m : Mem} {a : Act} {w : World} (hr : Rel C S m a w) (hfo : S.fo = false) {key esz : Nat} {p : Option Addr} {n c : Nat} (h1 : AcqM m mm esz p n c)
  (h2 : ∀ b, (Tok.mk (.slice p n c) esz).blk = some b → nfz S b S.ids (ntk S b [key] S.tkeys)) :
  Rel C { S with tok := fun k => bif Nat.beq k key then some ⟨.slice p n c, esz⟩ else S.tok k, tkeys := key :: S.tkeys } (m.cutA p (n * esz)) a w := by
 obtain ⟨hC0, hW⟩ := hY.m0 mm hm0
 have hC0 : C.me = mm := (hr.fo hfo).trans hC0
 rcases h1 with ⟨rfl, rfl, rfl⟩ | ⟨b, rfl, hnc, hpos, hkn, hfr⟩
 ·exact hr.tokNil key _ rfl
 ·obtain ⟨q1, q2⟩ := nfz_spec (h2 b rfl)
  have hle : (m.cutA (some ⟨b, 0, none⟩) (n * esz)).le m := ⟨fun b' o v hv => by
   simp only [Mem.cutA] at hv
   split at hv
   ·cases hv
   ·exact hv, fun _ _ h => h⟩
  have hoth : ∀ b', b' ≠ b → ∀ o, m.cutA (some ⟨b, 0, none⟩) (n * esz) b' o = m b' o := fun b' hb o => by simp [Mem.cutA, hb]
  have hfz : ∀ id x, S.L id = some x → x.b ≠ b := fun id x hx e => by
   have ho := hr.own id x hx
   cases hz : x.fz with
   | true => exact q2 id x (hr.ids id x hx) hx hz e
   | false =>
    obtain ⟨v, hv⟩ := hkn 0 hpos
    have := ho.free hz 0
    rw [e, hv] at this; cases this
  have hr1 : Rel C S (m.cutA (some ⟨b, 0, none⟩) (n * esz)) a w := hr.lessMem hle ⟨fun b' o v hv => by
   by_cases hb : b' = b
   ·subst hb; rw [hC0] at hv; rw [hfr o] at hv; cases hv
   ·rw [hoth b' hb]; exact hr.le _ _ _ hv, fun b e he => hr.le.k b e he⟩ (fun id x hx _ o => hoth _ (hfz id x hx) o)
  obtain ⟨v0, hv0⟩ := hkn 0 hpos
  have hM : ∀ M, Dom C S m a w M → M b := fun M hd => (hd.new b 0 v0 hv0).resolve_left fun h => by rw [hC0, hfr 0] at h; cases h
  have hcell : ∀ o, o < c * esz → ∃ v, w.cell? ⟨b, o, none⟩ = some v := fun o ho => by
   obtain ⟨v, hv⟩ := hkn o ho
   exact ⟨v, hr.sub _ _ _ hv⟩
  obtain ⟨cur, T, fr, hh⟩ : ∃ cur T fr, w.heap[b]? = some (.cells cur T fr) := by
   obtain ⟨v, hv⟩ := hcell 0 hpos
   unfold World.cell? at hv
   cases hh : w.heap[b]? with
   | none => simp [hh] at hv
   | some ob =>
    cases ob <;> simp [hh] at hv
    exact ⟨_, _, _, rfl⟩
  have hsz : c * esz ≤ cur.size := by
   obtain ⟨v, hv⟩ := hcell (c * esz - 1) (by omega)
   simp only [World.cell?, hh] at hv
   simp at hv
   have := (Array.getElem?_eq_some_iff.1 hv).1
   omega
  obtain ⟨M, hd⟩ := hr.dom
  have hwr : Wr w b := hW _ _ _ hd.p b (hM M hd)
  refine hr1.tokUpd key _ (.inr ⟨b, 0, n, c, cur, T, fr, rfl, hnc, hh, by rw [Nat.zero_add]; exact hsz, hwr cur T fr hh, fun o ho _ => by rw [Nat.zero_add] at ho; simp [Mem.cutA, ho]⟩) (fun b' hb' => ?_) ?_
  ·have : b' = b := by simp [Tok.blk] at hb'; exact hb'.symm
   subst this
   exact ⟨⟨hfz, by rw [hC0]; exact hfr⟩, fun k' t' hne ht' => ntk_spec q1 k' t' (hr.tkeys k' t' ht') ht' (by simpa using hne)⟩
  ·obtain ⟨M1, hd1⟩ := hr1.dom
   refine ⟨M, ⟨hd.p, hd.lt, hd.own, hd.tok, hd.mks, hd.new.less hle⟩, fun b' hb' => ?_⟩
   have : b' = b := by simp [Tok.blk] at hb'; exact hb'.symm
   subst this
   exact hM M hd
theorem Rel.unacq {C : Ctx} {S : St} {m : Mem} {a : Act} {w : World} (hr : Rel C S m a w) {key : Nat} {t : Tok} (ht : S.tok key = some t) :
  ∃ zs : List Value, zs.length = (slC t.v - slN t.v) * t.esz ∧ Rel C { S with tok := fun k => bif Nat.beq k key then none else S.tok k } (m.addA (slA t.v) (slN t.v * t.esz) zs) a w := by
 have hr1 : Rel C { S with tok := fun k => bif Nat.beq k key then none else S.tok k } m a w := by
  refine hr.restrict rfl rfl (fun _ _ hx => hx) (fun k t' hk => ?_) (fun i sv he => ?_) hr.ids (fun k t' hk => ?_)
  ·by_cases e : k = key
   ·subst e; simp at hk
   ·simp [beq_ne e] at hk; exact .inl hk
  ·obtain ⟨v, h1, h2⟩ := hr.env i sv he
   exact ⟨v, by cases sv <;> exact h1, h2⟩
  ·by_cases e : k = key
   ·subst e; simp at hk
   ·simp [beq_ne e] at hk; exact hr.tkeys k t' hk
 obtain ⟨g1, g2⟩ := hr.toks key t ht
 rcases g1 with g1 | ⟨b, o0, n, c, cur, T, fr, hv, hnc, hh, hsz, hfro, hroom⟩
 ·rw [g1]
  exact ⟨[], by simp [slC, slN], hr1⟩
 ·have hbk : t.blk = some b := by simp [Tok.blk, hv]
  rw [hv]
  simp only [slC, slN, slA]
  have hce : c * t.esz = n * t.esz + (c - n) * t.esz := by rw [← Nat.add_mul]; congr 1; omega
  obtain ⟨P0, hP0⟩ : ∃ P0, P0 = o0 + n * t.esz := ⟨_, rfl⟩
  refine ⟨(cur.toList.drop P0).take ((c - n) * t.esz), by simp; omega, ?_⟩
  simp only [Mem.addA]
  rw [← hP0] at hroom ⊢
  obtain ⟨zs, hzs⟩ : ∃ zs, zs = (cur.toList.drop (P0)).take ((c - n) * t.esz) := ⟨_, rfl⟩
  rw [← hzs]
  have hzc : ∀ q v, zs[q]? = some v → cur[P0 + q]? = some v := fun q v hq => by
   rw [hzs, List.getElem?_take] at hq
   split at hq
   ·rw [List.getElem?_drop] at hq; simpa using hq
   ·cases hq
  have hle : m.le (m.addAt b (P0) zs) := ⟨fun b' o v hv' => by
   simp only [Mem.addAt]
   split
   ·rename_i hc
    obtain ⟨rfl, ho⟩ := hc
    cases hz : zs[o - P0]? with
    | none => simp only [hz]; exact hv'
    | some u =>
     have hq := (List.getElem?_eq_some_iff.1 hz).1
     rw [hzs, List.length_take] at hq
     rw [hroom o ho (by omega)] at hv'; cases hv'
   ·exact hv', fun _ _ h => h⟩
  have hoth : ∀ b', b' ≠ b → ∀ o, m.addAt b (P0) zs b' o = m b' o := fun b' hb o => by simp [Mem.addAt, hb]
  have hnb : ∀ id x, S.L id = some x → x.b ≠ b := (g2 b hbk).1
  refine ⟨hr1.defers, hr1.size, hr1.env, fun id x hx => ?_, hr1.apart, hr1.ids, fun k t' hk => ?_, hr1.tkeys, hr1.tapart, ⟨fun b' o v hv' => ?_, hr.sub.k⟩, mLt hr1.le hle, ?_, hr1.fo⟩
  ·obtain ⟨q1, q2, q3, q4⟩ := hr.own id x hx
   exact ⟨q1, fun hz o => by rw [hoth _ (hnb id x hx)]; exact q2 hz o, fun hz j u hu => hle _ _ _ (q3 hz j u hu), q4⟩
  ·obtain ⟨q1, q2⟩ := hr1.toks k t' hk
   refine ⟨q1.same (fun b' _ => rfl) (fun b' o hb' hn => ?_), q2⟩
   have hne : b' ≠ b := fun e => by
    subst e
    by_cases e : k = key
    ·subst e; simp at hk
    ·simp [beq_ne e] at hk
     exact e (hr.tapart k key t' t _ hk ht hb' hbk)
   rw [hoth b' hne]; exact hn
  ·by_cases hb : b' = b
   ·subst hb
    simp only [Mem.addAt] at hv'
    by_cases ho : P0 ≤ o
    ·simp only [ho, and_self, if_true] at hv'
     cases hz : zs[o - P0]? with
     | none => simp only [hz] at hv'; exact hr.sub _ _ _ hv'
     | some u =>
      simp only [hz] at hv'; cases hv'
      have := hzc _ _ hz
      rw [show P0 + (o - P0) = o by omega] at this
      simp only [World.cell?, hh]
      simpa using this
    ·simp only [ho, and_false, if_false] at hv'; exact hr.sub _ _ _ hv'
   ·rw [hoth b' hb] at hv'; exact hr.sub _ _ _ hv'
  ·obtain ⟨M, hd⟩ := hr.dom
   refine ⟨M, hd.p, hd.lt, hd.own, fun k t' b' hk hb' => ?_, hd.mks, hd.new.addAt _ (hd.tok key t _ ht hbk)⟩
   ·by_cases e : k = key
    ·subst e; simp at hk
    ·simp [beq_ne e] at hk; exact hd.tok k t' b' hk hb'
theorem acq_use {E : Env} {C : Ctx} (hY : YOk E C) {kz : Option (Nat × Nat)} {f : (St → Mem → Prop) → St → Mem → Prop} {K : St → Mem → Prop} {S : St} {m : Mem} {a : Act} {w : World} {p : Prop} (hr : Rel C S m a w) (h : acqW E kz f K S m)
  (hf : ∀ (K' : St → Mem → Prop) S' m', Rel C S' m' a w → f K' S' m' → (∀ S2 m2 a2 w2, K' S2 m2 → Rel C S2 m2 a2 w2 → ∃ S3 m3, K S3 m3 ∧ Rel C S3 m3 a2 w2) → p) : p := by
 unfold acqW at h
 split at h
 ·exact hf _ _ _ hr h fun S2 m2 a2 w2 hk hrel => ⟨S2, m2, hk, hrel⟩
 ·rename_i key esz
  obtain ⟨h3, h4⟩ := chk_elim h
  cases hm0 : E.m0 with
  | none => simp [hm0] at h4
  | some mm =>
   simp only [hm0] at h4
   obtain ⟨z0, q, n', c, z1, z2, z3⟩ := h4
   refine hf _ _ _ (hr.acq hY hm0 z0 z1 z2) z3 fun S2 m2 a2 w2 hk hrel => ?_
   split at hk
   ·exact hk.elim
   ·rename_i t ht
    obtain ⟨hk1, hk2⟩ := chk_elim hk
    obtain ⟨zs, hz1, hz2⟩ := hrel.unacq ht
    exact ⟨_, _, hk2 zs hz1, hz2⟩
end Go.Eng
namespace Go.Eng
open Go Go.RowKit
theorem setVals_in2 : ∀ {A : List (Nat × Shape)} {xs : List Value} {e : Nat → Option SV} {i : Nat} {sv : SV}, xs.length = A.length → setVals e A xs i = some sv → (e i = some sv ∧ i ∉ A.map (·.1)) ∨ ∃ (q : Nat) (sh : Shape) (v : Value), A[q]? = some (i, sh) ∧ xs[q]? = some v ∧ sv = .v v
 | [], xs, e, i, sv, _, h => .inl ⟨by simpa [setVals] using h, by simp⟩
 | (t, s) :: A, [], e, i, sv, hl, h => by simp at hl
 | (t, s) :: A, v :: xs, e, i, sv, hl, h => by
  by_cases hi : i = t
  ·subst hi
   simp [setVals] at h
   exact .inr ⟨0, s, v, by simp, by simp, h.symm⟩
  ·simp only [setVals, beq_ne hi, cond_false] at h
   rcases setVals_in2 (by simpa using hl) h with ⟨h1, h2⟩ | ⟨q, sh, u, h1, h2, h3⟩
   ·exact .inl ⟨h1, by simp only [List.map_cons, List.mem_cons, not_or]; exact ⟨hi, h2⟩⟩
   ·exact .inr ⟨q + 1, sh, u, by simpa using h1, by simpa using h2, h3⟩
theorem fold_params : ∀ (ps : List Nat) (vs : List Value) (t : Array Value), vs.length = ps.length → ps.Nodup →
  ((ps.zip vs).foldl (fun (t : Array Value) (x : Nat × Value) => t.setIfInBounds x.1 x.2) t).size = t.size ∧
  (∀ i, i ∉ ps → ((ps.zip vs).foldl (fun (t : Array Value) (x : Nat × Value) => t.setIfInBounds x.1 x.2) t)[i]? = t[i]?) ∧
  (∀ (q i : Nat) (v : Value), ps[q]? = some i → vs[q]? = some v → i < t.size → ((ps.zip vs).foldl (fun (t : Array Value) (x : Nat × Value) => t.setIfInBounds x.1 x.2) t)[i]? = some v)
 | [], vs, t, _, _ => ⟨rfl, fun _ _ => rfl, fun q i v h => by simp at h⟩
 | p :: ps, [], t, h, _ => by simp at h
 | p :: ps, v :: vs, t, h, hn => by
  obtain ⟨hp, hn⟩ := List.nodup_cons.1 hn
  obtain ⟨h1, h2, h3⟩ := fold_params ps vs (t.setIfInBounds p v) (by simpa using h) hn
  simp only [List.zip_cons_cons, List.foldl_cons]
  refine ⟨by simpa using h1, fun i hi => ?_, fun q i u hq hu hlt => ?_⟩
  ·simp only [List.mem_cons, not_or] at hi
   rw [h2 i hi.2, Array.getElem?_setIfInBounds_ne (Ne.symm hi.1)]
  ·cases q with
   | zero =>
    simp at hq hu
    subst hq hu
    rw [h2 p hp]
    simp [hlt]
   | succ q => exact h3 q i u (by simpa using hq) (by simpa using hu) (by simpa using hlt)
theorem natsEq_spec : ∀ {a b : List Nat}, natsEq a b = true → a = b
 | [], [], _ => rfl
 | [], _ :: _, h => by simp [natsEq] at h
 | _ :: _, [], h => by simp [natsEq] at h
 | x :: a, y :: b, h => by
  simp only [natsEq, Bool.and_eq_true] at h
  rw [Nat.eq_of_beq_eq_true h.1, natsEq_spec h.2]
theorem fitsL_length : ∀ {l : List Shape} {x : List Value}, Shape.fitsL l x = true → x.length = l.length
 | [], [], _ => rfl
 | [], _ :: _, h => by simp [Shape.fitsL] at h
 | _ :: _, [], h => by simp [Shape.fitsL] at h
 | _ :: l, _ :: x, h => by
  simp only [Shape.fitsL, Bool.and_eq_true] at h
  simp [fitsL_length h.2]
section
variable {C : Ctx} {S : St} {m : Mem} {a : Act} {w w' : World} {M M' : Nat → Prop}
structure Apart (M' : Nat → Prop) (S : St) (m : Mem) (a : Act) : Prop where
 box : ∀ id x, S.L id = some x → ¬ M' x.b
 tok : ∀ k t b, S.tok k = some t → t.blk = some b → ¬ M' b
 mks : ∀ D, mark D ∈ a.defers → ¬ M' D
 mem : ∀ b o v, m b o = some v → ¬ M' b
 kn : ∀ b e, m.k b = some e → ¬ M' b
theorem Rel.markAt (h : Rel C S m a w) {D : Nat} (hD : mark D ∈ a.defers) : w.heap[D]? = some (.deferred (some [])) := by
 obtain ⟨ms, h1, h2, h3⟩ := h.defers
 rw [h1] at hD
 obtain ⟨D', h4, h5⟩ := List.mem_map.1 hD
 have : D' = D := by simpa [mark] using h5
 exact this ▸ h3 D' h4
theorem Rel.foreign (h : Rel C S m a w) (hd : Dom C S m a w M) (hM : ∀ k, M' k → M k) (hap : Apart M' S m a) (hu : Upd M' w w') : Rel C S m a w' ∧ Dom C S m a w' (grow M w w') := by
 have hd' : Dom C S m a w' (grow M w w') := hd.step ⟨hu.os, hu.tape, hu.output, hu.size, fun k hk hn => hu.block k hk (fun hm => hn (hM k hm)), hu.wr⟩ (NewM.refl _ _)
 refine ⟨⟨?_, h.size, h.env, fun id x hx => ?_, h.apart, h.ids, fun k t ht => ?_, h.tkeys, h.tapart, ⟨fun b o v hv => ?_, fun b e he => (h.sub.k b e he).same (hu.block b (h.sub.k b e he).lt (hap.kn b e he))⟩, h.le, ⟨_, hd'⟩, h.fo⟩, hd'⟩
 ·obtain ⟨ms, h1, h2, h3⟩ := h.defers
  refine ⟨ms, h1, h2, fun D hD => ?_⟩
  rw [hu.block D (Array.getElem?_eq_some_iff.1 (h3 D hD)).1 (hap.mks D (by rw [h1]; exact List.mem_map.2 ⟨D, hD, rfl⟩))]; exact h3 D hD
 ·exact (h.own id x hx).same (hu.block _ (h.own id x hx).lt (hap.box id x hx)) (Mem.le_refl m) (h.own id x hx).free
 ·obtain ⟨h1, h2⟩ := h.toks k t ht
  exact ⟨h1.same (fun b hb => hu.block b (h1.lt hb) (hap.tok k t b ht hb)) (fun _ _ _ hn => hn), h2⟩
 ·rw [cell?_eq (hu.block b (h.sub.lt hv) (hap.mem b o v hv))]; exact h.sub b o v hv
def isMem : Obj → Bool
 | .cells _ _ _ => true
 | .map _ _ => true
 | _ => false
theorem mem_ne_loop {w : World} {k l : Nat} {o : Obj} {r : Loop} (h : w.heap[k]? = some o) (hm : isMem o = true) (hl : w.heap[l]? = some (.loop r)) : k ≠ l := fun e => by subst e; rw [h] at hl; cases hl; cases hm
theorem Rel.swap {C2 : Ctx} {S2 : St} {a2 : Act} (h : Rel C S m a w) (hn : C2.n = C.n) (hm : C2.me.le m) (hL : S2.L = S.L) (hids : S2.ids = S.ids) (htok : S2.tok = S.tok) (htk : S2.tkeys = S.tkeys)
  (henv : ∀ i sv, S2.env i = some sv → ∃ v, S2.den sv = some v ∧ a2.tmps[i]? = some v) (hsz : a2.tmps.size = C2.n)
  (hdef : ∃ ms : List Nat, a2.defers = ms.map mark ∧ ms.Nodup ∧ ∀ D ∈ ms, w'.heap[D]? = some (.deferred (some [])))
  (hsame : ∀ (k : Nat) (o : Obj), w.heap[k]? = some o → isMem o = true → w'.heap[k]? = w.heap[k]?) (hfree : ∀ k t b, S.tok k = some t → t.blk = some b → C2.me.free b) (hfo : S2.fo = false → C2.me = C2.m0) (hd : ∃ M, Dom C2 S2 m a2 w' M) : Rel C2 S2 m a2 w' := by
 refine ⟨hdef, hsz, henv, fun id x hx => ?_, fun id id' x x' hx hx' => ?_, fun id x hx => ?_, fun k t ht => ?_, fun k t ht => ?_, fun k k' t t' b ht ht' => ?_, ⟨fun b o v hv => ?_, fun b e he => ?_⟩, hm, hd, hfo⟩
 ·rw [hL] at hx
  have ho := h.own id x hx
  obtain ⟨sp, fr, hc, _⟩ := ho.cells
  exact ho.same (hsame _ _ hc rfl) (Mem.le_refl m) ho.free
 ·rw [hL] at hx hx'; exact h.apart id id' x x' hx hx'
 ·rw [hL] at hx; rw [hids]; exact h.ids id x hx
 ·rw [htok] at ht
  obtain ⟨h1, h2⟩ := h.toks k t ht
  refine ⟨h1.same (fun b hb => ?_) (fun _ _ _ hn => hn), fun b hb => ⟨fun id x hx => ?_, ?_⟩⟩
  ·rcases h1 with h1 | ⟨b', o0, n, c, cur, T, fr, hv, _, hh, _⟩
   ·simp [Tok.blk, h1] at hb
   ·simp [Tok.blk, hv] at hb; subst hb; exact hsame _ _ hh rfl
  ·rw [hL] at hx; exact (h2 b hb).1 id x hx
  ·exact hfree k t b ht hb
 ·rw [htok] at ht; rw [htk]; exact h.tkeys k t ht
 ·rw [htok] at ht ht'; exact h.tapart k k' t t' b ht ht'
 ·have h1 := h.sub b o v hv
  have : ∃ c T fr, w.heap[b]? = some (Obj.cells c T fr) := by
   unfold World.cell? at h1
   split at h1
   ·rename_i c T fr hc; exact ⟨c, T, fr, hc⟩
   ·cases h1
  obtain ⟨c, T, fr, hc⟩ := this
  rw [cell?_eq (hsame _ _ hc rfl)]; exact h1
 ·obtain ⟨es, cl, h1, h2⟩ := h.sub.k b e he
  exact ⟨es, cl, (hsame _ _ h1 rfl).trans h1, h2⟩
end
def rctxM (C : Ctx) (X : Nat → Prop) (h : Nat → Option Obj) (B : Nat) (me : Mem) (hme : C.m0.le me) : Ctx where
 n := C.n
 m0 := C.m0
 me := me
 mle := hme
 p := fun g Mr w => ∃ M, C.p g M w ∧ (∀ k, M k → k < w.heap.size) ∧ (∀ k, Mr k → M k) ∧ (∀ k, X k → M k ∧ ¬ Mr k ∧ w.heap[k]? = h k) ∧ B ≤ w.heap.size
 st := by
  rintro g Mr M2 w w' ⟨M, h1, h2, h3, h4, h5⟩ hu hg
  refine ⟨grow M w w', C.st g M _ w w' h1 ⟨hu.os, hu.tape, hu.output, hu.size, fun k hk hn => hu.block k hk (fun hm => hn (h3 k hm)), hu.wr⟩ (fun _ hk => hk), ?_, ?_, ?_, Nat.le_trans h5 hu.size⟩
  ·rintro k (hk | hk)
   ·exact Nat.lt_of_lt_of_le (h2 k hk) hu.size
   ·exact hk.2.1
  ·intro k hk
   exact (hg k hk).imp_left (h3 k)
  ·intro k hk
   obtain ⟨g1, g2, g3⟩ := h4 k hk
   have hlt := h2 k g1
   refine ⟨.inl g1, fun hm => ?_, ?_⟩
   ·rcases hg k hm with h | h
    ·exact g2 h
    ·omega
   ·rw [hu.block k hlt g2]; exact g3
abbrev rctx (C : Ctx) (X : Nat → Prop) (h : Nat → Option Obj) (B : Nat) : Ctx := rctxM C X h B C.me C.mle
theorem rctx_yok {E : Env} {C : Ctx} {X : Nat → Prop} {h : Nat → Option Obj} {B : Nat} (hY : YOk E C) {me : Mem} {hme : C.m0.le me} (hle : C.me.le me) (hnw : NewM C.me me X) : YOk E (rctxM C X h B me hme) := by
 have key : ∀ {M : Nat → Prop} {w w' : World}, (∀ k, M k → k < w.heap.size) → (∀ k, X k → M k ∧ True) → Sub me w → Frn C.me M w w' → Sub me w' := fun {M w w'} h2 h4 hs hf => ⟨fun b o v hv => by
  rcases hnw.c b o v hv with h | h
  ·exact hf.sub.c b o v h
  ·rw [cell?_eq (hf.block b (h2 b (h4 b h).1) (h4 b h).1)]; exact hs.c b o v hv, fun b e he => by
  rcases hnw.k b e he with h | h
  ·exact hf.sub.k b e h
  ·exact (hs.k b e he).same (hf.block b (h2 b (h4 b h).1) (h4 b h).1)⟩
 refine ⟨?_, ?_, fun mm hmm => ⟨(hY.m0 mm hmm).1, fun g Mr w ⟨M, h1, h2, h3, h4, h5⟩ k hk => (hY.m0 mm hmm).2 g M w h1 k (h3 k hk)⟩⟩
 rotate_left
 ·rintro Y hYe F n l g v Mr w mi hF hlt hy hmi hnew ⟨M, h1, h2, h3, h4, h5⟩ hs
  obtain ⟨fn, tmps, asg, bdy, hrn, hround⟩ := hY.yY Y hYe F n l g v M w mi hF h2 hy (mLt hle hmi) ⟨fun b o u hu => by
   rcases hnew.c b o u hu with h | h
   ·exact (hnw.c b o u h).imp_right fun h => (h4 b h).1
   ·exact .inr (h3 b h), fun b e he => by
   rcases hnew.k b e he with h | h
   ·exact (hnw.k b e h).imp_right fun h => (h4 b h).1
   ·exact .inr (h3 b h)⟩ h1 hs
  refine ⟨fn, tmps, asg, bdy, hrn, hround.mono ?_⟩
  rintro e w' ⟨rfl, hp, hf⟩
  refine ⟨rfl, ⟨M, hp, fun k hk => Nat.lt_of_lt_of_le (h2 k hk) hf.size, h3, fun k hk => ?_, Nat.le_trans h5 hf.size⟩, hf.size, fun k hk hm => hf.block k hk (h3 k hm), key h2 (fun k hk => ⟨(h4 k hk).1, trivial⟩) (hs.less hmi) hf⟩
  obtain ⟨g1, g2, g3⟩ := h4 k hk
  exact ⟨g1, g2, by rw [hf.block k (h2 k g1) g1]; exact g3⟩
 rintro Y hYe F n l g v Mr w hF hlt hy ⟨M, h1, h2, h3, h4, h5⟩ hs
 obtain ⟨fn, tmps, asg, bdy, hrn, hround⟩ := hY.y Y hYe F n l g v M w hF h2 hy h1 (hs.less hle)
 refine ⟨fn, tmps, asg, bdy, hrn, hround.mono ?_⟩
 rintro e w' ⟨b, rfl, hp, hf⟩
 refine ⟨b, rfl, ⟨M, hp, fun k hk => Nat.lt_of_lt_of_le (h2 k hk) hf.size, h3, fun k hk => ?_, Nat.le_trans h5 hf.size⟩, hf.size, fun k hk hm => hf.block k hk (h3 k hm), key h2 (fun k hk => ⟨(h4 k hk).1, trivial⟩) hs hf⟩
 obtain ⟨g1, g2, g3⟩ := h4 k hk
 exact ⟨g1, g2, by rw [hf.block k (h2 k g1) g1]; exact g3⟩
def ROk (F : Fence) (C : Ctx) : Prop := ∀ l, F.round = some l → ∀ g M w, C.p g M w → ∃ r, w.heap[l]? = some (.loop r)
end Go.Eng
namespace Go.Eng
open Go Go.RowKit
def notCells : Obj → Bool
 | .cells _ _ _ => false
 | _ => true
theorem wrObj_not {o : Obj} (h : notCells o = true) : wrObj o := fun c T fr e => by subst e; simp [notCells] at h
theorem putObj_upd {M : Nat → Prop} {w : World} {l : Nat} {o : Obj} (ho : notCells o = true) (hl : M l) : Upd M w (w.putObj l o) :=
 ⟨rfl, rfl, rfl, by simp [World.putObj], fun k hk hn => World.putObj_heap_other (fun e => hn (e ▸ hl)), fun k _ hk c T fr hh i hi => by
  by_cases e : k = l
  ·subst e
   by_cases hlt : k < w.heap.size
   ·rw [World.putObj_heap_same hlt] at hh
    exact wrObj_not ho c T fr (Option.some.inj hh) i hi
   ·have h1 := (Array.getElem?_eq_some_iff.1 hh).1
    have h2 : (w.putObj k o).heap.size = w.heap.size := by simp [World.putObj]
    omega
  ·rw [World.putObj_heap_other e] at hh; exact hk c T fr hh i hi⟩
theorem putObj_size (w : World) (l : Nat) (o : Obj) : (w.putObj l o).heap.size = w.heap.size := by simp [World.putObj]
theorem FOk.inRound {F : Fence} (h : FOk F) (l : Nat) : FOk (F.inRound l) := by
 rcases h with rfl | ⟨l', rfl⟩
 ·exact .inr ⟨l, rfl⟩
 ·exact .inr ⟨l, rfl⟩
section
variable {C : Ctx} {S : St} {m : Mem} {a : Act} {w w' : World} {M M' : Nat → Prop}
theorem Rel.alloc (h : Rel C S m a w) (hd : Dom C S m a w M) {o : Obj} (ho : notCells o = true) : Rel C S m a (w.alloc o) ∧ Dom C S m a (w.alloc o) (grow M w (w.alloc o)) := by
 have hk : Keep w.heap.size [] w (w.alloc o) := Keep.alloc (Nat.le_refl _) (wrObj_not ho)
 refine ⟨h.world hk (h.sub.alloc _) (Mem.le_refl m) (NewM.refl _ _), hd.step (hk.upd (by simp)) (NewM.refl _ _)⟩
theorem grow_alloc (M : Nat → Prop) (w : World) (o : Obj) (ho : wrObj o) : grow M w (w.alloc o) w.heap.size := .inr ⟨Nat.le_refl _, by simp, Wr.new ho⟩
theorem Rel.enter {P : Program} (hr : Rel C S m a w) {F : Fence} (hR : ROk F C) (fn : FuncId) (ps : Array Tmp) (asg bdy : Code) :
  ∃ l mk w1 D, (Instr.enterLoop fn a.tmps ps asg bdy F.round).run P w = .ok (l, mk) w1 ∧ Rel C S m { a with defers := mk ++ a.defers } w1 ∧ (∃ M, Dom C S m { a with defers := mk ++ a.defers } w1 M ∧ M l) ∧
   w1.heap[l]? = some (.loop { state := .ready, pending := none, fn, tmps := a.tmps, params := ps, assign := asg, body := bdy, defers := D }) := by
 obtain ⟨M, hd⟩ := hr.dom
 cases hro : F.round with
 | none =>
  obtain ⟨h1, d1⟩ := hr.alloc hd (o := .deferred (some [])) rfl
  obtain ⟨h2, d2⟩ := h1.alloc d1 (o := .loop { state := .ready, pending := none, fn, tmps := a.tmps, params := ps, assign := asg, body := bdy, defers := w.heap.size }) rfl
  have e1 : (w.alloc (.deferred (some []))).heap.size = w.heap.size + 1 := by simp
  have g1 : ((w.alloc (.deferred (some []))).alloc (.loop { state := .ready, pending := none, fn, tmps := a.tmps, params := ps, assign := asg, body := bdy, defers := w.heap.size })).heap[w.heap.size]? = some (.deferred (some [])) := by
   rw [Below.heap_alloc _ _ _ (by simp)]; exact heap_alloc_new w _
  refine ⟨_, _, _, w.heap.size, run_enterLoop_outer _ _ _ _ _, ?_, ?_, ?_⟩
  ·obtain ⟨ms, k1, k2, k3⟩ := h2.defers
   have hD : ∃ M, Dom C S m { a with defers := [mark w.heap.size] ++ a.defers } ((w.alloc (.deferred (some []))).alloc (.loop { state := .ready, pending := none, fn, tmps := a.tmps, params := ps, assign := asg, body := bdy, defers := w.heap.size })) M :=
    ⟨_, d2.p, d2.lt, d2.own, d2.tok, fun D hD => by
     simp only [List.singleton_append, List.mem_cons] at hD
     rcases hD with hD | hD
     ·have : D = w.heap.size := by simpa [mark] using hD
      subst this
      exact .inl (grow_alloc _ _ _ (fun c T fr e => by cases e))
     ·exact d2.mks D hD, d2.new⟩
   refine ⟨⟨w.heap.size :: ms, by simp [k1, mark], ?_, ?_⟩, h2.size, h2.env, h2.own, h2.apart, h2.ids, h2.toks, h2.tkeys, h2.tapart, h2.sub, h2.le, hD, h2.fo⟩
   ·refine List.nodup_cons.2 ⟨fun hm => ?_, k2⟩
    obtain ⟨ms', q1, q2, q3⟩ := hr.defers
    have : w.heap.size ∈ ms' := by
     have e : mark w.heap.size ∈ a.defers := by
      have : a.defers = ms.map mark := k1
      rw [this]; exact List.mem_map.2 ⟨_, hm, rfl⟩
     rw [q1] at e
     obtain ⟨D', r1, r2⟩ := List.mem_map.1 e
     have : D' = w.heap.size := by simpa [mark] using r2
     exact this ▸ r1
    have := (Array.getElem?_eq_some_iff.1 (q3 _ this)).1
    omega
   ·intro D hD
    rcases List.mem_cons.1 hD with rfl | hD
    ·exact g1
    ·exact k3 D hD
  ·refine ⟨_, ⟨d2.p, d2.lt, d2.own, d2.tok, fun D hD => ?_, d2.new⟩, by rw [← e1]; exact grow_alloc _ _ _ (fun c T fr e => by cases e)⟩
   simp only [List.singleton_append, List.mem_cons] at hD
   rcases hD with hD | hD
   ·have : D = w.heap.size := by simpa [mark] using hD
    subst this
    exact .inl (grow_alloc _ _ _ (fun c T fr e => by cases e))
   ·exact d2.mks D hD
  ·rw [← e1]; exact heap_alloc_new _ _
 | some l0 =>
  obtain ⟨r0, h0⟩ := hR l0 hro _ _ _ hd.p
  obtain ⟨h1, d1⟩ := hr.alloc hd (o := .loop { state := .ready, pending := none, fn, tmps := a.tmps, params := ps, assign := asg, body := bdy, defers := r0.defers }) rfl
  exact ⟨_, _, _, r0.defers, run_enterLoop_inner h0 _ _ _ _ _, h1, ⟨_, d1, grow_alloc _ _ _ (fun c T fr e => by cases e)⟩, heap_alloc_new _ _⟩
theorem den_havoc {S : St} {ds : List Nat} {A : LoopAnn} {g : Int} {xs : List Value} {css : List (List Value)} {tvs : List Value} {sv : SV} {v : Value} (h : S.den sv = some v) : (havoc S ds A g xs css tvs).den sv = some v := by
 cases sv with
 | v u => exact h
 | loc id off =>
  simp only [St.den] at h ⊢
  cases hx : S.L id with
  | none => simp [hx] at h
  | some x =>
   obtain ⟨y, hy, hb⟩ := setCs_some (l := A.boxes) (css := css) hx
   simp only [hx] at h
   simp only [havoc, hy, hb]; exact h
 | sl id n c =>
  simp only [St.den] at h ⊢
  cases hx : S.L id with
  | none => simp [hx] at h
  | some x =>
   obtain ⟨y, hy, hb⟩ := setCs_some (l := A.boxes) (css := css) hx
   simp only [hx] at h
   simp only [havoc, hy, hb]; exact h
end
end Go.Eng
namespace Go.Eng
open Go Go.RowKit
def SoundC (E : Env) (T : KT → St → Mem → Prop) (c : Code) : Prop :=
 ∀ {F : Fence} (_ : FOk F) {C : Ctx} (_ : YOk E C) (_ : ROk F C) (n : Nat), codeLt C.n c = true → ∀ {S : St} {m : Mem} {a : Act} {w : World} {K : KT} {Q : Exit → Act → World → Prop}, Rel C S m a w → T K S m →
  (∀ e S' m' a' w', K e S' m' → Rel C S' m' a' w' → Q e a' w') → c.wpIn F n E.P Q a w
def slicesL (tvs : List Value) : Prop := ∀ v ∈ tvs, isSl v = true
def ofCode (K : KT) (c : Code) (S : St) (m : Mem) : Prop := match c with
 | .ret => K .ret S m
 | .exit id => K (.exit id) S m
 | .goto l => K (.goto l) S m
 | _ => False
section
variable {C : Ctx} {S : St} {m : Mem} {a : Act} {w w' : World} {M M' : Nat → Prop}
def recOf (fn : FuncId) (tmps : Array Value) (ps : Array Tmp) (x y : Code) (D : Nat) (st : LoopState) (pe : Option Code) : Loop :=
 {state := st, pending := pe, fn, tmps, params := ps, assign := x, body := y, defers := D }
def client (C : Ctx) (S : St) (m : Mem) (A : LoopAnn) (I : List Value → List (List Value) → List Value → Mem → Nat → Prop) (K : KT) (a1 : Act) (l : Nat) (rec : LoopState → Option Code → Loop) (k : Int) (M' : Nat → Prop) (W : World) : Prop :=
 ∃ (g : Int) (css : List (List Value)) (tvs : List Value) (m' : Mem), css.length = A.boxes.length ∧ tvs.length = A.toks.length ∧ slicesL tvs ∧ (A.gh = false → g = S.gh) ∧ m.le m' ∧
  Rel C (havoc S [] { A with slots := [] } g [] css tvs) m' a1 W ∧
  (∃ M, Dom C (havoc S [] { A with slots := [] } g [] css tvs) m' a1 W M ∧ M l ∧ ¬ M' l ∧ (∀ k, M' k → M k) ∧ Apart M' (havoc S [] { A with slots := [] } g [] css tvs) m' a1) ∧
  ((0 ≤ k ∧ I (ghs A.gh g []) css tvs m' k.toNat ∧ W.heap[l]? = some (.loop (rec .ready none))) ∨
   (k = -1 ∧ ∃ c, W.heap[l]? = some (.loop (rec .done (some c))) ∧ ofCode K c (havoc S [] { A with slots := [] } g [] css tvs) m'))
theorem client_lasts {A : LoopAnn} {I : List Value → List (List Value) → List Value → Mem → Nat → Prop} {K : KT} {a1 : Act} {l : Nat} {rec : LoopState → Option Code → Loop} : Lasts (client C S m A I K a1 l rec) := by
 rintro k M' M2 W W' ⟨g, css, tvs, m', h1, h2, h3, h4, h5, hr, ⟨M, hd, hl, hl', hM, hap⟩, hc⟩ hu hg
 obtain ⟨hr2, hd2⟩ := hr.foreign hd hM hap hu
 have hll := hd.lt l hl
 have hlW : W'.heap[l]? = W.heap[l]? := hu.block l hll hl'
 have key : ∀ k, k < W.heap.size → ¬ M' k → ¬ M2 k := fun k hk hn h => by
  rcases hg k h with h | h
  ·exact hn h
  ·omega
 refine ⟨g, css, tvs, m', h1, h2, h3, h4, h5, hr2, ⟨_, hd2, .inl hl, key l hll hl', fun k hk => ?_, ?_⟩, ?_⟩
 ·rcases hg k hk with h | h
  ·exact .inl (hM k h)
  ·exact .inr h
 ·refine ⟨fun id x hx => key _ (hr.own id x hx).lt (hap.box id x hx), fun k t b ht hb => key _ ((hr.toks k t ht).1.lt hb) (hap.tok k t b ht hb), fun D hD => key _ (hd.lt D (hd.mks D hD)) (hap.mks D hD), fun b o v hv => key _ (hr.sub.lt hv) (hap.mem b o v hv), fun b e he => key _ (hr.sub.k b e he).lt (hap.kn b e he)⟩
 ·rw [hlW]; exact hc
end
end Go.Eng
namespace Go.Eng
open Go Go.RowKit
section
variable {C : Ctx} {S : St} {m : Mem} {a : Act} {w w' : World} {M M' : Nat → Prop}
theorem blt_lt' {a b : Nat} (h : Nat.blt a b = true) : a < b := by simpa [Nat.blt_eq] using h
theorem cells_ne_loop {w : World} {k l : Nat} {c T fr} {r : Loop} (h : w.heap[k]? = some (.cells c T fr)) (hl : w.heap[l]? = some (.loop r)) : k ≠ l := fun e => by subst e; rw [h] at hl; cases hl
theorem cells_ne_def {w : World} {k l : Nat} {c T fr d} (h : w.heap[k]? = some (.cells c T fr)) (hl : w.heap[l]? = some (.deferred d)) : k ≠ l := fun e => by subst e; rw [h] at hl; cases hl
theorem Own.isCells {m : Mem} {w : World} {x : Box} (h : Own m w x) : ∃ c T fr, w.heap[x.b]? = some (.cells c T fr) := by
 obtain ⟨sp, fr, hh, _⟩ := h.cells
 exact ⟨_, _, _, hh⟩
theorem TokOk.isCells {m : Mem} {w : World} {t : Tok} (h : TokOk m w t) {b : Nat} (hb : t.blk = some b) : ∃ c T fr, w.heap[b]? = some (.cells c T fr) := by
 rcases h with h | ⟨b', o0, n, c, cur, T, fr, hv, _, hh, _⟩
 ·simp [Tok.blk, h] at hb
 ·simp [Tok.blk, hv] at hb; subst hb; exact ⟨_, _, _, hh⟩
theorem Sub.isCells {m : Mem} {w : World} (h : Sub m w) {b o : Nat} {v : Value} (hv : m b o = some v) : ∃ c T fr, w.heap[b]? = some (.cells c T fr) := by
 have h1 := h b o v hv
 unfold World.cell? at h1
 split at h1
 ·rename_i c T fr hc; exact ⟨c, T, fr, hc⟩
 ·cases h1
theorem Rel.intoRound {S0 S1 : St} {a1 : Act} {l : Nat} {r : Loop} {tm : Array Value} (hr : Rel C S0 m a1 w) (hd : Dom C S0 m a1 w M) (hl : M l) (hl' : ¬ M' l) (hM : ∀ k, M' k → M k) (hap : Apart M' S0 m a1) (hrec : w.heap[l]? = some (.loop r))
  (hL : S1.L = S0.L) (hids : S1.ids = S0.ids) (htok : S1.tok = S0.tok) (htk : S1.tkeys = S0.tkeys) (hg : S1.gh = S0.gh) (hf : S1.fo = S0.fo) (hsz : tm.size = C.n) (henv : ∀ i sv, S1.env i = some sv → ∃ v, S1.den sv = some v ∧ tm[i]? = some v) :
  Rel (rctx C (fun k => M' k ∨ k = l ∨ mark k ∈ a1.defers) (fun k => w.heap[k]?) w.heap.size) S1 m { tmps := tm, defers := [] } w := by
 have hX : ∀ k, (∃ c T fr, w.heap[k]? = some (.cells c T fr)) → ¬ M' k → ¬ (M' k ∨ k = l ∨ mark k ∈ a1.defers) := by
  rintro k ⟨c, T, fr, hk⟩ hn (h | h | h)
  ·exact hn h
  ·exact cells_ne_loop hk hrec h
  ·exact cells_ne_def hk (hr.markAt h) rfl
 refine hr.swap rfl hr.le hL hids htok htk henv hsz ⟨[], rfl, List.nodup_nil, by simp⟩ (fun _ _ _ _ => rfl) (fun k t b ht hb => ((hr.toks k t ht).2 b hb).2) (fun h => hr.fo (hf ▸ h)) ⟨fun k => M k ∧ ¬ (M' k ∨ k = l ∨ mark k ∈ a1.defers), ?_, fun k hk => hd.lt k hk.1, fun id x hx => ?_, fun k t b ht hb => ?_, by simp, ⟨fun b o v hv => ?_, fun b e he => ?_⟩⟩
 ·rw [hg]
  refine ⟨M, hd.p, hd.lt, fun k hk => hk.1, fun k hk => ⟨?_, fun h => h.2 hk, rfl⟩, Nat.le_refl _⟩
  rcases hk with h | h | h
  ·exact hM k h
  ·exact h ▸ hl
  ·exact hd.mks k h
 ·rw [hL] at hx
  exact ⟨hd.own id x hx, hX _ (hr.own id x hx).isCells (hap.box id x hx)⟩
 ·rw [htok] at ht
  exact ⟨hd.tok k t b ht hb, hX _ ((hr.toks k t ht).1.isCells hb) (hap.tok k t b ht hb)⟩
 ·exact (hd.new b o v hv).imp_right fun h => ⟨h, hX _ (hr.sub.isCells hv) (hap.mem b o v hv)⟩
 ·refine (hd.new.k b e he).imp_right fun h => ⟨h, ?_⟩
  obtain ⟨es, cl, h1, _⟩ := hr.sub.k b e he
  rintro (h | h | h)
  ·exact hap.kn b e he h
  ·exact mem_ne_loop h1 rfl hrec h
  ·have := hr.markAt h
   rw [h1] at this; cases this
theorem Rel.beginRound {X : Nat → Prop} {h1 : Nat → Option Obj} {B : Nat} {me : Mem} {hme : C.m0.le me} {S1 : St} {ar : Act} {l : Nat} {r r' : Loop} (hr : Rel (rctxM C X h1 B me hme) S1 m ar w) (hl : X l) (hrec : w.heap[l]? = some (.loop r)) :
  Rel (rctxM C X (fun k => (w.putObj l (.loop r')).heap[k]?) B me hme) S1 m ar (w.putObj l (.loop r')) := by
 have hne : ∀ (k : Nat) (o : Obj), w.heap[k]? = some o → isMem o = true → (w.putObj l (.loop r')).heap[k]? = w.heap[k]? := fun k o hk hm => World.putObj_heap_other (mem_ne_loop hk hm hrec)
 obtain ⟨ms, q1, q2, q3⟩ := hr.defers
 refine hr.swap rfl hr.le rfl rfl rfl rfl hr.env hr.size ⟨ms, q1, q2, fun D hD => ?_⟩ hne (fun k t b ht hb => ((hr.toks k t ht).2 b hb).2) hr.fo ?_
 ·rw [World.putObj_heap_other (fun e => by have := q3 D hD; rw [e, hrec] at this; cases this)]; exact q3 D hD
 ·obtain ⟨Mr, hd⟩ := hr.dom
  obtain ⟨M, p1, p2, p3, p4, p5⟩ := hd.p
  refine ⟨Mr, ⟨M, C.st _ M M _ _ p1 (putObj_upd rfl (p4 l hl).1) (fun k hk => .inl hk), fun k hk => by rw [putObj_size]; exact p2 k hk, p3, fun k hk => ⟨(p4 k hk).1, (p4 k hk).2.1, rfl⟩, by rw [putObj_size]; exact p5⟩, fun k hk => by rw [putObj_size]; exact hd.lt k hk, hd.own, hd.tok, hd.mks, hd.new⟩
theorem Rel.outOfRound {X : Nat → Prop} {h1 : Nat → Option Obj} {B : Nat} {S' S2 : St} {a3 a1 : Act} {l : Nat} {r r' : Loop} (hr : Rel (rctx C X h1 B) S' m a3 w) (hl : X l) (hrec : w.heap[l]? = some (.loop r))
  (hm0 : ∀ b o v, C.me b o = some v → ¬ X b) (hm0k : ∀ b e, C.me.k b = some e → ¬ X b) (hXm : ∀ D, mark D ∈ a1.defers → X D) (hX' : ∀ k, M' k → X k) (hMm : ∀ D, mark D ∈ a1.defers → ¬ M' D)
  (hL : S2.L = S'.L) (hids : S2.ids = S'.ids) (htok : S2.tok = S'.tok) (htk : S2.tkeys = S'.tkeys) (hg : S2.gh = S'.gh) (hf : S2.fo = S'.fo) (hsz : a1.tmps.size = C.n) (henv : ∀ i sv, S2.env i = some sv → ∃ v, S2.den sv = some v ∧ a1.tmps[i]? = some v)
  (hdef : ∃ ms : List Nat, a1.defers = ms.map mark ∧ ms.Nodup ∧ ∀ D ∈ ms, w.heap[D]? = some (.deferred (some []))) :
  Rel C S2 m a1 (w.putObj l (.loop r')) ∧ ∃ M, Dom C S2 m a1 (w.putObj l (.loop r')) M ∧ M l ∧ (∀ k, M' k → M k) ∧ Apart M' S2 m a1 := by
 have hne : ∀ (k : Nat) (o : Obj), w.heap[k]? = some o → isMem o = true → (w.putObj l (.loop r')).heap[k]? = w.heap[k]? := fun k o hk hm => World.putObj_heap_other (mem_ne_loop hk hm hrec)
 obtain ⟨ms, q1, q2, q3⟩ := hdef
 obtain ⟨Mr, hd⟩ := hr.dom
 obtain ⟨M, p1, p2, p3, p4, p5⟩ := hd.p
 have hD : Dom C S2 m a1 (w.putObj l (.loop r')) M := by
  refine ⟨hg ▸ C.st _ M M _ _ p1 (putObj_upd rfl (p4 l hl).1) (fun k hk => .inl hk), fun k hk => by rw [putObj_size]; exact p2 k hk, fun id x hx => p3 _ (hd.own id x (hL ▸ hx)), fun k t b ht hb => p3 _ (hd.tok k t b (htok ▸ ht) hb), fun D hD => (p4 D (hXm D hD)).1, hd.new.mono p3⟩
 refine ⟨hr.swap rfl hr.le hL hids htok htk henv hsz ⟨ms, q1, q2, fun D hD => ?_⟩ hne (fun k t b ht hb => ((hr.toks k t ht).2 b hb).2) (fun h => hr.fo (hf ▸ h)) ⟨M, hD⟩, ?_⟩
 ·rw [World.putObj_heap_other (fun e => by have := q3 D hD; rw [e, hrec] at this; cases this)]; exact q3 D hD
 ·refine ⟨M, hD, (p4 l hl).1, fun k hk => (p4 k (hX' k hk)).1, ?_⟩
  refine ⟨fun id x hx h => (p4 _ (hX' _ h)).2.1 (hd.own id x (hL ▸ hx)), fun k t b ht hb h => (p4 _ (hX' _ h)).2.1 (hd.tok k t b (htok ▸ ht) hb), hMm, fun b o v hv h => ?_, fun b e he h => ?_⟩
  ·rcases hd.new b o v hv with h2 | h2
   ·exact hm0 b o v h2 (hX' b h)
   ·exact (p4 b (hX' b h)).2.1 h2
  ·rcases hd.new.k b e he with h2 | h2
   ·exact hm0k b e h2 (hX' b h)
   ·exact (p4 b (hX' b h)).2.1 h2
theorem Rel.atX {X : Nat → Prop} {h1 : Nat → Option Obj} {B : Nat} {me : Mem} {hme : C.m0.le me} {S' : St} {a3 : Act} (hr : Rel (rctxM C X h1 B me hme) S' m a3 w) : B ≤ w.heap.size ∧ ∀ k, X k → w.heap[k]? = h1 k := by
 obtain ⟨Mr, hd⟩ := hr.dom
 obtain ⟨M, p1, p2, p3, p4, p5⟩ := hd.p
 exact ⟨p5, fun k hk => (p4 k hk).2.2⟩
theorem client_yield {th : Bool} {E : Env} {A : LoopAnn} {I : List Value → List (List Value) → List Value → Mem → Nat → Prop} {K : KT} {a1 : Act} {l : Nat} {fn : FuncId} {ps : Array Tmp} {x y : Code} {D : Nat} {Tx Ty : KT → St → Mem → Prop} {xs : List (List Value)}
  (hSx : SoundC E Tx x) (hSy : SoundC E Ty y) (hMx : ∀ {K : KT} {S : St} {m : Mem}, Tx K S m → Tx (fun e S' m' => K e S' m' ∧ leT th m m') S m) (hMy : ∀ {K : KT} {S : St} {m : Mem}, Ty K S m → Ty (fun e S' m' => K e S' m' ∧ leT th m m') S m) (hYC : YOk E C) (hlx : codeLt C.n x = true) (hly : codeLt C.n y = true) (hps : ps.toList.all (Nat.blt · C.n) = true) (hS : StOk S) (hsz : a1.tmps.size = C.n) (henv : ∀ i sv, S.env i = some sv → ∃ v, S.den sv = some v ∧ a1.tmps[i]? = some v)
  (hpe : natsEq ps.toList (A.slots.map (·.1)) = true) (hpn : natsNodup ps.toList = true) (hfit : ∀ v ∈ xs, Shape.fitsL (A.slots.map (·.2)) v = true)
  (hb : allG A.gh S.gh fun y => Shape.allL (A.slots.map (·.2)) fun x => allCs A.boxes fun css => allTs A.toks fun tvs => ∀ (m' : Mem) (n : Nat), m.le m' → xs[n]? = some x → I (ghs A.gh y []) css tvs m' n →
     Tx (fun e S1 m1 => match e with
      | .normal => Ty (fun e S' m'' => leMi th m m'' (sameG A.gh S'.gh S.gh S'.fo S.fo (sameB (restOf S' A S.ids) (restOf S A S.ids) (sameT (restTok S' A S.tkeys) (restTok S A S.tkeys) (csOf S' A.boxes fun css' => toksOf S' A.toks fun tvs' => match e with
       | .normal => I (ghs A.gh S'.gh []) css' tvs' m'' (n + 1)
       | e => ofRound K e (havoc S [] { A with slots := [] } S'.gh [] css' tvs') m''))))) S1 m1
      | _ => False) (havoc S [] A y x css tvs) m') :
  YieldOk E.P m (client C S m A I K a1 l (recOf fn a1.tmps ps x y D)) (fun l' g v => l' = l ∧ 0 ≤ g ∧ xs[g.toNat]? = some v) := by
 rintro F n l' k v M' w hF hlt ⟨rfl, hk0, hxk⟩ ⟨g, css, tvs, m', h1, h2, h3, h4, h5, hr, ⟨M, hd, hl, hl', hM, hap⟩, hc⟩ hsub
 rcases hc with ⟨_, hI, hrec⟩ | ⟨hk1, _⟩
 rotate_left
 ·omega
 have hps' := natsEq_spec hpe
 have hvf := hfit v (List.mem_of_getElem? hxk)
 have hvl : v.length = ps.toList.length := by rw [hps', fitsL_length hvf]; simp
 have hnd := natsNodup_spec hpn
 have hy := run_yield (P := E.P) (args := v.toArray) hrec (by simpa [recOf] using hvl)
 simp only [recOf] at hy
 refine ⟨_, _, _, _, hy, roundIn_of_wpIn (hF.fn _) ?_⟩
 have hfold : ((ps.zip v.toArray).foldl (fun tmps (x : Tmp × Value) => tmps.setIfInBounds x.1 x.2) a1.tmps) = ((ps.toList.zip v).foldl (fun (t : Array Value) (x : Nat × Value) => t.setIfInBounds x.1 x.2) a1.tmps) := by
  rw [← Array.foldl_toList, Array.toList_zip]
 obtain ⟨f1, f2, f3⟩ := fold_params ps.toList v a1.tmps hvl hnd
 have hF1 := hF.inRound l'
 have hr1 := hr.intoRound (S1 := havoc S [] A g v css tvs) (tm := (ps.toList.zip v).foldl (fun (t : Array Value) (x : Nat × Value) => t.setIfInBounds x.1 x.2) a1.tmps) hd hl hl' hM hap hrec rfl rfl rfl rfl rfl rfl (by rw [f1]; exact hsz) (by
  intro i sv he
  simp only [havoc] at he
  rcases setVals_in2 (by rw [fitsL_length hvf]; simp) he with ⟨g1, g2⟩ | ⟨q, sh, u, g1, g2, g3⟩
  ·simp only [List.any_nil, cond_false] at g1
   obtain ⟨u, g3, g4⟩ := henv i sv g1
   exact ⟨u, den_havoc g3, by rw [f2 i (by rw [hps']; exact g2)]; exact g4⟩
  ·subst g3
   refine ⟨u, rfl, f3 q i u ?_ g2 ?_⟩
   ·rw [hps', List.getElem?_map, g1]; rfl
   ·have : i ∈ ps.toList := by rw [hps']; exact List.mem_map.2 ⟨_, List.mem_of_getElem? g1, rfl⟩
    have := List.all_eq_true.1 hps i this
    rw [hsz]; exact blt_lt' this)
 rw [hfold]
 have hX0 : ∀ b o v, C.me b o = some v → ¬ (M' b ∨ b = l' ∨ mark b ∈ a1.defers) := by
  intro b o v hv
  have hv' : m' b o = some v := hr.le b o v hv
  obtain ⟨c, T, fr, hc⟩ := hr.sub.isCells hv'
  rintro (h | h | h)
  ·exact hap.mem b o v hv' h
  ·exact cells_ne_loop hc hrec h
  ·exact cells_ne_def hc (hr.markAt h) rfl
 have hX0k : ∀ b e, C.me.k b = some e → ¬ (M' b ∨ b = l' ∨ mark b ∈ a1.defers) := by
  intro b e he
  have he' : m'.k b = some e := hr.le.k b e he
  obtain ⟨es, cl, h1, _⟩ := hr.sub.k b e he'
  rintro (h | h | h)
  ·exact hap.kn b e he' h
  ·exact mem_ne_loop h1 rfl hrec h
  ·have := hr.markAt h
   rw [h1] at this; cases this
 have hb1 := allTs_elim (allCs_elim (Shape.allL_fits _ _ (allG_elim hb h4) v hvf) css h1) tvs h2 h3 m' k.toNat h5 hxk hI
 refine hSx hF1 (rctx_yok hYC (Mem.le_refl _) (NewM.refl _ _)) ?_ n hlx hr1 (hMx hb1) ?_
 ·intro l2 hl2 g2 Mr w2 hp
  have : l2 = l' := by simpa using hl2.symm
  subst this
  obtain ⟨M2, _, _, _, p4, _⟩ := hp
  exact ⟨_, by rw [(p4 l2 (.inr (.inl rfl))).2.2]; exact hrec⟩
 rintro e S1 m1 a2 w1 ⟨hk, hle1⟩ hr2
 cases e with
 | normal =>
  obtain ⟨z1, z2⟩ := hr2.atX
  have hrec1 : w1.heap[l']? = some (.loop (recOf fn a1.tmps ps x y D .ready none)) := by rw [z2 l' (.inr (.inl rfl))]; exact hrec
  refine ⟨_, run_beginRound hrec1 rfl, ?_⟩
  have hr3 := hr2.beginRound (r' := { recOf fn a1.tmps ps x y D .ready none with state := .busy }) (.inr (.inl rfl)) hrec1
  have hl1 : l' < w1.heap.size := (Array.getElem?_eq_some_iff.1 hrec1).1
  have hw2 : (w1.putObj l' (.loop { recOf fn a1.tmps ps x y D .ready none with state := .busy })).heap[l']? = some (.loop { recOf fn a1.tmps ps x y D .ready none with state := .busy }) := World.putObj_heap_same hl1
  refine hSy hF1 (rctx_yok hYC (Mem.le_refl _) (NewM.refl _ _)) ?_ n hly hr3 (hMy hk) ?_
  ·intro l2 hl2 g2 Mr w2 hp
   have : l2 = l' := by simpa using hl2.symm
   subst this
   obtain ⟨M2, _, _, _, p4, _⟩ := hp
   exact ⟨_, by rw [(p4 l2 (.inr (.inl rfl))).2.2]; exact hw2⟩
  rintro e S' m'' a3 w3 ⟨hk, hle2⟩ hr4
  obtain ⟨q0, hk⟩ := leMi_elim hk
  obtain ⟨q1, qf, hk⟩ := sameG_elim hk
  obtain ⟨q2, hk⟩ := sameB_iff.1 hk
  obtain ⟨q3, hk⟩ := sameT_iff.1 hk
  obtain ⟨css', g1, g2, hk⟩ := csOf_sound hk
  obtain ⟨tvs', k1, k2, hk⟩ := toksOf_sound hk
  obtain ⟨y1, y2⟩ := hr4.atX
  have hrec3 : w3.heap[l']? = some (.loop { recOf fn a1.tmps ps x y D .ready none with state := .busy }) := by rw [y2 l' (.inr (.inl rfl))]; exact hw2
  have hmi : m.le m'' := by
   cases th with
   | true => exact q0 rfl
   | false => exact mLt h5 (mLt hle1 hle2)
  have hx : Rel (rctx C (fun k => M' k ∨ k = l' ∨ mark k ∈ a1.defers) (fun k => (w1.putObj l' (.loop { recOf fn a1.tmps ps x y D .ready none with state := .busy })).heap[k]?) w.heap.size) (havoc { S with env := fun _ => none } [] { A with slots := [] } S'.gh [] css' tvs') m'' a3 w3 := by
   have hh : Rel (rctx C (fun k => M' k ∨ k = l' ∨ mark k ∈ a1.defers) (fun k => (w1.putObj l' (.loop { recOf fn a1.tmps ps x y D .ready none with state := .busy })).heap[k]?) w.heap.size) { S' with env := fun _ => none } m'' a3 w3 :=
    hr4.restrict rfl rfl (fun _ _ h => h) (fun _ _ h => .inl h) (fun i sv h => (by cases h)) hr4.ids hr4.tkeys
   exact havoc_rel (S := { S with env := fun _ => none }) (S' := { S' with env := fun _ => none }) (A := { A with slots := [] }) ⟨fun i sv h => (by cases h), hS.ids, hS.tkeys⟩ hh qf (fun _ _ => rfl) q2 q3 (by simp) g1 g2 k1 k2
  have hdef : ∃ ms : List Nat, a1.defers = ms.map mark ∧ ms.Nodup ∧ ∀ D ∈ ms, w3.heap[D]? = some (.deferred (some [])) := by
   obtain ⟨ms, r1, r2, r3⟩ := hr.defers
   refine ⟨ms, r1, r2, fun D' hD' => ?_⟩
   have hm : mark D' ∈ a1.defers := by rw [r1]; exact List.mem_map.2 ⟨_, hD', rfl⟩
   rw [y2 D' (.inr (.inr hm)), World.putObj_heap_other (fun e => by have := r3 D' hD'; rw [e, hrec] at this; cases this), z2 D' (.inr (.inr hm))]; exact r3 D' hD'
  have hout := fun (r' : Loop) => hx.outOfRound (S2 := havoc S [] { A with slots := [] } S'.gh [] css' tvs') (a1 := a1) (M' := M') (r' := r') (.inr (.inl rfl)) hrec3 hX0 hX0k (fun D' hD' => .inr (.inr hD')) (fun k hk => .inl hk) hap.mks rfl rfl rfl rfl rfl rfl hsz (by
   intro i sv he
   simp only [havoc, setVals, List.any_nil, cond_false] at he
   obtain ⟨u, g3, g4⟩ := henv i sv he
   exact ⟨u, den_havoc g3, g4⟩) hdef
  have hl3 : l' < w3.heap.size := (Array.getElem?_eq_some_iff.1 hrec3).1
  have hfrn : ∀ r', Frn m M' w (w3.putObj l' (.loop r')) := fun r' => by
   refine ⟨by rw [putObj_size]; exact y1, fun k hk hkm => ?_, (hout r').1.sub.less hmi⟩
   ·have hne : k ≠ l' := fun e => hl' (e ▸ hkm)
    rw [World.putObj_heap_other hne, y2 k (.inl hkm), World.putObj_heap_other hne, z2 k (.inl hkm)]
  have hsl : slicesL tvs' := by
   intro u hu
   obtain ⟨i, hi⟩ := List.getElem?_of_mem hu
   have hlt := (List.getElem?_eq_some_iff.1 hi).1
   obtain ⟨qe, hqe⟩ : ∃ qe, A.toks[i]? = some qe := ⟨_, List.getElem?_eq_getElem (by omega)⟩
   exact (k2 i qe.1 qe.2 u hqe hi).1
  have fin : ∀ (c : Code) , ofCode K c (havoc S [] { A with slots := [] } S'.gh [] css' tvs') m'' → ∃ v w', (Instr.endRound l' (some c)).run E.P w3 = .ok v w' ∧ ∃ b, Ending.returned v = Ending.returned (.bool b) ∧ client C S m A I K a1 l' (recOf fn a1.tmps ps x y D) (if b then k + 1 else -1) M' w' ∧ Frn m M' w w' := by
   intro c hc
   refine ⟨_, _, run_endRound (some c) hrec3, false, rfl, ?_, hfrn _⟩
   obtain ⟨o1, M3, o2, o3, o4, o5⟩ := hout (recOf fn a1.tmps ps x y D .done (some c))
   exact ⟨S'.gh, css', tvs', m'', g1, k1, hsl, q1, hmi, o1, ⟨M3, o2, o3, hl', o4, o5⟩, .inr ⟨rfl, c, World.putObj_heap_same hl3, hc⟩⟩
  cases e with
  | normal =>
   refine ⟨_, _, run_endRound none hrec3, true, rfl, ?_, hfrn _⟩
   obtain ⟨o1, M3, o2, o3, o4, o5⟩ := hout (recOf fn a1.tmps ps x y D .ready none)
   refine ⟨S'.gh, css', tvs', m'', g1, k1, hsl, q1, hmi, o1, ⟨M3, o2, o3, hl', o4, o5⟩, .inl ⟨by simp; omega, ?_, World.putObj_heap_same hl3⟩⟩
   have : (k + 1).toNat = k.toNat + 1 := by omega
   simp only [if_true, this]
   exact hk
  | ret => exact fin _ hk
  | exit id => exact fin _ hk
  | goto t => exact fin _ hk
  | panic ch => exact hk.elim
  | outgrown => exact hk.elim
 | exit id => exact hk.elim
 | goto t => exact hk.elim
 | ret => exact hk.elim
 | panic ch => exact hk.elim
 | outgrown => exact hk.elim
end
end Go.Eng
namespace Go.Eng
open Go Go.RowKit
section
variable {C : Ctx} {S : St} {m : Mem} {a : Act} {w w' : World}
theorem Rel.afterRange {S2 : St} {a1 : Act} {l : Nat} {r r' : Loop} {M : Nat → Prop} (hr : Rel C S2 m a1 w) (hd : Dom C S2 m a1 w M) (hl : M l) (hrec : w.heap[l]? = some (.loop r)) : Rel C S2 m a1 (w.putObj l (.loop r')) := by
 obtain ⟨ms, q1, q2, q3⟩ := hr.defers
 refine hr.swap rfl hr.le rfl rfl rfl rfl hr.env hr.size ⟨ms, q1, q2, fun D hD => ?_⟩ (fun k o hk hm => World.putObj_heap_other (mem_ne_loop hk hm hrec)) (fun k t b ht hb => ((hr.toks k t ht).2 b hb).2) hr.fo ⟨_, hd.step (putObj_upd rfl hl) (NewM.refl _ _)⟩
 rw [World.putObj_heap_other (fun e => by have := q3 D hD; rw [e, hrec] at this; cases this)]; exact q3 D hD
theorem range_sound {th : Bool} {E : Env} {F : Fence} (hF : FOk F) (hYC : YOk E C) (hR : ROk F C) (n : Nat) {A : LoopAnn} {f : Operand} {ps : Array Tmp} {x y : Code} {Tx Ty : KT → St → Mem → Prop}
  (hSx : SoundC E Tx x) (hSy : SoundC E Ty y) (hMx : ∀ {K : KT} {S : St} {m : Mem}, Tx K S m → Tx (fun e S' m' => K e S' m' ∧ leT th m m') S m) (hMy : ∀ {K : KT} {S : St} {m : Mem}, Ty K S m → Ty (fun e S' m' => K e S' m' ∧ leT th m m') S m)
  (hlx : codeLt C.n x = true) (hly : codeLt C.n y = true) (hps : ps.toList.all (Nat.blt · C.n) = true)
  {K : KT} {Q : Exit → Act → World → Prop} (hr : Rel C S m a w) (h : rangeW th E.P A f ps.toList Tx Ty K S m) (hK : ∀ e S' m' a' w', K e S' m' → Rel C S' m' a' w' → Q e a' w') : (Code.rangeFunc f ps x y).wpIn F n E.P Q a w := by
 unfold rangeW at h
 split at h
 rotate_left
 ·exact h.elim
 rename_i g first captured hev
 obtain ⟨hc, hmi⟩ := chk_elim h
 obtain ⟨mi, hmle, hcold, xs, hIX, hfit, I, h0, hb, hdone⟩ := exMi_elim hmi
 simp only [Bool.and_eq_true] at hc
 obtain ⟨v, e1, _, e2⟩ := hr.ev_val hev
 simp only [St.den, Option.some.injEq] at e1
 refine wpIn_rangeFunc fun fn hfn => ?_
 obtain ⟨l, mk, w1, D, hent, hr1, ⟨M1, hd1, hl1⟩, hrec⟩ := hr.enter (P := E.P) hR fn ps x y
 obtain ⟨a1, ha1⟩ : ∃ a1, a1 = ({ a with defers := mk ++ a.defers } : Act) := ⟨_, rfl⟩
 rw [← ha1] at hr1 hd1
 have hat : a1.tmps = a.tmps := by rw [ha1]
 have hrec' : w1.heap[l]? = some (.loop (recOf fn a1.tmps ps x y D .ready none)) := by rw [hat]; exact hrec
 refine ⟨l, mk, w1, { target := .fn (.func g) captured, args := first ++ #[.func (.yield l) #[] #[]] }, w1, g, (first.toList ++ .func (.yield l) #[] #[] :: captured.toList).toArray, w1, hent, ?_, fun f' _ => hF.fn f', ?_, fun hs => by rw [hF.depth] at hs; simp at hs, ?_⟩
 ·simp only [resolve, e2, ← e1, Deferred.ofValue]
  simp [go_sem]
 ·have hargs : first ++ #[Value.func (.yield l) #[] #[]] ++ captured = (first.toList ++ Value.func (.yield l) #[] #[] :: captured.toList).toArray := Array.ext' (by simp)
  simp only [invoke, hargs]
  exact hIX.1 _ _
 ·obtain ⟨css, g1, g2, h0⟩ := csOf_sound h0
  obtain ⟨tvs, k1, k2, hI⟩ := toksOf_sound h0
  have hsl : slicesL tvs := by
   intro u hu
   obtain ⟨i, hi⟩ := List.getElem?_of_mem hu
   have hlt := (List.getElem?_eq_some_iff.1 hi).1
   obtain ⟨qe, hqe⟩ : ∃ qe, A.toks[i]? = some qe := ⟨_, List.getElem?_eq_getElem (by omega)⟩
   exact (k2 i qe.1 qe.2 u hqe hi).1
  have hhav : Rel C (havoc S [] { A with slots := [] } S.gh [] css tvs) m a1 w1 := havoc_rel hr1.ok hr1 rfl (SameOut.refl _ _) rfl rfl (by simp) g1 g2 k1 k2
  have hcl0 : client C S mi A I K a1 l (recOf fn a1.tmps ps x y D) 0 (fun _ => False) w1 := by
   refine ⟨S.gh, css, tvs, m, g1, k1, hsl, fun _ => rfl, hmle, hhav, ?_, .inl ⟨Int.le_refl _, hI, hrec'⟩⟩
   have hd2 : Dom C (havoc S [] { A with slots := [] } S.gh [] css tvs) m a1 w1 M1 := by
    refine ⟨hd1.p, hd1.lt, fun id y hy => ?_, fun k t b ht hb => ?_, hd1.mks, hd1.new⟩
    ·simp only [havoc] at hy
     rcases setCs_spec hy with ⟨i, x', cs, q1, q2, q3, q4⟩ | ⟨q1, q2⟩
     ·rw [q4]; exact hd1.own id x' q3
     ·exact hd1.own id y q2
    ·simp only [havoc] at ht
     rcases setToks_spec ht with ⟨i, e, u, q1, q2, q3⟩ | ⟨q1, q2⟩
     ·obtain ⟨_, q5⟩ := k2 i k e u q1 q2
      subst q3
      rcases q5 with q5 | q5
      ·exact hd1.tok k _ b q5 hb
      ·simp [Tok.blk, q5] at hb
     ·exact hd1.tok k t b q2 hb
   exact ⟨M1, hd2, hl1, fun h => h, fun _ h => h.elim, ⟨fun _ _ _ h => h, fun _ _ _ _ _ h => h, fun _ _ h => h, fun _ _ _ _ h => h, fun _ _ _ h => h⟩⟩
  have henv : ∀ i sv, S.env i = some sv → ∃ v, S.den sv = some v ∧ a1.tmps[i]? = some v := fun i sv he => hr1.env i sv he
  have hyield := client_yield (th := th) (E := E) (S := S) (m := mi) (K := K) (l := l) (fn := fn) (D := D) hSx hSy hMx hMy hYC hlx hly hps hr.ok hr1.size henv hc.1 hc.2 hfit hb
  refine hF.calls ((hIX.2 _ client_lasts l w1 (hr1.sub.less hmle) hcl0 hyield).mono ?_)
  rintro e w2 ⟨v, M2, rfl, hlt, hcl⟩
  rw [← ha1]
  rcases hcl with hcl | hcl
  all_goals obtain ⟨gg, css2, tvs2, m2, y1, y2, y3, y4, y5, y6, ⟨M3, y7, y8, y9, y10, y11⟩, y12⟩ := hcl
  ·rcases y12 with ⟨_, hI2, hrec2⟩ | ⟨hk, _⟩
   ·refine ⟨none, _, run_endLoop hrec2 (by simp [recOf]), ?_⟩
    have := allTs_elim (allCs_elim (allG_elim hdone y4) css2 y1) tvs2 y2 y3 m2 y5 (by simpa using hI2)
    exact hK _ _ _ _ _ this (y6.afterRange y7 y8 hrec2)
   ·omega
  ·rcases y12 with ⟨hk, _⟩ | ⟨_, c, hrec2, hcode⟩
   ·omega
   ·refine ⟨some c, _, run_endLoop hrec2 (by simp [recOf]), ?_⟩
    have hR := fun r' => y6.afterRange (r' := r') y7 y8 hrec2
    cases c with
    | ret => exact wpIn_ret (hK _ _ _ _ _ hcode (hR _))
    | exit id => exact wpIn_exit (hK _ _ _ _ _ hcode (hR _))
    | goto t => exact wpIn_goto (hK _ _ _ _ _ hcode (hR _))
    | _ => exact hcode.elim
end
end Go.Eng
namespace Go.Eng
open Go Go.RowKit
section
variable {C : Ctx} {S : St} {m : Mem} {a : Act} {w w' : World} {M M' : Nat → Prop}
noncomputable def Mem.on (m : Mem) (Z : Nat → Prop) : Mem := m.off (fun b => ¬ Z b)
theorem Mem.on_c {m : Mem} {Z : Nat → Prop} {b o : Nat} {v : Value} (h : m.on Z b o = some v) : Z b ∧ m b o = some v := by
 by_cases hz : Z b
 ·exact ⟨hz, by unfold Mem.on at h; rw [Mem.off_at (fun h => h hz)] at h; exact h⟩
 ·unfold Mem.on at h; rw [Mem.off_free hz o] at h; cases h
theorem Mem.on_k {m : Mem} {Z : Nat → Prop} {b : Nat} {e : List (Value × Value)} (h : (m.on Z).k b = some e) : Z b ∧ m.k b = some e := by
 by_cases hz : Z b
 ·exact ⟨hz, by unfold Mem.on at h; rw [Mem.off_k (fun h => h hz)] at h; exact h⟩
 ·unfold Mem.on at h; rw [Mem.off_kn hz] at h; cases h
theorem Mem.on_at {m : Mem} {Z : Nat → Prop} {b : Nat} (hz : Z b) (o : Nat) : m.on Z b o = m b o := by unfold Mem.on; rw [Mem.off_at (fun h => h hz)]
theorem Mem.on_kat {m : Mem} {Z : Nat → Prop} {b : Nat} (hz : Z b) : (m.on Z).k b = m.k b := by unfold Mem.on; rw [Mem.off_k (fun h => h hz)]
theorem Mem.or_right {a b : Mem} {i o : Nat} (h : a i o = none) : a.or b i o = b i o := by simp [Mem.or, h]
theorem Mem.or_kright {a b : Mem} {i : Nat} (h : a.k i = none) : (a.or b).k i = b.k i := by simp [Mem.or, h]
theorem none_of {α : Type} {x : Option α} (h : ∀ v, x ≠ some v) : x = none := by
 cases x with
 | none => rfl
 | some v => exact absurd rfl (h v)
theorem Rel.orMem {m0 m1 mi : Mem} (h : Rel C S m1 a w) (hd : Dom C S m1 a w M) (hM : ∀ k, M' k → M k) (hap : Apart M' S m1 a) (h0 : m0.le m1) (hs : Sub mi w) (hn : NewM m0 mi M') :
  Rel C S (m1.or mi) a w ∧ Dom C S (m1.or mi) a w M := by
 have hfree : ∀ b, ¬ M' b → ∀ o, m1 b o = none → m1.or mi b o = none := fun b hb o ho => by
  rw [Mem.or_right ho]
  refine none_of fun v hv => ?_
  rcases hn.c b o v hv with h1 | h1
  ·rw [h0.c b o v h1] at ho; cases ho
  ·exact hb h1
 have hnew : NewM C.me (m1.or mi) M := ⟨fun b o v hv => by
  rcases Mem.or_some hv with h1 | ⟨h1, h2⟩
  ·exact hd.new.c b o v h1
  ·rcases hn.c b o v h2 with h3 | h3
   ·rw [h0.c b o v h3] at h1; cases h1
   ·exact .inr (hM b h3), fun b v hv => by
  rcases Mem.or_k hv with h1 | ⟨h1, h2⟩
  ·exact hd.new.k b v h1
  ·rcases hn.k b v h2 with h3 | h3
   ·rw [h0.k b v h3] at h1; cases h1
   ·exact .inr (hM b h3)⟩
 have hd2 : Dom C S (m1.or mi) a w M := ⟨hd.p, hd.lt, hd.own, hd.tok, hd.mks, hnew⟩
 refine ⟨⟨h.defers, h.size, h.env, fun id x hx => ?_, h.apart, h.ids, fun k t ht => ?_, h.tkeys, h.tapart, ⟨fun b o v hv => ?_, fun b e he => ?_⟩, mLt h.le (Mem.le_or _ _), ⟨M, hd2⟩, h.fo⟩, hd2⟩
 ·have ho := h.own id x hx
  exact ⟨ho.cells, fun hz o => hfree _ (hap.box id x hx) o (ho.free hz o), fun hz => (ho.known hz).mono (Mem.le_or _ _), ho.whole⟩
 ·obtain ⟨h1, h2⟩ := h.toks k t ht
  exact ⟨h1.same (fun _ _ => rfl) (fun b o hb hn => hfree b (hap.tok k t b ht hb) o hn), h2⟩
 ·rcases Mem.or_some hv with h1 | ⟨_, h2⟩
  ·exact h.sub.c b o v h1
  ·exact hs.c b o v h2
 ·rcases Mem.or_k he with h1 | ⟨_, h2⟩
  ·exact h.sub.k b e h1
  ·exact hs.k b e h2
noncomputable def meY (C : Ctx) (mi : Mem) (M' : Nat → Prop) : Mem := C.me.or (mi.on M')
theorem meY_le (C : Ctx) (mi : Mem) (M' : Nat → Prop) : C.m0.le (meY C mi M') := mLt C.mle (Mem.le_or _ _)
theorem meY_new (C : Ctx) (mi : Mem) (M' : Nat → Prop) : NewM C.me (meY C mi M') M' := ⟨fun b o v hv => by
 rcases Mem.or_some hv with h1 | ⟨_, h2⟩
 ·exact .inl h1
 ·exact .inr (Mem.on_c h2).1, fun b v hv => by
 rcases Mem.or_k hv with h1 | ⟨_, h2⟩
 ·exact .inl h1
 ·exact .inr (Mem.on_k h2).1⟩
theorem Rel.intoRoundY {m0 m1 mi : Mem} {S0 S1 : St} {a1 : Act} {l : Nat} {r : Loop} {tm : Array Value} (hr : Rel C S0 m1 a1 w) (hd : Dom C S0 m1 a1 w M) (hl : M l) (hl' : ¬ M' l) (hM : ∀ k, M' k → M k) (hap : Apart M' S0 m1 a1) (hrec : w.heap[l]? = some (.loop r))
  (hm0 : m0.le m1) (hsub : Sub mi w) (hn : NewM m0 mi M') (hL : S1.L = S0.L) (hids : S1.ids = S0.ids) (htok : S1.tok = S0.tok) (htk : S1.tkeys = S0.tkeys) (hg : S1.gh = S0.gh) (hf : S1.fo = true) (hsz : tm.size = C.n) (henv : ∀ i sv, S1.env i = some sv → ∃ v, S1.den sv = some v ∧ tm[i]? = some v) :
  Rel (rctxM C (fun k => M' k ∨ k = l ∨ mark k ∈ a1.defers) (fun k => w.heap[k]?) w.heap.size (meY C mi M') (meY_le C mi M')) S1 (m1.or mi) { tmps := tm, defers := [] } w := by
 obtain ⟨hr2, hd2⟩ := hr.orMem hd hM hap hm0 hsub hn
 have hX : ∀ k o, w.heap[k]? = some o → isMem o = true → ¬ M' k → ¬ (M' k ∨ k = l ∨ mark k ∈ a1.defers) := by
  rintro k o hk hm hn (h | h | h)
  ·exact hn h
  ·exact mem_ne_loop hk hm hrec h
  ·have := hr.markAt h
   rw [this] at hk; cases hk; cases hm
 have hmem : ∀ {b o v}, w.cell? ⟨b, o, none⟩ = some v → ∃ ob, w.heap[b]? = some ob ∧ isMem ob = true := fun {b o v} h1 => by
  unfold World.cell? at h1
  split at h1
  ·rename_i c T fr hc; exact ⟨_, hc, rfl⟩
  ·cases h1
 refine hr2.swap (C2 := rctxM C (fun k => M' k ∨ k = l ∨ mark k ∈ a1.defers) (fun k => w.heap[k]?) w.heap.size (meY C mi M') (meY_le C mi M')) rfl ⟨fun b o v hv => ?_, fun b v hv => ?_⟩ hL hids htok htk henv hsz ⟨[], rfl, List.nodup_nil, by simp⟩ (fun _ _ _ _ => rfl) (fun k t b ht hb o => ?_) (fun h => by rw [hf] at h; cases h) ⟨fun k => M k ∧ ¬ (M' k ∨ k = l ∨ mark k ∈ a1.defers), ?_, fun k hk => hd.lt k hk.1, fun id x hx => ?_, fun k t b ht hb => ?_, by simp, ⟨fun b o v hv => ?_, fun b v hv => ?_⟩⟩
 ·rcases Mem.or_some hv with h1 | ⟨_, h2⟩
  ·exact (Mem.le_or _ _).c b o v (hr.le.c b o v h1)
  ·obtain ⟨h3, h4⟩ := Mem.on_c h2
   rw [Mem.or_right (none_of fun u hu => hap.mem b o u hu h3)]; exact h4
 ·rcases Mem.or_k hv with h1 | ⟨_, h2⟩
  ·exact (Mem.le_or _ _).k b v (hr.le.k b v h1)
  ·obtain ⟨h3, h4⟩ := Mem.on_k h2
   rw [Mem.or_kright (none_of fun u hu => hap.kn b u hu h3)]; exact h4
 ·have h1 := ((hr.toks k t ht).2 b hb).2 o
  show (meY C mi M') b o = none
  unfold meY
  rw [Mem.or_right h1]
  exact none_of fun u hu => hap.tok k t b ht hb (Mem.on_c hu).1
 ·rw [hg]
  refine ⟨M, hd.p, hd.lt, fun k hk => hk.1, fun k hk => ⟨?_, fun h => h.2 hk, rfl⟩, Nat.le_refl _⟩
  rcases hk with h | h | h
  ·exact hM k h
  ·exact h ▸ hl
  ·exact hd.mks k h
 ·rw [hL] at hx
  obtain ⟨c, T, fr, hc⟩ := (hr.own id x hx).isC
  exact ⟨hd.own id x hx, hX _ _ hc rfl (hap.box id x hx)⟩
 ·rw [htok] at ht
  obtain ⟨c, T, fr, hc⟩ := (hr.toks k t ht).1.isCells hb
  exact ⟨hd.tok k t b ht hb, hX _ _ hc rfl (hap.tok k t b ht hb)⟩
 ·rcases Mem.or_some hv with h1 | ⟨h1, h2⟩
  ·rcases hd.new.c b o v h1 with h3 | h3
   ·exact .inl ((Mem.le_or _ _).c b o v h3)
   ·obtain ⟨ob, h4, h5⟩ := hmem (hr.sub.c b o v h1)
    exact .inr ⟨h3, hX _ _ h4 h5 (hap.mem b o v h1)⟩
  ·rcases hn.c b o v h2 with h3 | h3
   ·rw [hm0.c b o v h3] at h1; cases h1
   ·refine .inl ?_
    show (meY C mi M') b o = some v
    unfold meY
    rw [Mem.or_right (none_of fun u hu => by rw [hr.le.c b o u hu] at h1; cases h1), Mem.on_at h3]; exact h2
 ·rcases Mem.or_k hv with h1 | ⟨h1, h2⟩
  ·rcases hd.new.k b v h1 with h3 | h3
   ·exact .inl ((Mem.le_or _ _).k b v h3)
   ·obtain ⟨es, cl, h4, _⟩ := hr.sub.k b v h1
    exact .inr ⟨h3, hX _ _ h4 rfl (hap.kn b v h1)⟩
  ·rcases hn.k b v h2 with h3 | h3
   ·rw [hm0.k b v h3] at h1; cases h1
   ·refine .inl ?_
    show (meY C mi M').k b = some v
    unfold meY
    rw [Mem.or_kright (none_of fun u hu => by rw [hr.le.k b u hu] at h1; cases h1), Mem.on_kat h3]; exact h2
theorem Rel.outOfRoundY {m0 mi : Mem} {X : Nat → Prop} {h1 : Nat → Option Obj} {B : Nat} {S' S2 : St} {a3 a1 : Act} {l : Nat} {r r' : Loop} (hr : Rel (rctxM C X h1 B (meY C mi M') (meY_le C mi M')) S' m a3 w) (hl : X l) (hrec : w.heap[l]? = some (.loop r))
  (hc0 : ∀ b o v, C.me b o = some v → ¬ X b) (hc0k : ∀ b e, C.me.k b = some e → ¬ X b) (hXm : ∀ D, mark D ∈ a1.defers → X D) (hX' : ∀ k, M' k → X k) (hMm : ∀ D, mark D ∈ a1.defers → ¬ M' D)
  (hm0 : ∀ b o v, m0 b o = some v → ¬ M' b) (hm0k : ∀ b e, m0.k b = some e → ¬ M' b) (hn : NewM m0 mi M')
  (hL : S2.L = S'.L) (hids : S2.ids = S'.ids) (htok : S2.tok = S'.tok) (htk : S2.tkeys = S'.tkeys) (hg : S2.gh = S'.gh) (hf : S2.fo = false → C.me = C.m0) (hsz : a1.tmps.size = C.n) (henv : ∀ i sv, S2.env i = some sv → ∃ v, S2.den sv = some v ∧ a1.tmps[i]? = some v)
  (hdef : ∃ ms : List Nat, a1.defers = ms.map mark ∧ ms.Nodup ∧ ∀ D ∈ ms, w.heap[D]? = some (.deferred (some []))) :
  Rel C S2 (m.less m0 mi) a1 (w.putObj l (.loop r')) ∧ ∃ M, Dom C S2 (m.less m0 mi) a1 (w.putObj l (.loop r')) M ∧ M l ∧ (∀ k, M' k → M k) ∧ Apart M' S2 (m.less m0 mi) a1 := by
 have hZ : ∀ b, m0.newC mi b → M' b := fun b ⟨o, v, g1, g2⟩ => by
  rcases hn.c b o v g1 with g | g
  ·rw [g2] at g; cases g
  ·exact g
 have hZk : ∀ b, m0.newK mi b → M' b := fun b ⟨e, g1, g2⟩ => by
  rcases hn.k b e g1 with g | g
  ·rw [g2] at g; cases g
  ·exact g
 have hne : ∀ (k : Nat) (o : Obj), w.heap[k]? = some o → isMem o = true → (w.putObj l (.loop r')).heap[k]? = w.heap[k]? := fun k o hk hm => World.putObj_heap_other (mem_ne_loop hk hm hrec)
 obtain ⟨ms, q1, q2, q3⟩ := hdef
 obtain ⟨Mr, hd⟩ := hr.dom
 obtain ⟨M, p1, p2, p3, p4, p5⟩ := hd.p
 have hnew : NewM C.me m M := ⟨fun b o v hv => by
  rcases hd.new.c b o v hv with h | h
  ·exact ((meY_new C mi M').c b o v h).imp_right fun h => (p4 b (hX' b h)).1
  ·exact .inr (p3 b h), fun b e he => by
  rcases hd.new.k b e he with h | h
  ·exact ((meY_new C mi M').k b e h).imp_right fun h => (p4 b (hX' b h)).1
  ·exact .inr (p3 b h)⟩
 have hD : Dom C S2 m a1 (w.putObj l (.loop r')) M :=
  ⟨hg ▸ C.st _ M M _ _ p1 (putObj_upd rfl (p4 l hl).1) (fun k hk => .inl hk), fun k hk => by rw [putObj_size]; exact p2 k hk, fun id x hx => p3 _ (hd.own id x (hL ▸ hx)), fun k t b ht hb => p3 _ (hd.tok k t b (htok ▸ ht) hb), fun D hD => (p4 D (hXm D hD)).1, hnew⟩
 have hle : C.me.le m := mLt (Mem.le_or _ _) hr.le
 have r1 : Rel C S2 m a1 (w.putObj l (.loop r')) := hr.swap (C2 := C) rfl hle hL hids htok htk henv hsz ⟨ms, q1, q2, fun D hD => by
  rw [World.putObj_heap_other (fun e => by have := q3 D hD; rw [e, hrec] at this; cases this)]; exact q3 D hD⟩ hne (fun k t b ht hb o => none_of fun u hu => by
   have h2 : (C.me.or (mi.on M')) b o = none := ((hr.toks k t ht).2 b hb).2 o
   rw [(Mem.le_or _ _).c b o u hu] at h2; cases h2) hf ⟨M, hD⟩
 have hbx : ∀ id x, S2.L id = some x → ¬ m0.newC mi x.b := fun id x hx h => (p4 _ (hX' _ (hZ _ h))).2.1 (hd.own id x (hL ▸ hx))
 have hoffc : ∀ b o v, C.me b o = some v → ¬ m0.newC mi b := fun b o v hv h => hc0 b o v hv (hX' b (hZ b h))
 have hoffk : ∀ b e, C.me.k b = some e → ¬ m0.newK mi b := fun b e he h => hc0k b e he (hX' b (hZk b h))
 refine ⟨r1.lessMem (Mem.less_le _ _ _) ⟨fun b o v hv => by rw [Mem.less_at (hoffc b o v hv)]; exact hle.c b o v hv, fun b e he => by rw [Mem.less_k (hoffk b e he)]; exact hle.k b e he⟩ (fun id x hx _ o => Mem.less_at (hbx id x hx) o), M,
  ⟨hD.p, hD.lt, hD.own, hD.tok, hD.mks, hD.new.less (Mem.less_le _ _ _)⟩, (p4 l hl).1, fun k hk => (p4 k (hX' k hk)).1, ?_⟩
 refine ⟨fun id x hx h => (p4 _ (hX' _ h)).2.1 (hd.own id x (hL ▸ hx)), fun k t b ht hb h => (p4 _ (hX' _ h)).2.1 (hd.tok k t b (htok ▸ ht) hb), hMm, fun b o v hv h => ?_, fun b e he h => ?_⟩
 ·by_cases hz : m0.newC mi b
  ·rw [Mem.less_free hz o] at hv; cases hv
  ·rw [Mem.less_at hz] at hv
   rcases hd.new.c b o v hv with h2 | h2
   ·rcases Mem.or_some h2 with h3 | ⟨_, h3⟩
    ·exact hc0 b o v h3 (hX' b h)
    ·exact hz ⟨o, v, (Mem.on_c h3).2, none_of fun u hu => hm0 b o u hu h⟩
   ·exact (p4 b (hX' b h)).2.1 h2
 ·by_cases hz : m0.newK mi b
  ·rw [Mem.less_kn hz] at he; cases he
  ·rw [Mem.less_k hz] at he
   rcases hd.new.k b e he with h2 | h2
   ·rcases Mem.or_k h2 with h3 | ⟨_, h3⟩
    ·exact hc0k b e h3 (hX' b h)
    ·exact hz ⟨e, (Mem.on_k h3).2, none_of fun u hu => hm0k b u hu h⟩
   ·exact (p4 b (hX' b h)).2.1 h2
end
end Go.Eng
namespace Go.Eng
open Go Go.RowKit
section
variable {C : Ctx} {S : St} {m0 : Mem} {a : Act} {w w' : World} {M M' : Nat → Prop}
def clientY (C : Ctx) (S : St) (m0 : Mem) (A : LoopAnn) (I : List Value → List (List Value) → List Value → Mem → Nat → Prop) (a1 : Act) (l : Nat) (rec : LoopState → Option Code → Loop) (k : Int) (M' : Nat → Prop) (W : World) : Prop :=
 ∃ (g : Int) (css : List (List Value)) (tvs : List Value) (m' : Mem), css.length = A.boxes.length ∧ tvs.length = A.toks.length ∧ slicesL tvs ∧ (A.gh = false → g = S.gh) ∧ m0.le m' ∧
  Rel C (havoc S [] { A with slots := [] } g [] css tvs) m' a1 W ∧
  (∃ M, Dom C (havoc S [] { A with slots := [] } g [] css tvs) m' a1 W M ∧ M l ∧ ¬ M' l ∧ (∀ k, M' k → M k) ∧ Apart M' (havoc S [] { A with slots := [] } g [] css tvs) m' a1) ∧
  0 ≤ k ∧ I (ghs A.gh g []) css tvs m' k.toNat ∧ W.heap[l]? = some (.loop (rec .ready none))
theorem clientY_lasts {A : LoopAnn} {I : List Value → List (List Value) → List Value → Mem → Nat → Prop} {a1 : Act} {l : Nat} {rec : LoopState → Option Code → Loop} : Lasts (clientY C S m0 A I a1 l rec) := by
 rintro k M' M2 W W' ⟨g, css, tvs, m', h1, h2, h3, h4, h5, hr, ⟨M, hd, hl, hl', hM, hap⟩, hc0, hc1, hc⟩ hu hg
 obtain ⟨hr2, hd2⟩ := hr.foreign hd hM hap hu
 have hll := hd.lt l hl
 have hlW : W'.heap[l]? = W.heap[l]? := hu.block l hll hl'
 have key : ∀ k, k < W.heap.size → ¬ M' k → ¬ M2 k := fun k hk hn h => by
  rcases hg k h with h | h
  ·exact hn h
  ·omega
 refine ⟨g, css, tvs, m', h1, h2, h3, h4, h5, hr2, ⟨_, hd2, .inl hl, key l hll hl', fun k hk => ?_, ?_⟩, hc0, hc1, by rw [hlW]; exact hc⟩
 ·rcases hg k hk with h | h
  ·exact .inl (hM k h)
  ·exact .inr h
 ·exact ⟨fun id x hx => key _ (hr.own id x hx).lt (hap.box id x hx), fun k t b ht hb => key _ ((hr.toks k t ht).1.lt hb) (hap.tok k t b ht hb), fun D hD => key _ (hd.lt D (hd.mks D hD)) (hap.mks D hD), fun b o v hv => key _ (hr.sub.lt hv) (hap.mem b o v hv), fun b e he => key _ (hr.sub.k b e he).lt (hap.kn b e he)⟩
theorem clientY_yield {E : Env} {A : LoopAnn} {I : List Value → List (List Value) → List Value → Mem → Nat → Prop} {a1 : Act} {l : Nat} {fn : FuncId} {ps : Array Tmp} {x y : Code} {D : Nat} {Tx Ty : KT → St → Mem → Prop} {n0 : Nat} {V : Nat → List Value → Mem → Prop}
  (hSx : SoundC E Tx x) (hSy : SoundC E Ty y) (hYC : YOk E C) (hlx : codeLt C.n x = true) (hly : codeLt C.n y = true) (hps : ps.toList.all (Nat.blt · C.n) = true) (hS : StOk S) (hfo : S.fo = false) (hsz : a1.tmps.size = C.n) (henv : ∀ i sv, S.env i = some sv → ∃ v, S.den sv = some v ∧ a1.tmps[i]? = some v)
  (hpe : natsEq ps.toList (A.slots.map (·.1)) = true) (hpn : natsNodup ps.toList = true) (hfit : ∀ i v mi, V i v mi → Shape.fitsL (A.slots.map (·.2)) v = true)
  (hb : allG A.gh S.gh fun y => Shape.allL (A.slots.map (·.2)) fun x => allCs A.boxes fun css => allTs A.toks fun tvs => ∀ (m' mi : Mem) (k : Nat), k < n0 → m0.le m' → m0.le mi → mi.le (m'.or mi) → (∀ b, m0.newC mi b → m'.free b) → V k x mi → I (ghs A.gh y []) css tvs m' k →
     Tx (fun e S1 m1 => match e with
      | .normal => Ty (fun e S' m'' => match e with
       | .normal => sameG A.gh S'.gh S.gh S'.fo true (sameB (restOf S' A S.ids) (restOf S A S.ids) (sameT (restTok S' A S.tkeys) (restTok S A S.tkeys) (csOf S' A.boxes fun css' => toksOf S' A.toks fun tvs' => m0.le m'' ∧ I (ghs A.gh S'.gh []) css' tvs' (m''.less m0 mi) (k + 1))))
       | _ => False) S1 m1
      | _ => False) (havoc { S with fo := true } [] A y x css tvs) (m'.or mi)) :
  YieldOkY E.P m0 (clientY C S m0 A I a1 l (recOf fn a1.tmps ps x y D)) (fun l' g v mi => l' = l ∧ ∃ i : Nat, g = (i : Int) ∧ i < n0 ∧ V i v mi) := by
 rintro F n l' k v M' w mi hF hlt ⟨rfl, i, rfl, hin, hV⟩ hmi hnw ⟨g, css, tvs, m', h1, h2, h3, h4, h5, hr, ⟨M, hd, hl, hl', hM, hap⟩, _, hI, hrec⟩ hsub
 have hI : I (ghs A.gh g []) css tvs m' i := hI
 have hps' := natsEq_spec hpe
 have hvf := hfit i v mi hV
 have hvl : v.length = ps.toList.length := by rw [hps', fitsL_length hvf]; simp
 have hnd := natsNodup_spec hpn
 have hy := run_yield (P := E.P) (args := v.toArray) hrec (by simpa [recOf] using hvl)
 simp only [recOf] at hy
 refine ⟨_, _, _, _, hy, roundIn_of_wpIn (hF.fn _) ?_⟩
 have hfold : ((ps.zip v.toArray).foldl (fun tmps (x : Tmp × Value) => tmps.setIfInBounds x.1 x.2) a1.tmps) = ((ps.toList.zip v).foldl (fun (t : Array Value) (x : Nat × Value) => t.setIfInBounds x.1 x.2) a1.tmps) := by
  rw [← Array.foldl_toList, Array.toList_zip]
 obtain ⟨f1, f2, f3⟩ := fold_params ps.toList v a1.tmps hvl hnd
 have hF1 := hF.inRound l'
 have hr1 := hr.intoRoundY (S1 := havoc { S with fo := true } [] A g v css tvs) (tm := (ps.toList.zip v).foldl (fun (t : Array Value) (x : Nat × Value) => t.setIfInBounds x.1 x.2) a1.tmps) hd hl hl' hM hap hrec h5 hsub hnw rfl rfl rfl rfl rfl rfl (by rw [f1]; exact hsz) (by
  intro i sv he
  simp only [havoc] at he
  rcases setVals_in2 (by rw [fitsL_length hvf]; simp) he with ⟨g1, g2⟩ | ⟨q, sh, u, g1, g2, g3⟩
  ·simp only [List.any_nil, cond_false] at g1
   obtain ⟨u, g3, g4⟩ := henv i sv g1
   exact ⟨u, den_havoc (S := { S with fo := true }) (by cases sv <;> exact g3), by rw [f2 i (by rw [hps']; exact g2)]; exact g4⟩
  ·subst g3
   refine ⟨u, rfl, f3 q i u ?_ g2 ?_⟩
   ·rw [hps', List.getElem?_map, g1]; rfl
   ·have : i ∈ ps.toList := by rw [hps']; exact List.mem_map.2 ⟨_, List.mem_of_getElem? g1, rfl⟩
    have := List.all_eq_true.1 hps i this
    rw [hsz]; exact blt_lt' this)
 rw [hfold]
 have hX0 : ∀ b o v, C.me b o = some v → ¬ (M' b ∨ b = l' ∨ mark b ∈ a1.defers) := by
  intro b o v hv
  have hv' : m' b o = some v := hr.le b o v hv
  obtain ⟨c, T, fr, hc⟩ := hr.sub.isCells hv'
  rintro (h | h | h)
  ·exact hap.mem b o v hv' h
  ·exact cells_ne_loop hc hrec h
  ·exact cells_ne_def hc (hr.markAt h) rfl
 have hX0k : ∀ b e, C.me.k b = some e → ¬ (M' b ∨ b = l' ∨ mark b ∈ a1.defers) := by
  intro b e he
  have he' : m'.k b = some e := hr.le.k b e he
  obtain ⟨es, cl, h1, _⟩ := hr.sub.k b e he'
  rintro (h | h | h)
  ·exact hap.kn b e he' h
  ·exact mem_ne_loop h1 rfl hrec h
  ·have := hr.markAt h
   rw [h1] at this; cases this
 have hm0 : ∀ b o v, m0 b o = some v → ¬ M' b := fun b o v hv => hap.mem b o v (h5.c b o v hv)
 have hm0k : ∀ b e, m0.k b = some e → ¬ M' b := fun b e he => hap.kn b e (h5.k b e he)
 have hfr : ∀ b, m0.newC mi b → m'.free b := fun b ⟨o, v, g1, g2⟩ o' => none_of fun u hu => by
  rcases hnw.c b o v g1 with g | g
  ·rw [g2] at g; cases g
  ·exact hap.mem b o' u hu g
 have hYR : YOk E (rctxM C (fun k => M' k ∨ k = l' ∨ mark k ∈ a1.defers) (fun k => w.heap[k]?) w.heap.size (meY C mi M') (meY_le C mi M')) := rctx_yok hYC (Mem.le_or _ _) ((meY_new C mi M').mono fun _ => .inl)
 have hb1 := allTs_elim (allCs_elim (Shape.allL_fits _ _ (allG_elim hb h4) v hvf) css h1) tvs h2 h3 m' mi i hin h5 hmi (hr.sub.le_or hsub) hfr hV hI
 refine hSx hF1 hYR ?_ n hlx hr1 hb1 ?_
 ·intro l2 hl2 g2 Mr w2 hp
  have : l2 = l' := by simpa using hl2.symm
  subst this
  obtain ⟨M2, _, _, _, p4, _⟩ := hp
  exact ⟨_, by rw [(p4 l2 (.inr (.inl rfl))).2.2]; exact hrec⟩
 rintro e S1 m1 a2 w1 hk hr2
 cases e with
 | normal =>
  obtain ⟨z1, z2⟩ := hr2.atX
  have hrec1 : w1.heap[l']? = some (.loop (recOf fn a1.tmps ps x y D .ready none)) := by rw [z2 l' (.inr (.inl rfl))]; exact hrec
  refine ⟨_, run_beginRound hrec1 rfl, ?_⟩
  have hr3 := hr2.beginRound (r' := { recOf fn a1.tmps ps x y D .ready none with state := .busy }) (.inr (.inl rfl)) hrec1
  have hl1 : l' < w1.heap.size := (Array.getElem?_eq_some_iff.1 hrec1).1
  have hw2 : (w1.putObj l' (.loop { recOf fn a1.tmps ps x y D .ready none with state := .busy })).heap[l']? = some (.loop { recOf fn a1.tmps ps x y D .ready none with state := .busy }) := World.putObj_heap_same hl1
  refine hSy hF1 (rctx_yok hYC (Mem.le_or _ _) ((meY_new C mi M').mono fun _ => .inl)) ?_ n hly hr3 hk ?_
  ·intro l2 hl2 g2 Mr w2 hp
   have : l2 = l' := by simpa using hl2.symm
   subst this
   obtain ⟨M2, _, _, _, p4, _⟩ := hp
   exact ⟨_, by rw [(p4 l2 (.inr (.inl rfl))).2.2]; exact hw2⟩
  rintro e S' m'' a3 w3 hk hr4
  cases e with
  | normal =>
   obtain ⟨q1, qf, hk⟩ := sameG_elim hk
   obtain ⟨q2, hk⟩ := sameB_iff.1 hk
   obtain ⟨q3, hk⟩ := sameT_iff.1 hk
   obtain ⟨css', g1, g2, hk⟩ := csOf_sound hk
   obtain ⟨tvs', k1, k2, hle', hk⟩ := toksOf_sound hk
   obtain ⟨y1, y2⟩ := hr4.atX
   have hrec3 : w3.heap[l']? = some (.loop { recOf fn a1.tmps ps x y D .ready none with state := .busy }) := by rw [y2 l' (.inr (.inl rfl))]; exact hw2
   have hx : Rel (rctxM C (fun k => M' k ∨ k = l' ∨ mark k ∈ a1.defers) (fun k => (w1.putObj l' (.loop { recOf fn a1.tmps ps x y D .ready none with state := .busy })).heap[k]?) w.heap.size (meY C mi M') (meY_le C mi M')) (havoc { S with env := fun _ => none, fo := true } [] { A with slots := [] } S'.gh [] css' tvs') m'' a3 w3 := by
    have hh := hr4.restrict (S2 := { S' with env := fun _ => none }) rfl rfl (fun _ _ h => h) (fun _ _ h => .inl h) (fun i sv h => (by cases h)) hr4.ids hr4.tkeys
    exact havoc_rel (S := { S with env := fun _ => none, fo := true }) (S' := { S' with env := fun _ => none }) (A := { A with slots := [] }) ⟨fun i sv h => (by cases h), hS.ids, hS.tkeys⟩ hh qf (fun _ _ => rfl) q2 q3 (by simp) g1 g2 k1 k2
   have hdef : ∃ ms : List Nat, a1.defers = ms.map mark ∧ ms.Nodup ∧ ∀ D ∈ ms, w3.heap[D]? = some (.deferred (some [])) := by
    obtain ⟨ms, r1, r2, r3⟩ := hr.defers
    refine ⟨ms, r1, r2, fun D' hD' => ?_⟩
    have hm : mark D' ∈ a1.defers := by rw [r1]; exact List.mem_map.2 ⟨_, hD', rfl⟩
    rw [y2 D' (.inr (.inr hm)), World.putObj_heap_other (fun e => by have := r3 D' hD'; rw [e, hrec] at this; cases this), z2 D' (.inr (.inr hm))]; exact r3 D' hD'
   obtain ⟨o1, M3, o2, o3, o4, o5⟩ := hx.outOfRoundY (S2 := havoc S [] { A with slots := [] } S'.gh [] css' tvs') (a1 := a1) (M' := M') (m0 := m0) (r' := recOf fn a1.tmps ps x y D .ready none) (.inr (.inl rfl)) hrec3 hX0 hX0k (fun D' hD' => .inr (.inr hD')) (fun k hk => .inl hk) hap.mks hm0 hm0k hnw rfl rfl rfl rfl rfl (fun h => hr.fo h) hsz (by
    intro i sv he
    simp only [havoc, setVals, List.any_nil, cond_false] at he
    obtain ⟨u, g3, g4⟩ := henv i sv he
    exact ⟨u, den_havoc g3, g4⟩) hdef
   have hl3 : l' < w3.heap.size := (Array.getElem?_eq_some_iff.1 hrec3).1
   have hfr2 : m0.le (m''.less m0 mi) := ⟨fun b o v hv => by
    rw [Mem.less_at (fun hz => by
     have h6 := hfr b hz o
     rw [h5.c b o v hv] at h6; cases h6)]; exact hle'.c b o v hv, fun b e he => by
    rw [Mem.less_k (fun ⟨e', z1, z2⟩ => by rw [he] at z2; cases z2)]; exact hle'.k b e he⟩
   have hsl : slicesL tvs' := by
    intro u hu
    obtain ⟨i, hi⟩ := List.getElem?_of_mem hu
    have hlt := (List.getElem?_eq_some_iff.1 hi).1
    obtain ⟨qe, hqe⟩ : ∃ qe, A.toks[i]? = some qe := ⟨_, List.getElem?_eq_getElem (by omega)⟩
    exact (k2 i qe.1 qe.2 u hqe hi).1
   refine ⟨_, _, run_endRound none hrec3, rfl, ⟨S'.gh, css', tvs', m''.less m0 mi, g1, k1, hsl, q1, hfr2, o1, ⟨M3, o2, o3, hl', o4, o5⟩, by omega, ?_, World.putObj_heap_same hl3⟩, ?_⟩
   ·have : ((i : Int) + 1).toNat = i + 1 := by omega
    rw [this]; exact hk
   ·refine ⟨by rw [putObj_size]; exact y1, fun k hk hkm => ?_, o1.sub.less hfr2⟩
    have hne : k ≠ l' := fun e => hl' (e ▸ hkm)
    rw [World.putObj_heap_other hne, y2 k (.inl hkm), World.putObj_heap_other hne, z2 k (.inl hkm)]
  | _ => exact hk.elim
 | exit id => exact hk.elim
 | goto t => exact hk.elim
 | ret => exact hk.elim
 | panic ch => exact hk.elim
 | outgrown => exact hk.elim
theorem rangeY_sound {E : Env} {m : Mem} {F : Fence} (hF : FOk F) (hYC : YOk E C) (hR : ROk F C) (n : Nat) {A : LoopAnn} {f : Operand} {ps : Array Tmp} {x y : Code} {Tx Ty : KT → St → Mem → Prop}
  (hSx : SoundC E Tx x) (hSy : SoundC E Ty y) (hlx : codeLt C.n x = true) (hly : codeLt C.n y = true) (hps : ps.toList.all (Nat.blt · C.n) = true)
  {K : KT} {Q : Exit → Act → World → Prop} (hr : Rel C S m a w) (h : rangeYW E A f ps.toList Tx Ty K S m) (hK : ∀ e S' m' a' w', K e S' m' → Rel C S' m' a' w' → Q e a' w') : (Code.rangeFunc f ps x y).wpIn F n E.P Q a w := by
 unfold rangeYW at h
 split at h
 rotate_left
 ·exact h.elim
 rename_i g first captured mm hev hmm
 obtain ⟨hc, Y, n0, V, R, hIX, hYk, hfit, I, h0, hb, hdone⟩ := chk_elim h
 simp only [Bool.and_eq_true] at hc
 have hfo : S.fo = false := by simpa using hc.1.2
 obtain ⟨v, e1, _, e2⟩ := hr.ev_val hev
 simp only [St.den, Option.some.injEq] at e1
 refine wpIn_rangeFunc fun fn hfn => ?_
 obtain ⟨l, mk, w1, D, hent, hr1, ⟨M1, hd1, hl1⟩, hrec⟩ := hr.enter (P := E.P) hR fn ps x y
 obtain ⟨a1, ha1⟩ : ∃ a1, a1 = ({ a with defers := mk ++ a.defers } : Act) := ⟨_, rfl⟩
 rw [← ha1] at hr1 hd1
 have hat : a1.tmps = a.tmps := by rw [ha1]
 have hrec' : w1.heap[l]? = some (.loop (recOf fn a1.tmps ps x y D .ready none)) := by rw [hat]; exact hrec
 have hme : C.me = mm := (hr.fo hfo).trans (hYC.m0 mm hmm).1
 have hYm : ∀ b, Y b → ∃ o, w1.heap[b]? = some o ∧ isMem o = true ∧ ∀ c T fr, o ≠ .cells c T fr := fun b hb => by
  obtain ⟨_, e, he⟩ := hYk b hb
  obtain ⟨es, cl, h1, _⟩ := hr1.sub.k b e he
  exact ⟨_, h1, rfl, fun _ _ _ h => by cases h⟩
 have hYM : ∀ b, Y b → M1 b := fun b hb => by
  obtain ⟨h1, e, he⟩ := hYk b hb
  rcases hd1.new.k b e he with h2 | h2
  ·rw [hme, h1] at h2; cases h2
  ·exact h2
 have hYc : ∀ (b : Nat), Y b → ∀ c T fr, w1.heap[b]? ≠ some (.cells c T fr) := fun b hb c T fr hh => by
  obtain ⟨o, h1, _, h2⟩ := hYm b hb
  rw [h1] at hh; exact h2 c T fr (Option.some.inj hh)
 have hYl : ¬ Y l := fun hb => by
  obtain ⟨o, h1, h2, _⟩ := hYm l hb
  rw [hrec] at h1; cases h1; cases h2
 have hle0 : C.me.le (m.off Y) := ⟨fun b o u hu => by
  rw [Mem.off_at (fun hb => by
   obtain ⟨c, T, fr, hh⟩ := hr1.sub.isCells (hr1.le.c b o u hu)
   exact hYc b hb c T fr hh)]; exact hr1.le.c b o u hu, fun b e he => by
  rw [Mem.off_k (fun hb => by
   rw [hme, (hYk b hb).1] at he; cases he)]; exact hr1.le.k b e he⟩
 have hr0 : Rel C S (m.off Y) a1 w1 := hr1.lessMem (Mem.off_le _ _) hle0 (fun id x hx _ o => Mem.off_at (fun hb => by
  obtain ⟨c, T, fr, hh⟩ := (hr1.own id x hx).isC
  exact hYc _ hb c T fr hh) o)
 have hap : Apart Y S (m.off Y) a1 := ⟨fun id x hx hb => by
  obtain ⟨c, T, fr, hh⟩ := (hr1.own id x hx).isC
  exact hYc _ hb c T fr hh, fun k t b ht htb hb => by
  obtain ⟨c, T, fr, hh⟩ := (hr1.toks k t ht).1.isCells htb
  exact hYc _ hb c T fr hh, fun D hD hb => by
  obtain ⟨o, g1, g2, _⟩ := hYm D hb
  rw [hr1.markAt hD] at g1; cases g1; exact (by cases g2), fun b o u hu hb => (by
  rw [Mem.off_free hb] at hu; cases hu), fun b e he hb => (by
  rw [Mem.off_kn hb] at he; cases he)⟩
 refine ⟨l, mk, w1, { target := .fn (.func g) captured, args := first ++ #[.func (.yield l) #[] #[]] }, w1, g, (first.toList ++ .func (.yield l) #[] #[] :: captured.toList).toArray, w1, hent, ?_, fun f' _ => hF.fn f', ?_, fun hs => by rw [hF.depth] at hs; simp at hs, ?_⟩
 ·simp only [resolve, e2, ← e1, Deferred.ofValue]
  simp [go_sem]
 ·have hargs : first ++ #[Value.func (.yield l) #[] #[]] ++ captured = (first.toList ++ Value.func (.yield l) #[] #[] :: captured.toList).toArray := Array.ext' (by simp)
  simp only [invoke, hargs]
  exact hIX.1 _ _
 ·obtain ⟨css, g1, g2, h0⟩ := csOf_sound h0
  obtain ⟨tvs, k1, k2, hI⟩ := toksOf_sound h0
  have hsl : slicesL tvs := by
   intro u hu
   obtain ⟨i, hi⟩ := List.getElem?_of_mem hu
   have hlt := (List.getElem?_eq_some_iff.1 hi).1
   obtain ⟨qe, hqe⟩ : ∃ qe, A.toks[i]? = some qe := ⟨_, List.getElem?_eq_getElem (by omega)⟩
   exact (k2 i qe.1 qe.2 u hqe hi).1
  have hhav : Rel C (havoc S [] { A with slots := [] } S.gh [] css tvs) (m.off Y) a1 w1 := havoc_rel hr0.ok hr0 rfl (SameOut.refl _ _) rfl rfl (by simp) g1 g2 k1 k2
  have hbx : ∀ id y, (havoc S [] { A with slots := [] } S.gh [] css tvs).L id = some y → ∃ id x, S.L id = some x ∧ x.b = y.b := fun id y hy => by
   simp only [havoc] at hy
   rcases setCs_spec hy with ⟨i, x', cs, q1, q2, q3, q4⟩ | ⟨q1, q2⟩
   ·exact ⟨id, x', q3, by rw [q4]⟩
   ·exact ⟨id, y, q2, rfl⟩
  have htk : ∀ k t b, (havoc S [] { A with slots := [] } S.gh [] css tvs).tok k = some t → t.blk = some b → ∃ t, S.tok k = some t ∧ t.blk = some b := fun k t b ht hb => by
   simp only [havoc] at ht
   rcases setToks_spec ht with ⟨i, e, u, q1, q2, q3⟩ | ⟨q1, q2⟩
   ·obtain ⟨_, q5⟩ := k2 i k e u q1 q2
    subst q3
    rcases q5 with q5 | q5
    ·exact ⟨_, q5, hb⟩
    ·simp [Tok.blk, q5] at hb
   ·exact ⟨t, q2, hb⟩
  have hcl0 : clientY C S (m.off Y) A I a1 l (recOf fn a1.tmps ps x y D) 0 Y w1 := by
   refine ⟨S.gh, css, tvs, m.off Y, g1, k1, hsl, fun _ => rfl, Mem.le_refl _, hhav, ?_, Int.le_refl _, hI, hrec'⟩
   have hd2 : Dom C (havoc S [] { A with slots := [] } S.gh [] css tvs) (m.off Y) a1 w1 M1 := by
    refine ⟨hd1.p, hd1.lt, fun id y hy => ?_, fun k t b ht hb => ?_, hd1.mks, hd1.new.less (Mem.off_le _ _)⟩
    ·obtain ⟨id', x, q1, q2⟩ := hbx id y hy
     rw [← q2]; exact hd1.own id' x q1
    ·obtain ⟨t', q1, q2⟩ := htk k t b ht hb
     exact hd1.tok k t' b q1 q2
   refine ⟨M1, hd2, hl1, hYl, hYM, ⟨fun id y hy hb => ?_, fun k t b ht hb => ?_, hap.mks, hap.mem, hap.kn⟩⟩
   ·obtain ⟨id', x, q1, q2⟩ := hbx id y hy
    exact hap.box id' x q1 (q2 ▸ hb)
   ·obtain ⟨t', q1, q2⟩ := htk k t b ht hb
    exact hap.tok k t' b q1 q2
  have henv : ∀ i sv, S.env i = some sv → ∃ v, S.den sv = some v ∧ a1.tmps[i]? = some v := fun i sv he => hr1.env i sv he
  have hyield := clientY_yield (E := E) (S := S) (m0 := m.off Y) (l := l) (fn := fn) (D := D) hSx hSy hYC hlx hly hps hr.ok hfo hr1.size henv hc.2.1 hc.2.2 hfit hb
  refine hF.calls ((hIX.2 _ clientY_lasts l w1 hr1.sub (fun b hb => by
   obtain ⟨o, q1, _, q2⟩ := hYm b hb
   exact ⟨(Array.getElem?_eq_some_iff.1 q1).1, fun c T fr hh => by rw [q1] at hh; exact (q2 c T fr (Option.some.inj hh)).elim⟩) hcl0 hyield).mono ?_)
  rintro e w2 ⟨v, M2, me, rfl, hlt, hcl, hs2, hl2, hn2, hR2⟩
  rw [← ha1]
  obtain ⟨gg, css2, tvs2, m2, y1, y2, y3, y4, y5, y6, ⟨M3, y7, y8, y9, y10, y11⟩, _, hI2, hrec2⟩ := hcl
  refine ⟨none, _, run_endLoop hrec2 (by simp [recOf]), ?_⟩
  obtain ⟨z1, z2⟩ := y6.orMem y7 y10 y11 y5 hs2 hn2
  have := allTs_elim (allCs_elim (allG_elim hdone y4) css2 y1) tvs2 y2 y3 m2 me y5 hl2 (y6.sub.le_or hs2) (by simpa using hI2) hR2
  exact hK _ _ _ _ _ this (z1.afterRange z2 y8 hrec2)
end
end Go.Eng
