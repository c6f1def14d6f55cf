/- The engine: a reckoner over the code of a program in Lean, with its soundness; it names no program. No condition. -/
import Derived.WalkKit
import Derived.OwnWalkIn
import Derived.RangeFuncCalls
import Derived.Laws.CopyRow
import Derived.Laws.Cover3
set_option linter.unusedVariables false
set_option linter.unusedSimpArgs false
namespace Go.Eng
open Go Go.RowKit
theorem beq_ne {i d : Nat} (h : i ≠ d) : Nat.beq i d = false := by
 cases h' : Nat.beq i d with
 | false => rfl
 | true => exact absurd (Nat.eq_of_beq_eq_true h') h
@[simp] theorem beq_same (i : Nat) : Nat.beq i i = true := Nat.beq_refl i
structure Mem where
 c : Nat → Nat → Option Value
 k : Nat → Option (List (Value × Value))
instance : CoeFun Mem (fun _ => Nat → Nat → Option Value) := ⟨Mem.c⟩
structure Mem.le (m m' : Mem) : Prop where
 c : ∀ b o v, m b o = some v → m' b o = some v
 k : ∀ b e, m.k b = some e → m'.k b = some e
instance {m m' : Mem} : CoeFun (m.le m') (fun _ => ∀ b o v, m b o = some v → m' b o = some v) := ⟨Mem.le.c⟩
theorem Mem.le_refl (m : Mem) : m.le m := ⟨fun _ _ _ h => h, fun _ _ h => h⟩
theorem Mem.le_trans {a b c : Mem} (h : a.le b) (k : b.le c) : a.le c := ⟨fun _ _ _ x => k _ _ _ (h _ _ _ x), fun _ _ x => k.k _ _ (h.k _ _ x)⟩
theorem mLt {a b c : Mem} (h : a.le b) (k : b.le c) : a.le c := Mem.le_trans h k
def rg (a n : Nat) : List Nat := List.range' a n
def Mem.free (m : Mem) (b : Nat) : Prop := ∀ o, m b o = none
def Mem.add (m : Mem) (b : Nat) (cs : List Value) : Mem := ⟨fun b' o => if b' = b then cs[o]? else m b' o, m.k⟩
theorem Mem.le_add {m : Mem} {b : Nat} (h : m.free b) (cs : List Value) : m.le (m.add b cs) := ⟨fun b' o v hv => by
 by_cases e : b' = b
 ·subst e; rw [h o] at hv; cases hv
 ·simpa [Mem.add, e] using hv, fun _ _ h => h⟩
theorem Mem.add_same (m : Mem) (b : Nat) (cs : List Value) (o : Nat) : m.add b cs b o = cs[o]? := by simp [Mem.add]
theorem Mem.add_other (m : Mem) {b b' : Nat} (h : b' ≠ b) (cs : List Value) (o : Nat) : m.add b cs b' o = m b' o := by simp [Mem.add, h]
def Mem.reads (m : Mem) (b o : Nat) (vs : List Value) : Prop := ∀ j v, vs[j]? = some v → m b (o + j) = some v
theorem Mem.reads.mono {m m' : Mem} {b o : Nat} {vs : List Value} (h : m.reads b o vs) (k : m.le m') : m'.reads b o vs := fun j v hv => k _ _ _ (h j v hv)
def MapAt (w : World) (b : Nat) (e : List (Value × Value)) : Prop := ∃ es clock, w.heap[b]? = some (.map es clock) ∧ es.toList.map (fun x => (x.key, x.val)) = e
theorem MapAt.same {w w' : World} {b : Nat} {e : List (Value × Value)} (h : MapAt w b e) (hb : w'.heap[b]? = w.heap[b]?) : MapAt w' b e := by
 obtain ⟨es, c, h1, h2⟩ := h
 exact ⟨es, c, hb.trans h1, h2⟩
theorem MapAt.lt {w : World} {b : Nat} {e : List (Value × Value)} (h : MapAt w b e) : b < w.heap.size := by
 obtain ⟨es, c, h1, h2⟩ := h
 exact (Array.getElem?_eq_some_iff.1 h1).1
structure Sub (m : Mem) (w : World) : Prop where
 c : ∀ b o v, m b o = some v → w.cell? ⟨b, o, none⟩ = some v
 k : ∀ b e, m.k b = some e → MapAt w b e
instance {m : Mem} {w : World} : CoeFun (Sub m w) (fun _ => ∀ b o v, m b o = some v → w.cell? ⟨b, o, none⟩ = some v) := ⟨Sub.c⟩
structure NewM (m m' : Mem) (M : Nat → Prop) : Prop where
 c : ∀ b o v, m' b o = some v → m b o = some v ∨ M b
 k : ∀ b e, m'.k b = some e → m.k b = some e ∨ M b
instance {m m' : Mem} {M : Nat → Prop} : CoeFun (NewM m m' M) (fun _ => ∀ b o v, m' b o = some v → m b o = some v ∨ M b) := ⟨NewM.c⟩
theorem NewM.refl (m : Mem) (M : Nat → Prop) : NewM m m M := ⟨fun _ _ _ h => .inl h, fun _ _ h => .inl h⟩
theorem NewM.mono {m m' : Mem} {M N : Nat → Prop} (h : NewM m m' M) (hM : ∀ b, M b → N b) : NewM m m' N := ⟨fun b o v hv => (h.c b o v hv).imp_right (hM b), fun b e he => (h.k b e he).imp_right (hM b)⟩
theorem NewM.less {m m1 m' : Mem} {M : Nat → Prop} (h : NewM m m' M) (hm : m1.le m') : NewM m m1 M := ⟨fun b o v hv => h.c b o v (hm.c b o v hv), fun b e he => h.k b e (hm.k b e he)⟩
theorem cell?_eq {w w' : World} {b : Nat} (h : w'.heap[b]? = w.heap[b]?) (o : Nat) : w'.cell? ⟨b, o, none⟩ = w.cell? ⟨b, o, none⟩ := by
 simp [World.cell?, h]
theorem Sub.same {m m' : Mem} {w w' : World} (h : Sub m w) (hc : ∀ b o v, m' b o = some v → w'.cell? ⟨b, o, none⟩ = some v) (hk : ∀ b e, m'.k b = some e → m.k b = some e) (hb : ∀ b e, m.k b = some e → w'.heap[b]? = w.heap[b]?) : Sub m' w' :=
 ⟨hc, fun b e he => (h.k b e (hk b e he)).same (hb b e (hk b e he))⟩
theorem Sub.less {m m' : Mem} {w : World} (h : Sub m' w) (hm : m.le m') : Sub m w := ⟨fun b o v hv => h.c b o v (hm.c b o v hv), fun b e he => h.k b e (hm.k b e he)⟩
theorem Sub.below {m : Mem} {w w' : World} (h : Sub m w) (hb : ∀ b, b < w.heap.size → w'.heap[b]? = w.heap[b]?) : Sub m w' := ⟨fun b o v hv => by
  have h1 := h.c b o v hv
  rw [show w'.cell? ⟨b, o, none⟩ = w.cell? ⟨b, o, none⟩ from by simp [World.cell?, hb b (by simpa using block_lt_of_cell h1)]]; exact h1, fun b e he => (h.k b e he).same (hb b (h.k b e he).lt)⟩
theorem Sub.lt {m : Mem} {w : World} (h : Sub m w) {b o : Nat} {v : Value} (hv : m b o = some v) : b < w.heap.size := by
 have := block_lt_of_cell (h b o v hv); simpa using this
theorem Sub.add {m : Mem} {w : World} (h : Sub m w) {b : Nat} {cs : List Value} (hc : ∀ o v, cs[o]? = some v → w.cell? ⟨b, o, none⟩ = some v) : Sub (m.add b cs) w := ⟨fun b' o v hv => by
  by_cases e : b' = b
  ·subst e; rw [Mem.add_same] at hv; exact hc o v hv
  ·rw [Mem.add_other _ e] at hv; exact h.c b' o v hv, h.k⟩
theorem Sub.wr1 {m m' : Mem} {w w' : World} (h : Sub m w) {b0 : Nat} (h0 : ∃ c T fr, w.heap[b0]? = some (.cells c T fr)) (hother : ∀ k, k ≠ b0 → w'.heap[k]? = w.heap[k]?) (hk : ∀ b e, m'.k b = some e → m.k b = some e)
  (hc : ∀ b o v, m' b o = some v → w'.cell? ⟨b, o, none⟩ = some v) : Sub m' w' :=
 h.same hc hk fun b e he => hother b fun e' => by
  obtain ⟨c, T, fr, h0⟩ := h0
  obtain ⟨es, cl, h1, _⟩ := h.k b e he
  rw [e', h0] at h1; cases h1
theorem NewM.add (m : Mem) {b : Nat} (cs : List Value) {M : Nat → Prop} (hb : M b) : NewM m (m.add b cs) M := ⟨fun b' o v hv => by
  by_cases e : b' = b
  ·subst e; exact .inr hb
  ·rw [Mem.add_other _ e] at hv; exact .inl hv, fun _ _ h => .inl h⟩
theorem NewM.add' {m0 m : Mem} {M : Nat → Prop} (h : NewM m0 m M) {b : Nat} (cs : List Value) (hb : M b) : NewM m0 (m.add b cs) M := ⟨fun b' o v hv => by
  by_cases e : b' = b
  ·subst e; exact .inr hb
  ·rw [Mem.add_other _ e] at hv; exact h.c b' o v hv, h.k⟩
theorem Sub.alloc {m : Mem} {w : World} (h : Sub m w) (o : Obj) : Sub m (w.alloc o) := h.below fun b hb => Below.heap_alloc w o b hb
def Wr (w : World) (k : Nat) : Prop := ∀ c T fr, w.heap[k]? = some (.cells c T fr) → ∀ o, o < c.size → ¬ (fr.1 ≤ o ∧ o < fr.2)
def wrObj (o : Obj) : Prop := ∀ c T fr, o = .cells c T fr → ∀ i, i < c.size → ¬ (fr.1 ≤ i ∧ i < fr.2)
theorem wrObj0 (c : Array Value) (T : TypeId) : wrObj (.cells c T (0, 0)) := fun c' T' fr e i hi h => by
 simp only [Obj.cells.injEq] at e
 obtain ⟨rfl, rfl, rfl⟩ := e
 simp only at h; omega
theorem Wr.of_eq {w w' : World} {k : Nat} (h : w'.heap[k]? = w.heap[k]?) : Wr w k → Wr w' k := fun hw c T fr hh => hw c T fr (h ▸ hh)
theorem Wr.of_none {w : World} {k : Nat} (h : w.heap.size ≤ k) : Wr w k := fun c T fr hh => by
 have := (Array.getElem?_eq_some_iff.1 hh).1; omega
abbrev NewOnly (m m' : Mem) (w w' : World) : Prop := NewM m m' (fun b => w.heap.size ≤ b ∧ Wr w' b)
structure Keep (B : Nat) (bs : List Nat) (w w' : World) : Prop where
 os : w'.os = w.os
 tape : w'.tape = w.tape
 output : w'.output = w.output
 size : w.heap.size ≤ w'.heap.size
 block : ∀ k, k < B → k ∉ bs → w'.heap[k]? = w.heap[k]?
 wr : ∀ k, k < w.heap.size → Wr w k → Wr w' k
theorem Keep.refl (B : Nat) (bs : List Nat) (w : World) : Keep B bs w w := ⟨rfl, rfl, rfl, Nat.le_refl _, fun _ _ _ => rfl, fun _ _ h => h⟩
theorem Keep.trans {B : Nat} {bs : List Nat} {a b c : World} (h : Keep B bs a b) (k : Keep B bs b c) : Keep B bs a c :=
 ⟨k.os.trans h.os, k.tape.trans h.tape, k.output.trans h.output, Nat.le_trans h.size k.size, fun i hi hn => (k.block i hi hn).trans (h.block i hi hn), fun i hl hi => k.wr i (Nat.lt_of_lt_of_le hl h.size) (h.wr i hl hi)⟩
theorem Keep.mono {B B' : Nat} {bs bs' : List Nat} {w w' : World} (h : Keep B bs w w') (hB : B' ≤ B) (hs : ∀ k, k < B' → k ∈ bs → k ∈ bs') : Keep B' bs' w w' :=
 ⟨h.os, h.tape, h.output, h.size, fun k hk hn => h.block k (Nat.lt_of_lt_of_le hk hB) (fun hm => hn (hs k hk hm)), h.wr⟩
theorem Keep.below {B : Nat} {w w' : World} (h : Keep B [] w w') : Below B w w' := ⟨h.os, h.tape, h.output, h.size, fun k hk => h.block k hk (by simp)⟩
theorem Keep.of_below {B : Nat} {bs : List Nat} {w w' : World} (h : Below B w w') (hw : ∀ k, k < w.heap.size → Wr w k → Wr w' k) : Keep B bs w w' := ⟨h.os, h.tape, h.output, h.size, fun k hk _ => h.block k hk, hw⟩
theorem Keep.drew {B : Nat} {bs : List Nat} (w : World) : Keep B bs w w.drew := ⟨rfl, rfl, rfl, Nat.le_refl _, fun _ _ _ => rfl, fun _ _ h => h⟩
theorem Wr.alloc {w : World} {o : Obj} (ho : wrObj o) {k : Nat} (h : Wr w k) : Wr (w.alloc o) k := fun c T fr hh i hi => by
 rcases Nat.lt_trichotomy k w.heap.size with hk | rfl | hk
 ·rw [Below.heap_alloc w o k hk] at hh; exact h c T fr hh i hi
 ·rw [heap_alloc_new w o] at hh; exact ho c T fr (Option.some.inj hh) i hi
 ·have := (Array.getElem?_eq_some_iff.1 hh).1
  simp at this; omega
theorem Keep.alloc {B : Nat} {bs : List Nat} {w : World} (hB : B ≤ w.heap.size) {o : Obj} (ho : wrObj o) : Keep B bs w (w.alloc o) :=
 Keep.of_below ((Below.refl B w).alloc hB o) (fun _ _ h => h.alloc ho)
theorem Wr.new {w : World} {o : Obj} (ho : wrObj o) : Wr (w.alloc o) w.heap.size := (Wr.of_none (Nat.le_refl _)).alloc ho
structure Box where
 b : Nat
 cs : List Value
 T : TypeId
 cap : Nat
 fz : Bool
 full : Bool
structure Own (m : Mem) (w : World) (x : Box) : Prop where
 cells : ∃ sp fr, w.heap[x.b]? = some (.cells (x.cs ++ sp).toArray x.T fr) ∧ (x.cs ++ sp).length = x.cap ∧ (fr.1 = fr.2 ∨ x.cap ≤ fr.1)
 free : x.fz = false → m.free x.b
 known : x.fz = true → m.reads x.b 0 x.cs
 whole : x.full = true → x.cs.length = x.cap
theorem Own.isC {m : Mem} {w : World} {x : Box} (h : Own m w x) : ∃ c T fr, w.heap[x.b]? = some (.cells c T fr) := by
 obtain ⟨sp, fr, hh, _⟩ := h.cells
 exact ⟨_, _, _, hh⟩
theorem Own.lt {m : Mem} {w : World} {x : Box} (h : Own m w x) : x.b < w.heap.size := by
 obtain ⟨sp, fr, hh, _⟩ := h.cells
 exact (Array.getElem?_eq_some_iff.1 hh).1
theorem Own.wr {m : Mem} {w : World} {x : Box} (h : Own m w x) : Wr w x.b := fun c T fr hh i hi hf => by
 obtain ⟨sp, fr', h1, h2, h3⟩ := h.cells
 rw [h1] at hh
 simp only [Option.some.injEq, Obj.cells.injEq] at hh
 obtain ⟨rfl, rfl, rfl⟩ := hh
 have hi' : i < x.cap := by rw [← h2]; simpa using hi
 omega
theorem Own.cell {m : Mem} {w : World} {x : Box} (h : Own m w x) {o : Nat} {v : Value} (hv : x.cs[o]? = some v) : w.cell? ⟨x.b, o, none⟩ = some v := by
 obtain ⟨sp, fr, hh, _⟩ := h.cells
 have hl : o < x.cs.length := (List.getElem?_eq_some_iff.1 hv).1
 simp [World.cell?, hh, List.getElem?_append_left hl, hv]
theorem Own.same {m m' : Mem} {w w' : World} {x : Box} (h : Own m w x) (hb : w'.heap[x.b]? = w.heap[x.b]?) (hm : m.le m') (hf : x.fz = false → m'.free x.b) : Own m' w' x :=
 ⟨by rw [hb]; exact h.cells, hf, fun hz => (h.known hz).mono hm, h.whole⟩
structure Tok where
 v : Value
 esz : Nat
def Tok.blk (t : Tok) : Option Nat := match t.v with
 | .slice (some a) _ _ => some a.block
 | _ => none
def TokOk (m : Mem) (w : World) (t : Tok) : Prop :=
 t.v = .slice none 0 0 ∨ ∃ b o0 n c cur T fr, t.v = .slice (some ⟨b, o0, none⟩) n c ∧ n ≤ c ∧ w.heap[b]? = some (.cells cur T fr) ∧ o0 + c * t.esz ≤ cur.size ∧
  (∀ o, o < cur.size → ¬ (fr.1 ≤ o ∧ o < fr.2)) ∧ (∀ o, o0 + n * t.esz ≤ o → o < o0 + c * t.esz → m b o = none)
theorem TokOk.lt {m : Mem} {w : World} {t : Tok} (h : TokOk m w t) {b : Nat} (hb : t.blk = some b) : b < w.heap.size := by
 rcases h with h | ⟨b', o0, n, c, cur, T, fr, h, _, hh, _⟩
 ·simp [Tok.blk, h] at hb
 ·simp [Tok.blk, h] at hb; subst hb; exact (Array.getElem?_eq_some_iff.1 hh).1
theorem TokOk.wr {m : Mem} {w : World} {t : Tok} (h : TokOk m w t) {b : Nat} (hb : t.blk = some b) : Wr w b := fun c1 T1 fr1 hh o ho => by
 rcases h with h | ⟨b', o0, n, c, cur, T, fr, h, _, hh', _, hf, _⟩
 ·simp [Tok.blk, h] at hb
 ·simp [Tok.blk, h] at hb; subst hb
  rw [hh'] at hh
  simp only [Option.some.injEq, Obj.cells.injEq] at hh
  obtain ⟨rfl, _, rfl⟩ := hh
  exact hf o ho
theorem TokOk.same {m m' : Mem} {w w' : World} {t : Tok} (h : TokOk m w t) (hb : ∀ b, t.blk = some b → w'.heap[b]? = w.heap[b]?) (hm : ∀ b o, t.blk = some b → m b o = none → m' b o = none) : TokOk m' w' t := by
 rcases h with h | ⟨b', o0, n, c, cur, T, fr, h, h1, hh, h2, h3, h4⟩
 ·exact .inl h
 ·have hk : t.blk = some b' := by simp [Tok.blk, h]
  exact .inr ⟨b', o0, n, c, cur, T, fr, h, h1, by rw [hb _ hk]; exact hh, h2, h3, fun o ho h9 => hm _ _ hk (h4 o ho h9)⟩
inductive SV where
 | v (x : Value)
 | loc (id off : Nat)
 | sl (id n c : Nat)
structure St where
 env : Nat → Option SV
 L : Nat → Option Box
 ids : List Nat
 tok : Nat → Option Tok
 tkeys : List Nat
 gh : Int
 fo : Bool
def St.den (S : St) : SV → Option Value
 | .v x => some x
 | .loc id off => match S.L id with
  | some x => some (.pointer (some ⟨x.b, off, none⟩))
  | none => none
 | .sl id n c => match S.L id with
  | some x => some (.slice (some ⟨x.b, 0, none⟩) n c)
  | none => none
def St.ev (S : St) : Operand → Option SV
 | .tmp t => S.env t
 | .const v => some (.v v)
 | .global g => some (.v (.pointer (some ⟨g, 0, none⟩)))
 | .func f => some (.v (.func (.func f) #[] #[]))
def St.val (S : St) (x : Operand) : Option Value := match S.ev x with
 | some sv => S.den sv
 | none => none
def St.put (S : St) (d : Option Tmp) (sv : Option SV) : St := match d with
 | some d => { S with env := fun i => bif Nat.beq i d then sv else S.env i }
 | none => S
def St.setL (S : St) (id : Nat) (x : Option Box) : St := { S with L := fun i => bif Nat.beq i id then x else S.L i }
def St.newL (S : St) (id : Nat) (x : Box) : St := { S with L := fun i => bif Nat.beq i id then some x else S.L i, ids := id :: S.ids }
structure Upd (M : Nat → Prop) (w w' : World) : Prop where
 os : w'.os = w.os
 tape : w'.tape = w.tape
 output : w'.output = w.output
 size : w.heap.size ≤ w'.heap.size
 block : ∀ k, k < w.heap.size → ¬ M k → w'.heap[k]? = w.heap[k]?
 wr : ∀ k, k < w.heap.size → Wr w k → Wr w' k
theorem Upd.refl (M : Nat → Prop) (w : World) : Upd M w w := ⟨rfl, rfl, rfl, Nat.le_refl _, fun _ _ _ => rfl, fun _ _ h => h⟩
theorem Keep.upd {bs : List Nat} {w w' : World} (h : Keep w.heap.size bs w w') {M : Nat → Prop} (hb : ∀ b ∈ bs, M b) : Upd M w w' :=
 ⟨h.os, h.tape, h.output, h.size, fun k hk hn => h.block k hk (fun hm => hn (hb k hm)), h.wr⟩
def grow (M : Nat → Prop) (w w' : World) : Nat → Prop := fun k => M k ∨ (w.heap.size ≤ k ∧ k < w'.heap.size ∧ Wr w' k)
structure Ctx where
 n : Nat
 m0 : Mem
 me : Mem
 mle : m0.le me
 p : Int → (Nat → Prop) → World → Prop
 st : ∀ g M M' w w', p g M w → Upd M w w' → (∀ k, M' k → grow M w w' k) → p g M' w'
theorem NewM.grown {m m' : Mem} {w w' : World} (hn : NewOnly m m' w w') (hs : Sub m' w') (M : Nat → Prop) : NewM m m' (grow M w w') :=
 ⟨fun b o v hv => (hn.c b o v hv).imp_right fun h => .inr ⟨h.1, hs.lt hv, h.2⟩, fun b e he => (hn.k b e he).imp_right fun h => .inr ⟨h.1, (hs.k b e he).lt, h.2⟩⟩
def mark (D : Nat) : Deferred := { target := .collected D, args := #[] }
structure Dom (C : Ctx) (S : St) (m : Mem) (a : Act) (w : World) (M : Nat → Prop) : Prop where
 p : C.p S.gh M w
 lt : ∀ k, M k → k < w.heap.size
 own : ∀ id x, S.L id = some x → M x.b
 tok : ∀ k t b, S.tok k = some t → t.blk = some b → M b
 mks : ∀ D, mark D ∈ a.defers → M D
 new : NewM C.me m M
structure Rel (C : Ctx) (S : St) (m : Mem) (a : Act) (w : World) : Prop where
 defers : ∃ ms : List Nat, a.defers = ms.map mark ∧ ms.Nodup ∧ ∀ D ∈ ms, w.heap[D]? = some (.deferred (some []))
 size : a.tmps.size = C.n
 env : ∀ i sv, S.env i = some sv → ∃ v, S.den sv = some v ∧ a.tmps[i]? = some v
 own : ∀ id x, S.L id = some x → Own m w x
 apart : ∀ id id' x x', S.L id = some x → S.L id' = some x' → x.b = x'.b → id = id'
 ids : ∀ id x, S.L id = some x → id ∈ S.ids
 toks : ∀ k t, S.tok k = some t → TokOk m w t ∧ (∀ b, t.blk = some b → (∀ id x, S.L id = some x → x.b ≠ b) ∧ C.me.free b)
 tkeys : ∀ k t, S.tok k = some t → k ∈ S.tkeys
 tapart : ∀ k k' t t' b, S.tok k = some t → S.tok k' = some t' → t.blk = some b → t'.blk = some b → k = k'
 sub : Sub m w
 le : C.me.le m
 dom : ∃ M, Dom C S m a w M
 fo : S.fo = false → C.me = C.m0
theorem Rel.le0 {C : Ctx} {S : St} {m : Mem} {a : Act} {w : World} (h : Rel C S m a w) : C.m0.le m := mLt C.mle h.le
theorem Dom.env {C : Ctx} {S : St} {m : Mem} {a : Act} {w : World} {M : Nat → Prop} (h : Dom C S m a w M) (d : Option Tmp) (v : Option SV) {u : Value} : Dom C (S.put d v) m (a.put d u) w M := by
 cases d with
 | none => exact h
 | some d => exact ⟨h.p, h.lt, h.own, h.tok, h.mks, h.new⟩
theorem Dom.cut {C : Ctx} {S S' : St} {m m' : Mem} {a a' : Act} {w : World} {M : Nat → Prop} (h : Dom C S m a w M) (hg : S'.gh = S.gh) (hL : ∀ id x', S'.L id = some x' → ∃ id x, S.L id = some x ∧ x.b = x'.b)
  (hT : ∀ k t b, S'.tok k = some t → t.blk = some b → ∃ k t, S.tok k = some t ∧ t.blk = some b) (hd : a'.defers = a.defers) (hm : m'.le m) : Dom C S' m' a' w M :=
 ⟨hg ▸ h.p, h.lt, fun id x' hx => by obtain ⟨i, x, h1, h2⟩ := hL id x' hx; rw [← h2]; exact h.own i x h1, fun k t b ht hb => by obtain ⟨k', t', h1, h2⟩ := hT k t b ht hb; exact h.tok k' t' b h1 h2, fun D hD => h.mks D (hd ▸ hD), h.new.less hm⟩
theorem Dom.step {C : Ctx} {S : St} {m m' : Mem} {a : Act} {w w' : World} {M : Nat → Prop} (h : Dom C S m a w M) (hu : Upd M w w') (hn : NewM m m' (grow M w w')) : Dom C S m' a w' (grow M w w') :=
 ⟨C.st _ _ _ _ _ h.p hu (fun _ hk => hk), fun k hk => by
  rcases hk with hk | hk
  ·exact Nat.lt_of_lt_of_le (h.lt k hk) hu.size
  ·exact hk.2.1, fun id x hx => .inl (h.own id x hx), fun k t b ht hb => .inl (h.tok k t b ht hb), fun D hD => .inl (h.mks D hD), ⟨fun b o v hv => by
  rcases hn.c b o v hv with hv | hv
  ·exact (h.new.c b o v hv).imp_right .inl
  ·exact .inr hv, fun b o hv => by
  rcases hn.k b o hv with hv | hv
  ·exact (h.new.k b o hv).imp_right .inl
  ·exact .inr hv⟩⟩
section
variable {C : Ctx} {S : St} {m : Mem} {a : Act} {w : World}
theorem Rel.ev (h : Rel C S m a w) {x : Operand} {v : Value} (hv : S.val x = some v) : a.eval x = v := by
 cases x with
 | tmp t =>
  simp only [St.val, St.ev] at hv
  cases he : S.env t with
  | none => simp [he] at hv
  | some sv =>
   simp only [he] at hv
   obtain ⟨v', h1, h2⟩ := h.env t sv he
   rw [hv] at h1; cases h1
   simp [Act.eval, h2]
 | const c => simp [St.val, St.ev, St.den] at hv; simpa [Act.eval] using hv
 | global g => simp [St.val, St.ev, St.den] at hv; simpa [Act.eval] using hv
 | func f => simp [St.val, St.ev, St.den] at hv; simpa [Act.eval] using hv
theorem den_setEnv (S : St) (e : Nat → Option SV) (sv : SV) : ({ S with env := e } : St).den sv = S.den sv := by cases sv <;> rfl
theorem Rel.put (h : Rel C S m a w) (d : Option Tmp) (hd : ∀ t, d = some t → t < C.n) {sv : SV} {v : Value} (hv : S.den sv = some v) : Rel C (S.put d (some sv)) m (a.put d v) w := by
 cases d with
 | none => exact h
 | some d =>
  have hlt := hd d rfl
  refine ⟨h.defers, by simpa [Act.put] using h.size, ?_, h.own, h.apart, h.ids, h.toks, h.tkeys, h.tapart, h.sub, h.le, h.dom.imp fun M d => d.env _ _, h.fo⟩
  intro i sv' he
  simp only [St.put] at he
  simp only [St.put, den_setEnv]
  by_cases hi : i = d
  ·subst hi
   simp at he; subst he
   exact ⟨v, hv, by simp [Act.put, h.size, hlt]⟩
  ·have : Nat.beq i d = false := beq_ne hi
   simp [this] at he
   obtain ⟨v', h1, h2⟩ := h.env i sv' he
   exact ⟨v', h1, by simp [Act.put, Array.getElem?_setIfInBounds_ne (Ne.symm hi), h2]⟩
theorem Rel.putNone (h : Rel C S m a w) (d : Option Tmp) (v : Value) : Rel C (S.put d none) m (a.put d v) w := by
 cases d with
 | none => exact h
 | some d =>
  refine ⟨h.defers, by simpa [Act.put] using h.size, ?_, h.own, h.apart, h.ids, h.toks, h.tkeys, h.tapart, h.sub, h.le, h.dom.imp fun M d => d.env _ _, h.fo⟩
  intro i sv' he
  simp only [St.put] at he
  simp only [St.put, den_setEnv]
  by_cases hi : i = d
  ·subst hi; simp at he
  ·have : Nat.beq i d = false := beq_ne hi
   simp [this] at he
   obtain ⟨v', h1, h2⟩ := h.env i sv' he
   exact ⟨v', h1, by simp [Act.put, Array.getElem?_setIfInBounds_ne (Ne.symm hi), h2]⟩
theorem Rel.putEv (h : Rel C S m a w) (d : Option Tmp) (hd : ∀ t, d = some t → t < C.n) (x : Operand) (hx : (S.ev x).isSome → (S.val x).isSome) : Rel C (S.put d (S.ev x)) m (a.put d (a.eval x)) w := by
 cases he : S.ev x with
 | none => exact h.putNone d _
 | some sv =>
  have := hx (by simp [he])
  obtain ⟨v, hv⟩ := Option.isSome_iff_exists.1 this
  rw [h.ev hv]
  simp only [St.val, he] at hv
  exact h.put d hd hv
theorem Rel.ev_val (h : Rel C S m a w) {x : Operand} {sv : SV} (he : S.ev x = some sv) : ∃ v, S.den sv = some v ∧ S.val x = some v ∧ a.eval x = v := by
 cases x with
 | tmp t =>
  obtain ⟨v, h1, h2⟩ := h.env t sv he
  refine ⟨v, h1, by simp [St.val, he, h1], ?_⟩
  simp [Act.eval, h2]
 | const c => simp [St.ev] at he; subst he; exact ⟨c, rfl, rfl, rfl⟩
 | global g => simp [St.ev] at he; subst he; exact ⟨_, rfl, rfl, rfl⟩
 | func f => simp [St.ev] at he; subst he; exact ⟨_, rfl, rfl, rfl⟩
theorem Rel.putEv' (h : Rel C S m a w) (d : Option Tmp) (hd : ∀ t, d = some t → t < C.n) (x : Operand) : Rel C (S.put d (S.ev x)) m (a.put d (a.eval x)) w :=
 h.putEv d hd x fun hs => by
  obtain ⟨sv, he⟩ := Option.isSome_iff_exists.1 hs
  obtain ⟨v, _, h2, _⟩ := h.ev_val he
  simp [h2]
theorem Rel.world (h : Rel C S m a w) {w' : World} {m' : Mem} (hk : Keep w.heap.size [] w w') (hs : Sub m' w') (hm : m.le m') (hn : NewOnly m m' w w') : Rel C S m' a w' := by
 have hb : ∀ k, k < w.heap.size → w'.heap[k]? = w.heap[k]? := fun k hk' => hk.block k hk' (by simp)
 have hfree : ∀ b, b < w.heap.size → ∀ o, m b o = none → m' b o = none := fun b hlt o ho => by
  cases he : m' b o with
  | none => rfl
  | some v =>
   rcases hn _ _ _ he with he | he
   ·rw [ho] at he; cases he
   ·have := he.1; omega
 obtain ⟨M, hd⟩ := h.dom
 refine ⟨?_, h.size, h.env, ?_, h.apart, h.ids, ?_, h.tkeys, h.tapart, hs, mLt h.le hm, ⟨_, hd.step (hk.upd (by simp)) (hn.grown hs _)⟩, h.fo⟩
 ·obtain ⟨ms, h1, h2, h3⟩ := h.defers
  refine ⟨ms, h1, h2, fun D hD => ?_⟩
  rw [hb D (Array.getElem?_eq_some_iff.1 (h3 D hD)).1]; exact h3 D hD
 ·intro id x hx
  have ho := h.own id x hx
  exact ho.same (hb _ ho.lt) hm (fun hz o => hfree _ ho.lt o (ho.free hz o))
 ·intro k t ht
  obtain ⟨ho, hB⟩ := h.toks k t ht
  exact ⟨ho.same (fun b hbk => hb _ (ho.lt hbk)) (fun b o hbk => hfree _ (ho.lt hbk) o), hB⟩
theorem Rel.drew (h : Rel C S m a w) : Rel C S m a w.drew :=
 h.world (Keep.drew w) ⟨fun b o v hv => h.sub b o v hv, fun b e he => h.sub.k b e he⟩ (Mem.le_refl m) (NewM.refl _ _)
end
abbrev RT := Value → Mem → List (List Value) → Prop
abbrev IT := List Value → List (List Value) → List Value → Mem → Nat → Prop
abbrev JT := List Value → List (List Value) → List Value → Mem → Prop
end Go.Eng
namespace Go.Eng
open Go Go.RowKit
structure TI where
 d : TypeDesc
 size : Nat
 zero : Value
 bytes : Nat
def TI.agg (i : TI) : Bool := match i.d with
 | .struct _ => true
 | .array _ _ => true
 | _ => false
structure TOk (P : Program) (t : TypeId) (i : TI) : Prop where
 und : P.underlying t = some i.d
 info : ∃ x : TypeInfo, P.info? t = some x ∧ x.size = i.size ∧ x.zero = some i.zero ∧ x.bytes = i.bytes
 zsize : i.zero.cells.size = i.size
 zone : i.zero.cells.all (·.oneCell') = true
 one : i.agg = false → i.size = 1
inductive Shape where
 | any
 | int (k : IntKind)
 | bool
 | str
 | slice
 | agg (l : List Shape)
 | tup (l : List Shape)
 | fn
 | cells
 | ptr
structure LoopAnn where
 slots : List (Nat × Shape)
 boxes : List Nat
 toks : List (Nat × Nat)
 gh : Bool
structure DOp where
 i : Nat
 rs : List Nat
 ws : List Nat
 tk : Option Nat
 an : List Nat
 vw : List Nat
inductive LdK where
 | bool
 | yield
 | fn
 | int (k : IntKind)
 | slice
structure Env where
 P : Program
 loops : Nat → LoopAnn
 cuts : Nat → Option LoopAnn
 joins : Nat → Option (List (Nat × Shape))
 dr : Nat → List DOp
 tt : Nat → Option TI
 sh : Nat → Shape
 hint : Nat → Option Nat
 borrow : Nat → List Nat
 tokOf : Nat → Nat
 frz : List Nat
 fix : Option (List Value → Mem → Value → Mem → List (List Value) → Prop)
 yl : Option (Nat → Int → List Value → Prop)
 frzNew : List Nat
 frzAt : Nat → List Nat
 thaw : Bool
 stAt : Nat → Option Nat
 tokC : Nat → Option (Nat × Nat) := fun _ => none
 gb : Bool := false
 last : Nat → Bool := fun _ => false
 lastK : Nat → Nat := fun _ => 1
 eff : Nat → Bool := fun _ => false
 effN : Bool := false
 ldF : Nat → Option LdK := fun _ => none
 capF : Bool := false
 m0 : Option Mem := none
 lentC : Nat → Option (List (Nat × Nat)) := fun _ => none
 mix : Nat → Option (List Nat × List Nat) := fun _ => none
 ptrAt : Nat → List Nat := fun _ => []
 mkM : Nat → Bool := fun _ => false
 acq : Nat → Option (Nat × Nat) := fun _ => none
 tails : Bool := false
 ylY : Option (Nat → Int → List Value → Mem → Prop) := none
 rgY : Nat → Bool := fun _ => false
 kF : Bool := false
 ext : Nat → Bool := fun _ => false
 exv : Nat → Bool := fun _ => false
def Env.ok (E : Env) : Prop := ∀ t i, E.tt t = some i → TOk E.P t i
mutual
def Shape.fits : Shape → Value → Bool
 | .any, _ => true
 | .int k, v => match v with
  | .int k' _ => decide (k' = k)
  | _ => false
 | .bool, v => match v with
  | .bool _ => true
  | _ => false
 | .str, v => match v with
  | .string _ => true
  | _ => false
 | .slice, v => match v with
  | .slice _ _ _ => true
  | _ => false
 | .agg l, v => match v with
  | .agg cs => Shape.fitsL l cs.toList
  | _ => false
 | .tup l, v => match v with
  | .tuple cs => Shape.fitsL l cs.toList
  | _ => false
 | .fn, v => match v with
  | .func (.func _) _ _ => true
  | _ => false
 | .cells, v => match v with
  | .agg _ => true
  | _ => false
 | .ptr, v => match v with
  | .pointer (some ⟨_, _, none⟩) => true
  | _ => false
def Shape.fitsL : List Shape → List Value → Bool
 | [], [] => true
 | s :: l, v :: vs => Shape.fits s v && Shape.fitsL l vs
 | _, _ => false
end
mutual
def Shape.all : Shape → (Value → Prop) → Prop
 | .any, k => ∀ v, k v
 | .int ki, k => ∀ n : Int, k (.int ki n)
 | .bool, k => ∀ b : Bool, k (.bool b)
 | .str, k => ∀ s : ByteArray, k (.string s)
 | .slice, k => ∀ (a : Option Addr) (n c : Nat), k (.slice a n c)
 | .agg l, k => Shape.allL l fun vs => k (.agg vs.toArray)
 | .tup l, k => Shape.allL l fun vs => k (.tuple vs.toArray)
 | .fn, k => ∀ (g : Nat) (fi ca : List Value), k (.func (.func g) fi.toArray ca.toArray)
 | .cells, k => ∀ cs : List Value, k (.agg cs.toArray)
 | .ptr, k => ∀ b o : Nat, k (.pointer (some ⟨b, o, none⟩))
def Shape.allL : List Shape → (List Value → Prop) → Prop
 | [], k => k []
 | s :: l, k => Shape.all s fun v => Shape.allL l fun vs => k (v :: vs)
end
mutual
theorem Shape.all_fits : ∀ (s : Shape) (k : Value → Prop), s.all k → ∀ v, s.fits v = true → k v
 | .any, k, h, v, _ => by simpa [Shape.all] using h v
 | .int ki, k, h, v, hf => by
  cases v <;> simp [Shape.fits] at hf
  subst hf; simp only [Shape.all] at h; exact h _
 | .bool, k, h, v, hf => by
  cases v <;> simp [Shape.fits] at hf
  simp only [Shape.all] at h; exact h _
 | .str, k, h, v, hf => by
  cases v <;> simp [Shape.fits] at hf
  simp only [Shape.all] at h; exact h _
 | .slice, k, h, v, hf => by
  cases v <;> simp [Shape.fits] at hf
  simp only [Shape.all] at h; exact h _ _ _
 | .agg l, k, h, v, hf => by
  cases v <;> simp [Shape.fits] at hf
  simp only [Shape.all] at h
  have := Shape.allL_fits l _ h _ hf
  simpa using this
 | .tup l, k, h, v, hf => by
  cases v <;> simp [Shape.fits] at hf
  simp only [Shape.all] at h
  have := Shape.allL_fits l _ h _ hf
  simpa using this
 | .fn, k, h, v, hf => by
  cases v with
  | func f fi ca =>
   cases f with
   | func g => simp only [Shape.all] at h; simpa using h g fi.toList ca.toList
   | _ => simp [Shape.fits] at hf
  | _ => simp [Shape.fits] at hf
 | .cells, k, h, v, hf => by
  cases v <;> simp [Shape.fits] at hf
  simp only [Shape.all] at h
  rename_i cs
  simpa using h cs.toList
 | .ptr, k, h, v, hf => by
  cases v with
  | pointer a =>
   cases a with
   | none => simp [Shape.fits] at hf
   | some a =>
    obtain ⟨b, o, s⟩ := a
    cases s with
    | none => simp only [Shape.all] at h; exact h b o
    | some s => simp [Shape.fits] at hf
  | _ => simp [Shape.fits] at hf
theorem Shape.allL_fits : ∀ (l : List Shape) (k : List Value → Prop), Shape.allL l k → ∀ vs, Shape.fitsL l vs = true → k vs
 | [], k, h, vs, hf => by
  cases vs with
  | nil => simpa [Shape.allL] using h
  | cons v vs => simp [Shape.fitsL] at hf
 | s :: l, k, h, vs, hf => by
  cases vs with
  | nil => simp [Shape.fitsL] at hf
  | cons v vs =>
   simp [Shape.fitsL] at hf
   simp only [Shape.allL] at h
   exact Shape.allL_fits l _ (Shape.all_fits s _ h v hf.1) vs hf.2
end
def br (b : Bool) (p q : Prop) : Prop := match b with
 | true => p
 | false => q
def chk (b : Bool) (p : Prop) : Prop := br b p False
theorem br_intro {b : Bool} {p q : Prop} (h : b = true → p) (k : b = false → q) : br b p q := by
 cases b
 ·exact k rfl
 ·exact h rfl
theorem chk_intro {b : Bool} {p : Prop} (h : b = true) (k : p) : chk b p := by subst h; exact k
theorem chk_elim {b : Bool} {p : Prop} (h : chk b p) : b = true ∧ p := by
 cases b
 ·exact h.elim
 ·exact ⟨rfl, h⟩
def isInt (k : IntKind) : Value → Bool
 | .int k' _ => decide (k' = k)
 | _ => false
def isAnyInt : Value → Bool
 | .int _ _ => true
 | _ => false
def isBool : Value → Bool
 | .bool _ => true
 | _ => false
def boolOf : Value → Bool
 | .bool b => b
 | _ => false
def isStr : Value → Bool
 | .string _ => true
 | _ => false
def strOf : Value → ByteArray
 | .string s => s
 | _ => .empty
def strAt (s : ByteArray) (n : Nat) : Int := ((s.data.toList.getD n 0).toNat : Int)
def isSl : Value → Bool
 | .slice _ _ _ => true
 | _ => false
def slA : Value → Option Addr
 | .slice a _ _ => a
 | _ => none
def slN : Value → Nat
 | .slice _ n _ => n
 | _ => 0
def slC : Value → Nat
 | .slice _ _ c => c
 | _ => 0
def isPtr : Value → Bool
 | .pointer (some ⟨_, _, none⟩) => true
 | _ => false
def ptrB : Value → Nat
 | .pointer (some a) => a.block
 | _ => 0
def ptrO : Value → Nat
 | .pointer (some a) => a.off
 | _ => 0
def isAgg : Value → Bool
 | .agg _ => true
 | _ => false
def isTup : Value → Bool
 | .tuple _ => true
 | _ => false
def tupL : Value → List Value
 | .tuple vs => vs.toList
 | _ => []
def cellsL (v : Value) : List Value := v.cells.toList
def ptr (b o : Nat) : Value := .pointer (some ⟨b, o, none⟩)
theorem isInt_elim {k : IntKind} {v : Value} (h : isInt k v = true) : v = .int k (intOf v) := by
 cases v <;> simp [isInt] at h; subst h; rfl
theorem isAnyInt_elim {v : Value} (h : isAnyInt v = true) : ∃ k, v = .int k (intOf v) := by
 cases v <;> simp [isAnyInt] at h; exact ⟨_, rfl⟩
theorem isBool_elim {v : Value} (h : isBool v = true) : v = .bool (boolOf v) := by
 cases v <;> simp [isBool] at h; rfl
theorem isStr_elim {v : Value} (h : isStr v = true) : v = .string (strOf v) := by
 cases v <;> simp [isStr] at h; rfl
theorem isSl_elim {v : Value} (h : isSl v = true) : v = .slice (slA v) (slN v) (slC v) := by
 cases v <;> simp [isSl] at h; rfl
theorem isPtr_elim {v : Value} (h : isPtr v = true) : v = ptr (ptrB v) (ptrO v) := by
 cases v with
 | pointer a =>
  cases a with
  | none => simp [isPtr] at h
  | some a =>
   obtain ⟨b, o, s⟩ := a
   cases s with
   | none => rfl
   | some s => simp [isPtr] at h
 | _ => simp [isPtr] at h
theorem isTup_elim {v : Value} (h : isTup v = true) : v = .tuple (tupL v).toArray := by
 cases v <;> simp [isTup] at h; simp [tupL]
def wv (S : St) (x : Operand) (k : Value → Prop) : Prop := match S.val x with
 | some v => k v
 | none => False
theorem wv_elim {S : St} {x : Operand} {k : Value → Prop} (h : wv S x k) : ∃ v, S.val x = some v ∧ k v := by
 unfold wv at h
 split at h
 ·exact ⟨_, ‹_›, h⟩
 ·exact h.elim
def wvs (S : St) : List Operand → (List Value → Prop) → Prop
 | [], k => k []
 | x :: l, k => wv S x fun v => wvs S l fun vs => k (v :: vs)
def onesL : List Value → Bool
 | [] => true
 | v :: l => v.oneCell' && onesL l
theorem onesL_mem : ∀ {l : List Value}, onesL l = true → ∀ v ∈ l, v.oneCell' = true
 | [], _, v, h => by simp at h
 | x :: l, h, v, hv => by
  simp only [onesL, Bool.and_eq_true] at h
  rcases List.mem_cons.1 hv with rfl | hv
  ·exact h.1
  ·exact onesL_mem h.2 v hv
theorem onesL_all {a : Array Value} (h : onesL a.toList = true) : a.all (·.oneCell') = true := by
 rw [Array.all_eq_true_iff_forall_mem]
 exact fun v hv => onesL_mem h v (by simpa using hv)
section runs
variable {P : Program} {w : World}
theorem TOk.run_und {t : TypeId} {i : TI} (h : TOk P t i) : (underlying t).run P w = .ok i.d w := run_underlying h.und w
theorem TOk.run_info {t : TypeId} {i : TI} (h : TOk P t i) : ∃ x : TypeInfo, (typeInfo t).run P w = .ok x w ∧ x.size = i.size ∧ x.zero = some i.zero ∧ x.bytes = i.bytes := by
 obtain ⟨x, h1, h2, h3, h4⟩ := h.info
 exact ⟨x, by simp [typeInfo, h1], h2, h3, h4⟩
theorem TOk.run_size {t : TypeId} {i : TI} (h : TOk P t i) : (sizeOf t).run P w = .ok i.size w := by
 obtain ⟨x, h1, h2, _⟩ := h.run_info (w := w)
 simp [sizeOf, h1, h2]
theorem TOk.run_zero {t : TypeId} {i : TI} (h : TOk P t i) : (zeroValue t).run P w = .ok i.zero w := by
 obtain ⟨x, h1, _, h3, _⟩ := h.run_info (w := w)
 simp [zeroValue, h1, h3]
theorem TOk.run_agg {t : TypeId} {i : TI} (h : TOk P t i) : (Go.isAgg t).run P w = .ok i.agg w := by
 have := h.run_und (w := w)
 simp only [Go.isAgg, Sem.run_bind, this, Result.andThen_ok]
 unfold TI.agg
 cases i.d <;> rfl
end runs
section memory
variable {P : Program} {w : World}
theorem addr_add (b o n : Nat) : (⟨b, o, none⟩ : Addr).add n = ⟨b, o + n, none⟩ := by unfold Addr.add; split <;> simp_all
theorem run_loadCells_at (b o : Nat) (vs : List Value) (h : ∀ j v, vs[j]? = some v → w.cell? ⟨b, o + j, none⟩ = some v) :
  (loadCells ⟨b, o, none⟩ vs.length).run P w = .ok vs.toArray w := by
 have := run_loadCells_list (P := P) (w := w) ⟨b, o, none⟩ vs (fun j v hv => by rw [addr_add]; exact h j v hv)
 simpa using this
theorem run_loadVar_agg {t : TypeId} {i : TI} (ht : TOk P t i) (ha : i.agg = true) (b o : Nat) (vs : List Value) (hl : vs.length = i.size) (h : ∀ j v, vs[j]? = some v → w.cell? ⟨b, o + j, none⟩ = some v) :
  (loadVar t ⟨b, o, none⟩).run P w = .ok (.agg vs.toArray) w := by
 have h1 := ht.run_agg (w := w)
 have h2 := ht.run_size (w := w)
 have h3 := run_loadCells_at (P := P) b o vs h
 rw [hl] at h3
 simp [loadVar, h1, ha, h2, h3]
theorem run_loadVar_one {t : TypeId} {i : TI} (ht : TOk P t i) (ha : i.agg = false) (a : Addr) (v : Value) (h : w.cell? a = some v) :
  (loadVar t a).run P w = .ok v w := by
 have h1 := ht.run_agg (w := w)
 simp [loadVar, h1, ha, h]
theorem run_storeCells_fr (g o : Nat) (t : TypeId) (fr : Nat × Nat) : ∀ (vs : List Value) (i : Nat) (cur : Array Value) (w : World), w.heap[g]? = some (.cells cur t fr) → (∀ j, j < cur.size → ¬ (fr.1 ≤ j ∧ j < fr.2)) → o + i + vs.length ≤ cur.size → (∀ v ∈ vs, v.oneCell' = true) →
  (storeCells ⟨g, o, none⟩ vs i).run P w = .ok () (w.setRow g (cur.toList.take (o + i) ++ vs ++ cur.toList.drop (o + i + vs.length)).toArray)
 | [], i, cur, w, hg, _, _, _ => by
  simp only [storeCells, List.append_nil, List.length_nil, Nat.add_zero, List.take_append_drop, Array.toArray_toList]
  rw [setRow_self w g cur t fr hg]
  rfl
 | v :: rest, i, cur, w, hg, hfz, hl, h1 => by
  have hi : o + i < cur.size := by simp at hl; omega
  have hcell : w.cell? ⟨g, o + i, none⟩ = some cur[o + i] := by simp [World.cell?, hg, hi]
  have hfro : w.frozen? ⟨g, o + i, none⟩ = false := by
   have := hfz (o + i) hi
   obtain ⟨lo, hi'⟩ := fr
   simp only [World.frozen?, hg, Bool.and_eq_false_iff, decide_eq_false_iff_not]
   simp only at this
   omega
  have hst : (store ((⟨g, o, none⟩ : Addr).add i) v).run P w = .ok () (w.setRow g (cur.setIfInBounds (o + i) v)) := by
   rw [addr_add, run_store P w _ v _ (h1 v (by simp)), hcell]
   simp [hfro, setCell_eq_setRow w g (o + i) cur t fr v hg]
  have ih := run_storeCells_fr g o t fr rest (i + 1) (cur.setIfInBounds (o + i) v) (w.setRow g (cur.setIfInBounds (o + i) v)) (setRow_heap w g cur _ t _ hg) (by simpa using hfz) (by simp at hl ⊢; omega) (fun x hx => h1 x (by simp [hx]))
  simp only [storeCells, Sem.run_bind, hst, Result.andThen_ok, ih, setRow_setRow]
  congr 3
  have e := list_seg_step cur.toList (o + i) v rest (by simp at hl ⊢; omega)
  simpa [Array.toList_setIfInBounds, Nat.add_assoc] using e
def splice (cs : List Value) (o : Nat) (vs : List Value) : List Value := cs.take o ++ vs ++ cs.drop (o + vs.length)
theorem splice_length {cs : List Value} {o : Nat} {vs : List Value} (h : o + vs.length ≤ cs.length) : (splice cs o vs).length = cs.length := by
 simp [splice]; omega
theorem splice_append {cs sp : List Value} {o : Nat} {vs : List Value} (h : o + vs.length ≤ cs.length) : splice (cs ++ sp) o vs = splice cs o vs ++ sp := by
 simp only [splice]
 rw [List.take_append_of_le_length (by omega), List.drop_append_of_le_length (by omega)]
 simp
theorem splice_whole {cs vs : List Value} (h : vs.length = cs.length) : splice cs 0 vs = vs := by
 simp [splice, h]
theorem run_storeVar_at {t : TypeId} {i : TI} (ht : TOk P t i) {m : Mem} {x : Box} (hx : Own m w x) (o : Nat) (v : Value) (hs : v.cells.size = i.size) (h1 : v.cells.all (·.oneCell') = true) (hb : o + i.size ≤ x.cs.length) :
  ∃ w', (storeVar t ⟨x.b, o, none⟩ v).run P w = .ok () w' ∧ w'.os = w.os ∧ w'.tape = w.tape ∧ w'.output = w.output ∧ w'.heap.size = w.heap.size ∧ (∀ k, k ≠ x.b → w'.heap[k]? = w.heap[k]?) ∧
   (x.fz = false → Own m w' { x with cs := splice x.cs o v.cells.toList }) := by
 obtain ⟨sp, fr, hh, hc, hf⟩ := hx.cells
 have h2 := ht.run_size (w := w)
 have hlen : v.cells.toList.length = i.size := by simpa using hs
 have h3 := run_storeCells_fr (P := P) x.b o x.T fr v.cells.toList 0 _ w hh (fun o ho => by have ho' : o < x.cap := (by simpa [hc] using ho); omega) (by simp at hc ⊢; omega) (fun u hu => by
  rw [Array.all_eq_true_iff_forall_mem] at h1; exact h1 u (by simpa using hu))
 have h4 : (storeVar t ⟨x.b, o, none⟩ v).run P w = .ok () (w.setRow x.b (splice (x.cs ++ sp) o v.cells.toList).toArray) := by
  simp only [storeVar, Sem.run_bind, h2, Result.andThen_ok, hs, ne_eq, not_true_eq_false, if_false]
  rw [h3]
  simp [splice]
 refine ⟨_, h4, rfl, rfl, rfl, by simp, fun k hk => setRow_other w x.b k _ hk, fun hz => ?_⟩
 refine ⟨⟨sp, fr, ?_, ?_, hf⟩, fun _ => hx.free hz, fun hz' => by simp [hz] at hz', fun hfull => ?_⟩
 ·rw [setRow_heap w x.b _ _ x.T fr hh, splice_append (by omega)]
 ·have := splice_length (cs := x.cs) (o := o) (vs := v.cells.toList) (by omega)
  simp only [List.length_append] at hc ⊢
  omega
 ·have := hx.whole hfull
  show (splice x.cs o v.cells.toList).length = x.cap
  rw [splice_length (by omega)]; exact this
end memory
end Go.Eng
namespace Go.Eng
open Go Go.RowKit
def look (l : List Value) (n : Nat) (k : Value → Prop) : Prop := match l[n]? with
 | some v => k v
 | none => False
theorem look_intro {l : List Value} {n : Nat} {k : Value → Prop} {v : Value} (h : l[n]? = some v) (hk : k v) : look l n k := by simp [look, h, hk]
theorem look_elim {l : List Value} {n : Nat} {k : Value → Prop} (h : look l n k) : ∃ v, l[n]? = some v ∧ k v := by
 unfold look at h
 split at h
 ·exact ⟨_, ‹_›, h⟩
 ·exact h.elim
def EqIs (P : Program) (T : TypeId) (x y : Value) (r : Bool) : Prop :=
 (∀ w, (Op.equal T x y).run P w = .ok r w) ∧ (∀ (op : BinOp) (ox oy : Operand) w, (eqGuard op T ox oy x y).run P w = .ok () w)
def BinIs (P : Program) (op : BinOp) (T : TypeId) (x y v : Value) : Prop :=
 ∀ (ox oy : Operand) (w : World), (do eqGuard op T ox oy x y; binOp op T x y : Sem Value).run P w = .ok v w
def ConvIs (P : Program) (s d : TypeId) (x v : Value) : Prop := ∀ w : World, (convert s d x).run P w = .ok v w
def intW (op : BinOp) (k : IntKind) (a b : Int) (r : Value → Prop) : Prop := match op with
 | .add => r (.int k (k.wrap (a + b)))
 | .sub => r (.int k (k.wrap (a - b)))
 | .mul => r (.int k (k.wrap (a * b)))
 | .quo => b ≠ 0 ∧ r (.int k (k.wrap (a.tdiv b)))
 | .rem => b ≠ 0 ∧ r (.int k (a.tmod b))
 | .and => r (.int k (k.wrap (BitVec.ofInt k.bits a &&& BitVec.ofInt k.bits b).toNat))
 | .or => r (.int k (k.wrap (BitVec.ofInt k.bits a ||| BitVec.ofInt k.bits b).toNat))
 | .xor => r (.int k (k.wrap (BitVec.ofInt k.bits a ^^^ BitVec.ofInt k.bits b).toNat))
 | .andNot => r (.int k (k.wrap (BitVec.ofInt k.bits a &&& ~~~(BitVec.ofInt k.bits b)).toNat))
 | .eql => r (.bool (a == b))
 | .neq => r (.bool (a != b))
 | .lss => r (.bool (decide (a < b)))
 | .leq => r (.bool (decide (a ≤ b)))
 | .gtr => r (.bool (decide (a > b)))
 | .geq => r (.bool (decide (a ≥ b)))
 | _ => False
def shiftW (op : BinOp) (k : IntKind) (a b : Int) (r : Value → Prop) : Prop := match op with
 | .shl => 0 ≤ b ∧ r (.int k (k.wrap (a * 2 ^ (min b.toNat k.bits))))
 | .shr => 0 ≤ b ∧ r (.int k (a.fdiv (2 ^ (min b.toNat k.bits))))
 | _ => False
def strW (op : BinOp) (a b : ByteArray) (r : Value → Prop) : Prop := match op with
 | .eql => r (.bool (a.toList == b.toList))
 | .neq => r (.bool (!(a.toList == b.toList)))
 | .add => ((a.size + b.size : Nat) : Int) ≤ IntKind.i64.max ∧ r (.string (a ++ b))
 | .lss => r (.bool (Op.bytesLess a.toList b.toList))
 | _ => False
def isShift : BinOp → Bool
 | .shl => true
 | .shr => true
 | _ => false
def nilSl : Value → Bool
 | .slice none 0 0 => true
 | _ => false
def isNilP : Value → Bool
 | .pointer none => true
 | _ => false
def isPtrAny : Value → Bool
 | .pointer _ => true
 | _ => false
def ptrNil : Value → Bool
 | .pointer a => a.isNone
 | _ => false
def isCmp : BinOp → Bool
 | .eql => true
 | .neq => true
 | .lss => true
 | .leq => true
 | .gtr => true
 | .geq => true
 | _ => false
def eqNe (op : BinOp) (b : Bool) (r : Value → Prop) : Prop := match op with
 | .eql => r (.bool b)
 | .neq => r (.bool (!b))
 | _ => False
def binW (E : Env) (op : BinOp) (T : TypeId) (x y : Value) (r : Value → Prop) : Prop :=
 match E.tt T with
 | none => False
 | some i => match i.d with
  | .int k => bif isShift op then chk (isInt k x && isAnyInt y) (shiftW op k (intOf x) (intOf y) r)
   else chk (isInt k x && isInt k y) (intW op k (intOf x) (intOf y) r)
  | .bool => chk (isBool x && isBool y) (eqNe op (boolOf x == boolOf y) r)
  | .string => chk (isStr x && isStr y) (strW op (strOf x) (strOf y) r)
  | .slice _ => chk (isSl x && nilSl y) (eqNe op (slA x).isNone r)
  | .pointer _ => chk (isPtrAny x && isNilP y) (eqNe op (ptrNil x) r)
  | .struct _ => chk (isAgg x && isAgg y) (∃ b, EqIs E.P T x y b ∧ eqNe op b r)
  | .array _ _ => chk (isAgg x && isAgg y) (∃ b, EqIs E.P T x y b ∧ eqNe op b r)
  | .float _ => bif isCmp op then ∃ b, BinIs E.P op T x y (.bool b) ∧ r (.bool b) else ∃ v, BinIs E.P op T x y v ∧ r v
  | _ => False
theorem intW_sound {P : Program} {w : World} {op : BinOp} {T : TypeId} {k : IntKind} {a b : Int} {r : Value → Prop} (hop : isShift op = false) (h : intW op k a b r) :
  ∃ v, r v ∧ (binOp op T (.int k a) (.int k b)).run P w = .ok v w := by
 cases op <;> simp only [intW, isShift] at h hop <;> first
  | exact h.elim
  | (simp at hop; done)
  | exact ⟨_, h, by simp [binOp, Op.intArith, Op.intBits, Op.intCmp]⟩
  | exact ⟨_, h.2, by simp [binOp, Op.intDiv, h.1]⟩
theorem shiftW_sound {P : Program} {w : World} {op : BinOp} {T : TypeId} {k yk : IntKind} {a b : Int} {r : Value → Prop} (h : shiftW op k a b r) :
  ∃ v, r v ∧ (binOp op T (.int k a) (.int yk b)).run P w = .ok v w := by
 cases op <;> simp only [shiftW] at h <;> first
  | exact h.elim
  | (obtain ⟨h0, h1⟩ := h
     have hn : ¬ b < 0 := by omega
     exact ⟨_, h1, by simp [binOp, Op.shift, hn]⟩)
theorem strW_sound {P : Program} {w : World} {op : BinOp} {T : TypeId} {a b : ByteArray} {r : Value → Prop} (h : strW op a b r) :
  ∃ v, r v ∧ (binOp op T (.string a) (.string b)).run P w = .ok v w := by
 cases op <;> simp only [strW] at h <;> first
  | exact h.elim
  | exact ⟨_, h, by simp [binOp, Op.stringOp]⟩
  | (obtain ⟨h0, h1⟩ := h
     have hn : ¬ (((a.size + b.size : Nat) : Int) > IntKind.i64.max) := by omega
     exact ⟨_, h1, by simp only [binOp, Op.stringOp, if_neg hn]; rfl⟩)
theorem isAgg_elim {v : Value} (h : isAgg v = true) : ∃ cs, v = .agg cs := by
 cases v <;> simp [isAgg] at h; exact ⟨_, rfl⟩
theorem nilSl_elim {v : Value} (h : nilSl v = true) : v = .slice none 0 0 := by
 unfold nilSl at h
 split at h
 ·rfl
 ·cases h
theorem isNilP_elim {v : Value} (h : isNilP v = true) : v = .pointer none := by
 unfold isNilP at h
 split at h
 ·rfl
 ·cases h
theorem isPtrAny_elim {v : Value} (h : isPtrAny v = true) : ∃ a, v = .pointer a := by
 cases v <;> simp [isPtrAny] at h; exact ⟨_, rfl⟩
theorem binW_sound {E : Env} (hE : E.ok) {w : World} {op : BinOp} {T : TypeId} {ox oy : Operand} {x y : Value} {r : Value → Prop} (h : binW E op T x y r) :
  ∃ v, r v ∧ (do eqGuard op T ox oy x y; binOp op T x y : Sem Value).run E.P w = .ok v w := by
 unfold binW at h
 cases ht : E.tt T with
 | none => simp [ht] at h
 | some i =>
  have hok := hE T i ht
  have hu := hok.und
  simp only [ht] at h
  cases hd : i.d with
  | int k =>
   simp only [hd] at h
   cases hs : isShift op with
   | true =>
    simp only [hs, cond_true] at h
    obtain ⟨h1, h2⟩ := chk_elim h
    simp only [Bool.and_eq_true] at h1
    rw [isInt_elim h1.1]
    obtain ⟨yk, hy⟩ := isAnyInt_elim h1.2
    rw [hy]
    obtain ⟨v, hv, hr⟩ := shiftW_sound (P := E.P) (w := w) (T := T) (yk := yk) h2
    refine ⟨v, hv, ?_⟩
    have : (eqGuard op T ox oy (.int k (intOf x)) (.int yk (intOf y))).run E.P w = .ok () w := by
     cases op <;> simp [eqGuard]
    simp [this, hr]
   | false =>
    simp only [hs, cond_false] at h
    obtain ⟨h1, h2⟩ := chk_elim h
    simp only [Bool.and_eq_true] at h1
    rw [isInt_elim h1.1, isInt_elim h1.2]
    obtain ⟨v, hv, hr⟩ := intW_sound (P := E.P) (w := w) (T := T) hs h2
    refine ⟨v, hv, ?_⟩
    have : (eqGuard op T ox oy (.int k (intOf x)) (.int k (intOf y))).run E.P w = .ok () w := by
     cases op <;> simp [eqGuard]
    simp [this, hr]
  | bool =>
   simp only [hd] at h
   obtain ⟨h1, h2⟩ := chk_elim h
   simp only [Bool.and_eq_true] at h1
   rw [isBool_elim h1.1, isBool_elim h1.2]
   have he := run_equal_bool (P := E.P) (w := w) T (boolOf x) (boolOf y) (hd ▸ hu)
   cases op <;> simp only [eqNe] at h2 <;> first
    | exact h2.elim
    | exact ⟨_, h2, by simp [eqGuard, binOp, he]⟩
  | string =>
   simp only [hd] at h
   obtain ⟨h1, h2⟩ := chk_elim h
   simp only [Bool.and_eq_true] at h1
   rw [isStr_elim h1.1, isStr_elim h1.2]
   obtain ⟨v, hv, hr⟩ := strW_sound (P := E.P) (w := w) (T := T) h2
   refine ⟨v, hv, ?_⟩
   have : (eqGuard op T ox oy (.string (strOf x)) (.string (strOf y))).run E.P w = .ok () w := by
    cases op <;> simp [eqGuard]
   simp [this, hr]
  | slice e =>
   simp only [hd] at h
   obtain ⟨h1, h2⟩ := chk_elim h
   simp only [Bool.and_eq_true] at h1
   rw [isSl_elim h1.1, nilSl_elim h1.2]
   have he := run_equal_slice_nil (P := E.P) (w := w) T e (slA x) (slN x) (slC x) (hd ▸ hu)
   cases op <;> simp only [eqNe] at h2 <;> first
    | exact h2.elim
    | exact ⟨_, h2, by simp [eqGuard, binOp, he]⟩
  | pointer e =>
   simp only [hd] at h
   obtain ⟨h1, h2⟩ := chk_elim h
   simp only [Bool.and_eq_true] at h1
   obtain ⟨a, rfl⟩ := isPtrAny_elim h1.1
   rw [isNilP_elim h1.2]
   have hp : E.P.pointee T = e := by simp [Program.pointee, hu, hd]
   have he := run_equal_pointer_nil (P := E.P) (w := w) T a (by rw [hp, hu, hd])
   cases op <;> simp only [eqNe] at h2 <;> first
    | exact h2.elim
    | exact ⟨_, h2, by simp [eqGuard, binOp, he, ptrNil]⟩
  | float fk =>
   simp only [hd] at h
   cases hc : isCmp op with
   | true =>
    simp only [hc, cond_true] at h
    obtain ⟨b, hv, hr⟩ := h
    exact ⟨_, hr, hv ox oy w⟩
   | false =>
    simp only [hc, cond_false] at h
    obtain ⟨v, hv, hr⟩ := h
    exact ⟨v, hr, hv ox oy w⟩
  | struct fs =>
   simp only [hd] at h
   obtain ⟨h1, b, h3, h4⟩ := chk_elim h
   simp only [Bool.and_eq_true] at h1
   obtain ⟨xs, rfl⟩ := isAgg_elim h1.1
   obtain ⟨ys, rfl⟩ := isAgg_elim h1.2
   have he := h3.1 w
   have hg := h3.2 op ox oy w
   cases op <;> simp only [eqNe] at h4 <;> first
    | exact h4.elim
    | exact ⟨_, h4, by simp [hg, binOp, he]⟩
  | array n e =>
   simp only [hd] at h
   obtain ⟨h1, b, h3, h4⟩ := chk_elim h
   simp only [Bool.and_eq_true] at h1
   obtain ⟨xs, rfl⟩ := isAgg_elim h1.1
   obtain ⟨ys, rfl⟩ := isAgg_elim h1.2
   have he := h3.1 w
   have hg := h3.2 op ox oy w
   cases op <;> simp only [eqNe] at h4 <;> first
    | exact h4.elim
    | exact ⟨_, h4, by simp [hg, binOp, he]⟩
  | _ => simp [hd] at h
end Go.Eng
namespace Go.Eng
open Go Go.RowKit
def fieldOff (E : Env) (T : TypeId) (f : Nat) : Option Nat := match E.tt T with
 | none => none
 | some i => match i.d with
  | .struct fs => match fs.toList[f]? with
   | none => none
   | some fd => match E.tt fd.type with
    | none => none
    | some j => bif Nat.beq j.size 0 then none else some fd.offset
  | _ => none
theorem run_fieldAt {E : Env} (hE : E.ok) {w : World} {T : TypeId} {f fo b o : Nat} (h : fieldOff E T f = some fo) :
  (Instr.fieldAt T (ptr b o) f).run E.P w = .ok (ptr b (o + fo)) w := by
 unfold fieldOff at h
 cases ht : E.tt T with
 | none => simp [ht] at h
 | some i =>
  simp only [ht] at h
  have hu := (hE T i ht).run_und (w := w)
  cases hd : i.d with
  | struct fs =>
   simp only [hd] at h hu
   cases hf : fs.toList[f]? with
   | none => simp [hf] at h
   | some fd =>
    simp only [hf] at h
    cases hj : E.tt fd.type with
    | none => simp [hj] at h
    | some j =>
     simp only [hj] at h
     have hs := (hE _ j hj).run_size (w := w)
     have hf' : fs[f]? = some fd := by simpa using hf
     cases hz : Nat.beq j.size 0 with
     | true => simp [hz] at h
     | false =>
      simp only [hz, cond_false, Option.some.injEq] at h
      subst h
      have hne : j.size ≠ 0 := fun e => by rw [e] at hz; simp at hz
      simp [Instr.fieldAt, hu, hf', Instr.sureAddr, ptr, fieldPlace, hs, hne, addr_add]
  | _ => simp [hd] at h
inductive Ix where
 | arr (len esz : Nat)
 | sl (esz : Nat)
def ixOf (E : Env) (T : TypeId) : Option Ix := match E.tt T with
 | none => none
 | some i => match i.d with
  | .array len e => match E.tt e with
   | none => none
   | some j => some (.arr len j.size)
  | .slice e => match E.tt e with
   | none => none
   | some j => some (.sl j.size)
  | _ => none
def inRange (i : Int) (n : Nat) : Prop := 0 ≤ i ∧ i < n
theorem run_indexAt_arr {E : Env} (hE : E.ok) {w : World} {T : TypeId} {len esz b o : Nat} {k : IntKind} {i : Int} (h : ixOf E T = some (.arr len esz)) (hi : inRange i len) :
  (Instr.indexAt T (ptr b o) (.int k i)).run E.P w = .ok (ptr b (o + i.toNat * esz)) w := by
 unfold ixOf at h
 cases ht : E.tt T with
 | none => simp [ht] at h
 | some x =>
  simp only [ht] at h
  have hu := (hE T x ht).run_und (w := w)
  cases hd : x.d with
  | array n e =>
   simp only [hd] at h hu
   cases hj : E.tt e with
   | none => simp [hj] at h
   | some j =>
    simp only [hj, Option.some.injEq, Ix.arr.injEq] at h
    obtain ⟨rfl, rfl⟩ := h
    have hs := (hE _ j hj).run_size (w := w)
    simp [Instr.indexAt, asIntOf, hu, Instr.sureAddr, ptr, hi.1, hi.2, hs, addr_add]
  | slice e =>
   simp only [hd] at h
   cases hj : E.tt e <;> simp [hj] at h
  | _ => simp [hd] at h
theorem run_indexAt_sl {E : Env} (hE : E.ok) {w : World} {T : TypeId} {esz b o n c : Nat} {k : IntKind} {i : Int} (h : ixOf E T = some (.sl esz)) (hi : inRange i n) :
  (Instr.indexAt T (.slice (some ⟨b, o, none⟩) n c) (.int k i)).run E.P w = .ok (ptr b (o + i.toNat * esz)) w := by
 unfold ixOf at h
 cases ht : E.tt T with
 | none => simp [ht] at h
 | some x =>
  simp only [ht] at h
  have hu := (hE T x ht).run_und (w := w)
  cases hd : x.d with
  | slice e =>
   simp only [hd] at h hu
   cases hj : E.tt e with
   | none => simp [hj] at h
   | some j =>
    simp only [hj, Option.some.injEq, Ix.sl.injEq] at h
    subst h
    have hs := (hE _ j hj).run_size (w := w)
    simp [Instr.indexAt, asIntOf, hu, ptr, hi.1, hi.2, hs, addr_add]
  | array n e =>
   simp only [hd] at h
   cases hj : E.tt e <;> simp [hj] at h
  | _ => simp [hd] at h
def fillW (place : Nat → Option (Nat × Nat)) (cs : List Value) : List (Nat × Value) → (List Value → Prop) → Prop
 | [], k => k cs
 | (i, v) :: rest, k => match place i with
  | none => False
  | some (off, size) => chk (Nat.beq v.cells.size size && Nat.ble (off + size) cs.length) (fillW place (splice cs off v.cells.toList) rest k)
theorem fold_set (off : Nat) : ∀ (vs : List Value) (j : Nat) (cs : List Value), off + j + vs.length ≤ cs.length →
  (vs.zipIdx j).foldl (fun (a : Array Value) (c, i) => a.setIfInBounds (off + i) c) cs.toArray = (cs.take (off + j) ++ vs ++ cs.drop (off + j + vs.length)).toArray
 | [], j, cs, h => by simp [List.zipIdx]
 | v :: vs, j, cs, h => by
  simp only [List.length_cons] at h
  simp only [List.zipIdx_cons, List.foldl_cons, List.setIfInBounds_toArray]
  rw [fold_set off vs (j + 1) (cs.set (off + j) v) (by rw [List.length_set]; omega)]
  congr 1
  have e := list_seg_step cs (off + j) v vs (by omega)
  simpa [Nat.add_assoc] using e
theorem fillW_sound {place : Nat → Option (Nat × Nat)} : ∀ {parts : List (Nat × Value)} {cs : List Value} {k : List Value → Prop}, fillW place cs parts k →
  ∃ r, k r ∧ Instr.fill place cs.toArray parts = some r.toArray
 | [], cs, k, h => ⟨cs, h, rfl⟩
 | (i, v) :: rest, cs, k, h => by
  simp only [fillW] at h
  cases hp : place i with
  | none => simp [hp] at h
  | some os =>
   obtain ⟨off, size⟩ := os
   simp only [hp] at h
   obtain ⟨h1, h2⟩ := chk_elim h
   simp only [Bool.and_eq_true, Nat.ble_eq] at h1
   have hs : v.cells.size = size := Nat.eq_of_beq_eq_true h1.1
   obtain ⟨r, hk, hr⟩ := fillW_sound h2
   refine ⟨r, hk, ?_⟩
   have hle : ¬ (off + v.cells.size > cs.length) := by omega
   have e := fold_set off v.cells.toList 0 cs (by simp; omega)
   have e2 : v.cells.zipIdx.foldl (fun (cs : Array Value) (c, j) => cs.setIfInBounds (off + j) c) cs.toArray = (splice cs off v.cells.toList).toArray := by
    rw [← Array.foldl_toList]
    simp only [Array.toList_zipIdx]
    simpa [splice] using e
   have hc : (decide (v.cells.size ≠ size) || decide (off + v.cells.size > cs.toArray.size)) = false := by
    simp [hs]; omega
   simp only [Instr.fill, hp]
   rw [if_neg (by simp only [Bool.not_eq_true]; exact hc)]
   rw [← hr, ← e2]
def placesOf (E : Env) (T : TypeId) : Option (Nat → Option (Nat × Nat)) := match E.tt T with
 | none => none
 | some i => match i.d with
  | .struct fs => bif fs.toList.all (fun f => (E.tt f.type).isSome) then some fun n => match fs.toList[n]? with
    | none => none
    | some f => match E.tt f.type with
     | none => none
     | some j => some (f.offset, j.size)
   else none
  | .array _ e => match E.tt e with
   | none => none
   | some j => some fun n => some (n * j.size, j.size)
  | _ => none
def zeroOf (E : Env) (T : TypeId) : List Value := match E.tt T with
 | none => []
 | some i => i.zero.cells.toList
theorem run_places {E : Env} (hE : E.ok) {w : World} : ∀ (fs : List Field), fs.all (fun f => (E.tt f.type).isSome) = true →
  (fs.mapM (m := Sem) fun f => do pure (f.offset, ← sizeOf f.type)).run E.P w = .ok (fs.map fun f => (f.offset, match E.tt f.type with | some j => j.size | none => 0)) w
 | [], _ => rfl
 | f :: fs, h => by
  simp only [List.all_cons, Bool.and_eq_true] at h
  obtain ⟨j, hj⟩ := Option.isSome_iff_exists.1 h.1
  have hs := (hE _ j hj).run_size (w := w)
  have ih := run_places hE fs h.2 (w := w)
  simp only [List.mapM_cons, Sem.run_bind, hs, Result.andThen_ok, Sem.run_pure, ih, List.map_cons, hj]
theorem run_build {E : Env} (hE : E.ok) {w : World} {T : TypeId} {parts : List (Nat × Value)} {place : Nat → Option (Nat × Nat)} {k : List Value → Prop} (hp : placesOf E T = some place) (h : fillW place (zeroOf E T) parts k) :
  ∃ r, k r ∧ (Instr.build T parts.toArray).run E.P w = .ok (.agg r.toArray) w := by
 unfold placesOf at hp
 unfold zeroOf at h
 cases ht : E.tt T with
 | none => simp [ht] at hp
 | some i =>
  simp only [ht] at hp h
  have hok := hE T i ht
  have hu := hok.run_und (w := w)
  have hz := hok.run_zero (w := w)
  obtain ⟨r, hk, hr⟩ := fillW_sound h
  refine ⟨r, hk, ?_⟩
  cases hd : i.d with
  | struct fs =>
   simp only [hd] at hp hu
   cases ha : fs.toList.all (fun f => (E.tt f.type).isSome) with
   | false => simp [ha] at hp
   | true =>
    simp only [ha, cond_true, Option.some.injEq] at hp
    have hm := run_places hE fs.toList ha (w := w)
    have hm' : (fs.mapM (m := Sem) fun f => do pure (f.offset, ← sizeOf f.type)).run E.P w = .ok (fs.toList.map fun f => (f.offset, match E.tt f.type with | some j => j.size | none => 0)).toArray w := by
     rw [Array.mapM_eq_mapM_toList]
     simp only [Sem.run_map, hm, Result.andThen_ok]
    have hplace : (fun n => (fs.toList.map fun f => (f.offset, match E.tt f.type with | some j => j.size | none => 0)).toArray[n]?) = place := by
     rw [← hp]
     funext n
     simp only [List.getElem?_toArray, List.getElem?_map]
     cases hf : fs.toList[n]? with
     | none => simp
     | some f =>
      have : (E.tt f.type).isSome = true := by
       rw [List.all_eq_true] at ha
       exact ha f (List.mem_of_getElem? hf)
      obtain ⟨j, hj⟩ := Option.isSome_iff_exists.1 this
      simp [hj]
    rw [← hplace] at hr
    simp only [Array.toArray_toList] at hr
    simp only [Instr.build, Sem.run_bind, hz, Result.andThen_ok, hu, hm', hr]
    rfl
  | array n e =>
   simp only [hd] at hp hu
   cases hj : E.tt e with
   | none => simp [hj] at hp
   | some j =>
    simp only [hj, Option.some.injEq] at hp
    have hs := (hE _ j hj).run_size (w := w)
    rw [← hp] at hr
    simp only [Array.toArray_toList] at hr
    simp only [Instr.build, Sem.run_bind, hz, Result.andThen_ok, hu, hs, hr]
    rfl
  | _ => simp [hd] at hp
end Go.Eng
namespace Go.Eng
open Go Go.RowKit
def slBase (a : Option Addr) (l m sz : Nat) : Option Addr := bif Nat.beq l 0 then a else bif Nat.beq m l then a else a.map (·.add (l * sz))
def convW (E : Env) (s d : TypeId) (v : Value) (r : Value → Prop) : Prop := match E.tt s with
 | none => False
 | some i => match E.tt d with
  | none => False
  | some j => match i.d, j.d with
   | .int k, .int k' => chk (isInt k v) (r (.int k' (k'.wrap (intOf v))))
   | .string, .string => chk (isStr v) (r v)
   | .int _, .float _ => ∃ u, ConvIs E.P s d v u ∧ r u
   | _, _ => False
def lenW (E : Env) (T : TypeId) (v : Value) (r : Value → Prop) : Prop := match E.tt T with
 | none => False
 | some i => match i.d with
  | .slice _ => chk (isSl v) (r (.int .i64 (slN v)))
  | .string => chk (isStr v) (r (.int .i64 (strOf v).size))
  | .array n _ => r (.int .i64 n)
  | _ => False
def intKindOf (E : Env) (T : TypeId) : Option IntKind := match E.tt T with
 | none => none
 | some i => match i.d with
  | .int k => some k
  | _ => none
def isStrT (E : Env) (T : TypeId) : Bool := match E.tt T with
 | none => false
 | some i => match i.d with
  | .string => true
  | _ => false
def boundW (x : Option Value) (d y : Nat) (r : Nat → Prop) : Prop := match x with
 | none => r d
 | some v => chk (isAnyInt v) ((0 ≤ intOf v ∧ intOf v ≤ y) ∧ r (intOf v).toNat)
def optV (S : St) (x : Option Operand) (r : Option Value → Prop) : Prop := match x with
 | none => r none
 | some x => wv S x fun v => r (some v)
def elemSize (E : Env) (T : TypeId) : Option Nat := match E.tt T with
 | none => none
 | some i => match i.d with
  | .slice e => match E.tt e with
   | none => none
   | some j => some j.size
  | _ => none
def sliceW (E : Env) (T : TypeId) (v : Value) (lo hi mx : Option Value) (r : Value → Prop) : Prop :=
 match elemSize E T with
 | some sz => chk (isSl v) (boundW mx (slC v) (slC v) fun m => boundW hi (slN v) m fun h => boundW lo 0 h fun l =>
   chk (match mx, hi with
    | some _, none => false
    | _, _ => true) (r (.slice (slBase (slA v) l m sz) (h - l) (m - l))))
 | none => bif isStrT E T then chk (isStr v && mx.isNone) (boundW hi (strOf v).size (strOf v).size fun h => boundW lo 0 h fun l => r (.string ((strOf v).extract l h))) else False
def arrOne (E : Env) (T : TypeId) : Option Nat := match E.tt T with
 | none => none
 | some i => match i.d with
  | .array len e => match E.tt e with
   | none => none
   | some j => bif j.agg then none else some len
  | _ => none
theorem arrOne_spec {E : Env} {T : TypeId} {len : Nat} (h : arrOne E T = some len) : ∃ i e j, E.tt T = some i ∧ i.d = .array len e ∧ E.tt e = some j ∧ j.agg = false := by
 unfold arrOne at h
 cases ht : E.tt T with
 | none => simp [ht] at h
 | some i =>
  simp only [ht] at h
  cases hd : i.d with
  | array n e =>
   simp only [hd] at h
   cases hj : E.tt e with
   | none => simp [hj] at h
   | some j =>
    cases ha : j.agg with
    | true => simp [hj, ha] at h
    | false =>
     simp [hj, ha] at h
     subst h
     exact ⟨i, e, j, rfl, hd, hj, ha⟩
  | _ => simp [hd] at h
def concreteT (E : Env) (T : TypeId) : Bool := match E.tt T with
 | none => false
 | some i => match i.d with
  | .interface _ => false
  | _ => true
def pureW (E : Env) (S : St) (o : Oper) (k : SV → Prop) : Prop := match o.op with
 | .unOp op T x => wv S x fun v => match op with
  | .not => chk (isBool v) (k (.v (.bool (!boolOf v))))
  | .neg => match intKindOf E T with
   | some kk => chk (isInt kk v) (k (.v (.int kk (kk.wrap (0 - intOf v)))))
   | none => False
  | .xor => match intKindOf E T with
   | some kk => chk (isInt kk v) (k (.v (.int kk (kk.wrap (BitVec.ofInt kk.bits (if kk.signed then -1 else kk.max) ^^^ BitVec.ofInt kk.bits (intOf v)).toNat))))
   | none => False
  | .plus => False
 | .binOp op T x y _ => wv S x fun vx => wv S y fun vy => binW E op T vx vy fun r => k (.v r)
 | .convert s d x => wv S x fun v => convW E s d v fun r => k (.v r)
 | .makeFunc fn first captured => wvs S first.toList fun fs => wvs S captured.toList fun cs => k (.v (.func fn fs.toArray cs.toArray))
 | .fieldAddr T x f => match fieldOff E T f with
  | none => False
  | some fo => match S.ev x with
   | some (.loc id off) => k (.loc id (off + fo))
   | some (.v v) => chk (isPtr v) (k (.v (ptr (ptrB v) (ptrO v + fo))))
   | _ => False
 | .indexAddr T x i => wv S i fun vi => chk (isAnyInt vi) (match ixOf E T with
  | none => False
  | some (.arr len esz) => inRange (intOf vi) len ∧ (match S.ev x with
   | some (.loc id off) => k (.loc id (off + (intOf vi).toNat * esz))
   | some (.v v) => chk (isPtr v) (k (.v (ptr (ptrB v) (ptrO v + (intOf vi).toNat * esz))))
   | _ => False)
  | some (.sl esz) => match S.ev x with
   | some (.sl id n _) => inRange (intOf vi) n ∧ k (.loc id ((intOf vi).toNat * esz))
   | some (.v v) => chk (isSl v) (∃ b o, slA v = some ⟨b, o, none⟩ ∧ inRange (intOf vi) (slN v) ∧ k (.v (ptr b (o + (intOf vi).toNat * esz))))
   | _ => False)
 | .index T x i => wv S x fun v => wv S i fun vi => chk (isAnyInt vi) (bif isStrT E T
  then chk (isStr v) (inRange (intOf vi) (strOf v).size ∧ k (.v (.int .u8 (strAt (strOf v) (intOf vi).toNat))))
  else match arrOne E T with
   | some len => chk (isAgg v) (inRange (intOf vi) len ∧ look (cellsL v) (intOf vi).toNat fun u => k (.v u))
   | none => False)
 | .build T parts => match placesOf E T with
  | none => False
  | some place => wvs S (parts.toList.map (·.2)) fun vs => fillW place (zeroOf E T) ((parts.toList.map (·.1)).zip vs) fun r => k (.v (.agg r.toArray))
 | .extract x n => wv S x fun v => chk (isTup v) (look (tupL v) n fun u => k (.v u))
 | .makeInterface T x => wv S x fun v => chk (concreteT E T) (k (.v (.iface T v)))
 | .nilCheck x => match S.ev x with
  | some (.loc id off) => k (.loc id off)
  | some (.v v) => chk (isPtr v) (k (.v v))
  | _ => False
 | .slice T x lo hi mx => wv S x fun v => optV S lo fun l => optV S hi fun h => optV S mx fun m => sliceW E T v l h m fun r => k (.v r)
 | .call c => match c.callee with
  | .builtin .len => match c.args.toList, c.argTypes.toList with
   | [x], [T] => wv S x fun v => lenW E T v fun r => k (.v r)
   | _, _ => False
  | .builtin .min => match c.args.toList, c.argTypes.toList with
   | [x, y], T :: _ => wv S x fun vx => wv S y fun vy => match intKindOf E T with
    | some kk => chk (isInt kk vx && isInt kk vy) (k (.v (.int kk (if intOf vy < intOf vx then intOf vy else intOf vx))))
    | none => False
   | _, _ => False
  | .builtin .max => match c.args.toList, c.argTypes.toList with
   | [x, y], T :: _ => wv S x fun vx => wv S y fun vy => match intKindOf E T with
    | some kk => chk (isInt kk vx && isInt kk vy) (k (.v (.int kk (if intOf vy > intOf vx then intOf vy else intOf vx))))
    | none => False
   | [x, y, z], T :: _ => wv S x fun vx => wv S y fun vy => wv S z fun vz => match intKindOf E T with
    | some kk => chk (isInt kk vx && (isInt kk vy && isInt kk vz)) (k (.v (.int kk (if intOf vz > (if intOf vy > intOf vx then intOf vy else intOf vx) then intOf vz else (if intOf vy > intOf vx then intOf vy else intOf vx)))))
    | none => False
   | _, _ => False
  | _ => False
 | _ => False
section sound
variable {C : Ctx} {S : St} {m : Mem} {a : Act} {w : World}
theorem wvs_sound (hr : Rel C S m a w) : ∀ {l : List Operand} {k : List Value → Prop}, wvs S l k → k (l.map a.eval)
 | [], k, h => h
 | x :: l, k, h => by
  simp only [wvs] at h
  obtain ⟨v, hv, h2⟩ := wv_elim h
  have := wvs_sound hr h2
  simpa [hr.ev hv] using this
theorem boundW_sound {P : Program} {w : World} {x : Option Value} {d y : Nat} {r : Nat → Prop} (h : boundW x d y r) (c : BoundsCode) : ∃ n, r n ∧
  (x = none → n = d) ∧ (∀ v, x = some v → (Instr.sliceBound v y c).run P w = .ok n w) := by
 cases x with
 | none => exact ⟨d, h, fun _ => rfl, fun v hv => by cases hv⟩
 | some v =>
  obtain ⟨h1, h2, h3⟩ := chk_elim h
  refine ⟨_, h3, fun hv => (by cases hv), fun u hu => ?_⟩
  cases hu
  obtain ⟨kk, hk⟩ := isAnyInt_elim h1
  rw [hk]
  simp only [intOf] at h2 ⊢
  simp [Instr.sliceBound, asIntOf, h2.1, h2.2]
theorem optV_sound (hr : Rel C S m a w) {x : Option Operand} {r : Option Value → Prop} (h : optV S x r) : r (x.map a.eval) := by
 cases x with
 | none => exact h
 | some x =>
  obtain ⟨v, hv, h2⟩ := wv_elim h
  simpa [hr.ev hv] using h2
theorem sliceW_sound {E : Env} (hE : E.ok) {w : World} {T : TypeId} {v : Value} {lo hi mx : Option Value} {r : Value → Prop} (h : sliceW E T v lo hi mx r) :
  ∃ u, r u ∧ (Instr.sliceAt T v lo hi mx).run E.P w = .ok u w := by
 unfold sliceW at h
 cases he : elemSize E T with
 | some sz =>
  simp only [he] at h
  obtain ⟨h1, h2⟩ := chk_elim h
  unfold elemSize at he
  cases ht : E.tt T with
  | none => simp [ht] at he
  | some i =>
   simp only [ht] at he
   have hu := (hE T i ht).run_und (w := w)
   cases hd : i.d with
   | slice e =>
    simp only [hd] at he hu
    cases hj : E.tt e with
    | none => simp [hj] at he
    | some j =>
     simp only [hj, Option.some.injEq] at he
     subst he
     have hs := (hE _ j hj).run_size (w := w)
     rw [isSl_elim h1]
     obtain ⟨m, h2, m1, m2⟩ := boundW_sound (P := E.P) (w := w) h2 .slice3Acap
     obtain ⟨hh, h2, g1, g2⟩ := boundW_sound (P := E.P) (w := w) h2 (if mx.isSome then .slice3B else .sliceAcap)
     obtain ⟨l, h2, l1, l2⟩ := boundW_sound (P := E.P) (w := w) h2 (if mx.isSome then .slice3C else .sliceB)
     obtain ⟨h3, h4⟩ := chk_elim h2
     refine ⟨_, h4, ?_⟩
     have hbase : (if m = l then slA v else (slA v).map (·.add (l * j.size))) = slBase (slA v) l m j.size := by
      unfold slBase
      by_cases hl : l = 0
      ·subst hl
       cases slA v <;> simp [Addr.add]
      ·by_cases hml : m = l
       ·subst hml; simp
       ·simp [hml, beq_ne hl, beq_ne hml]
     have hb : (Instr.sliceBounds true (slN v) (slC v) lo hi mx).run E.P w = .ok (l, hh, m) w := by
      cases mx with
      | none =>
       have := m1 rfl; subst this
       cases hi with
       | none =>
        have := g1 rfl; subst this
        cases lo with
        | none => have := l1 rfl; subst this; simp [Instr.sliceBounds]
        | some lv => have := l2 lv rfl; simp at this; simp [Instr.sliceBounds, this]
       | some hv =>
        have hg := g2 hv rfl; simp at hg
        cases lo with
        | none => have := l1 rfl; subst this; simp [Instr.sliceBounds, hg]
        | some lv => have := l2 lv rfl; simp at this; simp [Instr.sliceBounds, hg, this]
      | some mv =>
       have hm := m2 mv rfl
       cases hi with
       | none => simp at h3
       | some hv =>
        have hg := g2 hv rfl; simp at hg
        cases lo with
        | none => have := l1 rfl; subst this; simp [Instr.sliceBounds, hm, hg]
        | some lv => have := l2 lv rfl; simp at this; simp [Instr.sliceBounds, hm, hg, this]
     simp only [Instr.sliceAt, Sem.run_bind, hu, Result.andThen_ok, Instr.slice, hb, hs, hbase]
     rfl
   | _ => simp [hd] at he
 | none =>
  simp only [he] at h
  cases hs : isStrT E T with
  | false => simp [hs] at h
  | true =>
   simp only [hs, cond_true] at h
   unfold isStrT at hs
   cases ht : E.tt T with
   | none => simp [ht] at hs
   | some i =>
    simp only [ht] at hs
    have hu := (hE T i ht).run_und (w := w)
    cases hd : i.d <;> simp [hd] at hs
    rw [hd] at hu
    obtain ⟨h1, h2⟩ := chk_elim h
    simp only [Bool.and_eq_true] at h1
    rw [isStr_elim h1.1]
    have hmx : mx = none := by cases mx <;> simp at h1 ⊢
    subst hmx
    obtain ⟨hh, h2, g1, g2⟩ := boundW_sound (P := E.P) (w := w) h2 .sliceAlen
    obtain ⟨l, h2, l1, l2⟩ := boundW_sound (P := E.P) (w := w) h2 .sliceB
    refine ⟨_, h2, ?_⟩
    have hb : (Instr.sliceBounds false (strOf v).size (strOf v).size lo hi none).run E.P w = .ok (l, hh, (strOf v).size) w := by
     cases hi with
     | none =>
      have := g1 rfl; subst this
      cases lo with
      | none => have := l1 rfl; subst this; simp [Instr.sliceBounds]
      | some lv => have := l2 lv rfl; simp [Instr.sliceBounds, this]
     | some hv =>
      have hg := g2 hv rfl
      cases lo with
      | none => have := l1 rfl; subst this; simp [Instr.sliceBounds, hg]
      | some lv => have := l2 lv rfl; simp [Instr.sliceBounds, hg, this]
    simp [Instr.sliceAt, hu, Instr.slice, hb]
theorem isStrT_spec {E : Env} {T : TypeId} (h : isStrT E T = true) : ∃ i, E.tt T = some i ∧ i.d = .string := by
 unfold isStrT at h
 cases ht : E.tt T with
 | none => simp [ht] at h
 | some i =>
  simp only [ht] at h
  cases hd : i.d <;> simp [hd] at h
  exact ⟨i, rfl, hd⟩
def PureOk (E : Env) (S : St) (a : Act) (w : World) (o : Oper) (k : SV → Prop) : Prop :=
 ∃ sv v, k sv ∧ S.den sv = some v ∧ (execOp a.eval o).run E.P w = .ok (.value v) w
theorem pureW_sound {E : Env} (hE : E.ok) {o : Oper} {k : SV → Prop} (hr : Rel C S m a w) (h : pureW E S o k) : PureOk E S a w o k := by
 obtain ⟨dst, op, type, pos, after, guard⟩ := o
 cases op with
 | unOp op T x =>
  obtain ⟨v, hv, h⟩ := wv_elim h
  have he := hr.ev hv
  cases op with
  | not =>
   obtain ⟨h1, h2⟩ := chk_elim h
   refine ⟨_, _, h2, rfl, ?_⟩
   simp only [execOp, he]; rw [isBool_elim h1]; simp [Op.unary, boolOf]
  | neg =>
   simp only at h
   cases hk : intKindOf E T with
   | none => simp [hk] at h
   | some kk =>
    simp only [hk] at h
    obtain ⟨h1, h2⟩ := chk_elim h
    refine ⟨_, _, h2, rfl, ?_⟩
    simp only [execOp, he]; rw [isInt_elim h1]; simp [Op.unary, Op.intArith, intOf]
  | xor =>
   simp only at h
   cases hk : intKindOf E T with
   | none => simp [hk] at h
   | some kk =>
    simp only [hk] at h
    obtain ⟨h1, h2⟩ := chk_elim h
    refine ⟨_, _, h2, rfl, ?_⟩
    simp only [execOp, he]; rw [isInt_elim h1]; simp [Op.unary, Op.intBits, intOf]
  | plus => exact h.elim
 | binOp op T x y yT =>
  obtain ⟨vx, hx, h⟩ := wv_elim h
  obtain ⟨vy, hy, h⟩ := wv_elim h
  obtain ⟨v, hv, hrun⟩ := binW_sound hE (w := w) (ox := x) (oy := y) h
  refine ⟨_, _, hv, rfl, ?_⟩
  simp only [execOp, hr.ev hx, hr.ev hy]
  rw [Sem.run_bind, hrun]; rfl
 | convert s d x =>
  obtain ⟨v, hv, h⟩ := wv_elim h
  have he := hr.ev hv
  unfold convW at h
  cases hs : E.tt s with
  | none => simp [hs] at h
  | some i =>
   cases hd : E.tt d with
   | none => simp [hs, hd] at h
   | some j =>
    simp only [hs, hd] at h
    have hi := (hE s i hs).run_und (w := w)
    have hj := (hE d j hd).run_und (w := w)
    cases hid : i.d <;> cases hjd : j.d <;> simp only [hid, hjd] at h <;> first
     | exact h.elim
     | (obtain ⟨h1, h2⟩ := chk_elim h
        refine ⟨_, _, h2, rfl, ?_⟩
        simp only [execOp, he]; rw [isInt_elim h1]; simp [convert, hi, hj, hid, hjd, Conv.intToInt, intOf])
     | (obtain ⟨h1, h2⟩ := chk_elim h
        refine ⟨_, _, h2, rfl, ?_⟩
        simp only [execOp, he]; rw [isStr_elim h1]; simp [convert, hi, hj, hid, hjd])
     | (obtain ⟨u, h1, h2⟩ := h
        refine ⟨_, _, h2, rfl, ?_⟩
        simp only [execOp, he]; rw [Sem.run_bind, h1 w]; rfl)
 | makeFunc fn first captured =>
  have h1 := wvs_sound hr h
  have h2 := wvs_sound hr h1
  refine ⟨_, _, h2, rfl, ?_⟩
  have e1 : (first.map a.eval) = (List.map a.eval first.toList).toArray := by simp [← Array.toList_map]
  have e2 : (captured.map a.eval) = (List.map a.eval captured.toList).toArray := by simp [← Array.toList_map]
  simp [execOp, Instr.makeFunc, e1, e2]
 | fieldAddr T x f =>
  simp only [pureW] at h
  cases hf : fieldOff E T f with
  | none => simp [hf] at h
  | some fo =>
   simp only [hf] at h
   cases he : S.ev x with
   | none => simp [he] at h
   | some sv =>
    obtain ⟨v, h1, h2, h3⟩ := hr.ev_val he
    cases sv with
    | v u =>
     simp only [he] at h
     obtain ⟨h4, h5⟩ := chk_elim h
     simp only [St.den, Option.some.injEq] at h1
     subst h1
     refine ⟨_, _, h5, rfl, ?_⟩
     have := run_fieldAt hE (w := w) (b := ptrB u) (o := ptrO u) hf
     rw [← isPtr_elim h4] at this
     simp [execOp, h3, this]
    | loc id off =>
     simp only [he] at h
     simp only [St.den] at h1
     cases hx : S.L id with
     | none => simp [hx] at h1
     | some bx =>
      simp only [hx, Option.some.injEq] at h1
      refine ⟨_, ptr bx.b (off + fo), h, by simp [St.den, hx, ptr], ?_⟩
      have := run_fieldAt hE (w := w) (b := bx.b) (o := off) hf
      rw [ptr, h1] at this
      simp [execOp, h3, this]
    | sl id n c => simp [he] at h
 | indexAddr T x i =>
  obtain ⟨vi, hvi, h⟩ := wv_elim h
  obtain ⟨hi1, h⟩ := chk_elim h
  obtain ⟨ki, hki⟩ := isAnyInt_elim hi1
  have hei := hr.ev hvi
  cases hx : ixOf E T with
  | none => simp [hx] at h
  | some ix =>
   cases ix with
   | arr len esz =>
    simp only [hx] at h
    obtain ⟨hin, h⟩ := h
    cases he : S.ev x with
    | none => simp [he] at h
    | some sv =>
     obtain ⟨v, h1, h2, h3⟩ := hr.ev_val he
     cases sv with
     | v u =>
      simp only [he] at h
      obtain ⟨h4, h5⟩ := chk_elim h
      simp only [St.den, Option.some.injEq] at h1
      subst h1
      refine ⟨_, _, h5, rfl, ?_⟩
      have := run_indexAt_arr hE (w := w) (b := ptrB u) (o := ptrO u) (k := ki) hx hin
      rw [← isPtr_elim h4, ← hki] at this
      simp [execOp, h3, hei, this]
     | loc id off =>
      simp only [he] at h
      simp only [St.den] at h1
      cases hb : S.L id with
      | none => simp [hb] at h1
      | some bx =>
       simp only [hb, Option.some.injEq] at h1
       refine ⟨_, ptr bx.b (off + (intOf vi).toNat * esz), h, by simp [St.den, hb, ptr], ?_⟩
       have := run_indexAt_arr hE (w := w) (b := bx.b) (o := off) (k := ki) hx hin
       rw [ptr, h1, ← hki] at this
       simp [execOp, h3, hei, this]
     | sl id n c => simp [he] at h
   | sl esz =>
    simp only [hx] at h
    cases he : S.ev x with
    | none => simp [he] at h
    | some sv =>
     obtain ⟨v, h1, h2, h3⟩ := hr.ev_val he
     cases sv with
     | v u =>
      simp only [he] at h
      obtain ⟨h4, b, o, h5, h6, h7⟩ := chk_elim h
      simp only [St.den, Option.some.injEq] at h1
      subst h1
      refine ⟨_, _, h7, rfl, ?_⟩
      have := run_indexAt_sl hE (w := w) (b := b) (o := o) (k := ki) (c := slC u) hx h6
      rw [← h5, ← isSl_elim h4, ← hki] at this
      simp [execOp, h3, hei, this]
     | loc id off => simp [he] at h
     | sl id n c =>
      simp only [he] at h
      simp only [St.den] at h1
      cases hb : S.L id with
      | none => simp [hb] at h1
      | some bx =>
       simp only [hb, Option.some.injEq] at h1
       refine ⟨_, ptr bx.b ((intOf vi).toNat * esz), h.2, by simp [St.den, hb, ptr], ?_⟩
       subst h1
       have := run_indexAt_sl hE (w := w) (b := bx.b) (o := 0) (k := ki) (c := c) hx h.1
       rw [← hki, Nat.zero_add] at this
       simp [execOp, h3, hei, this]
 | index T x i =>
  obtain ⟨v, hv, h⟩ := wv_elim h
  obtain ⟨vi, hvi, h⟩ := wv_elim h
  obtain ⟨hi1, h⟩ := chk_elim h
  obtain ⟨ki, hki⟩ := isAnyInt_elim hi1
  have hev := hr.ev hv
  have hei := hr.ev hvi
  cases hs : isStrT E T with
  | true =>
   simp only [hs, cond_true] at h
   obtain ⟨h1, h2, h3⟩ := chk_elim h
   obtain ⟨i, ht, hd⟩ := isStrT_spec hs
   have hu := (hE T i ht).run_und (w := w)
   refine ⟨_, _, h3, rfl, ?_⟩
   have hlt : (intOf vi).toNat < (strOf v).size := by have := h2.1; have := h2.2; omega
   have hget : (strOf v)[(intOf vi).toNat]? = some ((strOf v).data.toList.getD (intOf vi).toNat 0) := by
    have hlt' : (intOf vi).toNat < (strOf v).data.size := hlt
    rw [getElem?_pos (strOf v) (intOf vi).toNat hlt]
    congr 1
    show (strOf v).data[(intOf vi).toNat] = _
    rw [List.getD_eq_getElem?_getD, Array.getElem?_toList, getElem?_pos (strOf v).data (intOf vi).toNat hlt']
    rfl
   obtain ⟨n, rfl⟩ : ∃ n, vi = .int ki n := ⟨_, hki⟩
   obtain ⟨st, rfl⟩ : ∃ st, v = .string st := ⟨_, isStr_elim h1⟩
   simp only [intOf, strOf] at h2 hget ⊢
   have h0 := h2.1
   simp [execOp, hev, hei, Instr.index, asIntOf, hu, hd, h0, hget, strAt]
  | false =>
   simp only [hs, cond_false] at h
   cases hx : arrOne E T with
   | none => simp [hx] at h
   | some len =>
    simp only [hx] at h
    obtain ⟨h1, h2, h3⟩ := chk_elim h
    obtain ⟨u, hu1, h4⟩ := look_elim h3
    obtain ⟨cs, rfl⟩ := isAgg_elim h1
    obtain ⟨i, e, j, ht, hd, hj, hja⟩ := arrOne_spec hx
    have hu := (hE T i ht).run_und (w := w)
    have hje := hE e j hj
    have hsz := hje.run_size (w := w)
    have hag := hje.run_agg (w := w)
    have h1' := hje.one hja
    obtain ⟨n, rfl⟩ : ∃ n, vi = .int ki n := ⟨_, hki⟩
    simp only [intOf] at h2 hu1
    have h0 := h2.1
    have hl := h2.2
    simp only [cellsL, Value.cells, Array.getElem?_toList] at hu1
    refine ⟨_, _, h4, rfl, ?_⟩
    simp [execOp, hev, hei, Instr.index, asIntOf, hu, hd, h0, hl, hsz, h1', part, hag, hja, hu1]
 | build T parts =>
  simp only [pureW] at h
  cases hp : placesOf E T with
  | none => simp [hp] at h
  | some place =>
   simp only [hp] at h
   have h1 := wvs_sound hr h
   obtain ⟨r, hk, hrun⟩ := run_build hE (w := w) hp h1
   refine ⟨_, _, hk, rfl, ?_⟩
   have e : (parts.map fun x => (x.1, a.eval x.2)) = ((List.map (fun x => x.fst) parts.toList).zip (List.map a.eval (List.map (fun x => x.snd) parts.toList))).toArray := by
    rw [List.map_map, List.zip_map']
    exact Array.ext' (by simp)
   simp only [execOp, e]
   rw [Sem.run_bind, hrun]; rfl
 | extract x n =>
  obtain ⟨v, hv, h⟩ := wv_elim h
  obtain ⟨h1, h2⟩ := chk_elim h
  obtain ⟨u, hu, h3⟩ := look_elim h2
  refine ⟨_, _, h3, rfl, ?_⟩
  simp only [execOp, hr.ev hv]
  rw [isTup_elim h1]
  simp [Instr.extract, hu]
 | makeInterface T x =>
  obtain ⟨v, hv, h⟩ := wv_elim h
  obtain ⟨h1, h2⟩ := chk_elim h
  refine ⟨_, _, h2, rfl, ?_⟩
  unfold concreteT at h1
  cases ht : E.tt T with
  | none => simp [ht] at h1
  | some i =>
   simp only [ht] at h1
   have hu := (hE T i ht).run_und (w := w)
   simp only [execOp, hr.ev hv, Instr.makeInterface]
   cases hd : i.d <;> simp [hd] at h1 <;> simp [hu, hd]
 | nilCheck x =>
  simp only [pureW] at h
  cases he : S.ev x with
  | none => simp [he] at h
  | some sv =>
   obtain ⟨v, h1, h2, h3⟩ := hr.ev_val he
   cases sv with
   | v u =>
    simp only [he] at h
    obtain ⟨h4, h5⟩ := chk_elim h
    simp only [St.den, Option.some.injEq] at h1
    subst h1
    refine ⟨_, _, h5, rfl, ?_⟩
    simp only [execOp, h3]
    rw [isPtr_elim h4]
    simp [ptr]
   | loc id off =>
    simp only [he] at h
    simp only [St.den] at h1
    cases hx : S.L id with
    | none => simp [hx] at h1
    | some bx =>
     simp only [hx, Option.some.injEq] at h1
     refine ⟨_, v, h, by simp [St.den, hx, h1], ?_⟩
     subst h1
     simp [execOp, h3]
   | sl id n c => simp [he] at h
 | slice T x lo hi mx =>
  obtain ⟨v, hv, h⟩ := wv_elim h
  have h1 := optV_sound hr h
  have h2 := optV_sound hr h1
  have h3 := optV_sound hr h2
  obtain ⟨u, hu, hrun⟩ := sliceW_sound hE (w := w) h3
  refine ⟨_, _, hu, rfl, ?_⟩
  simp only [execOp, hr.ev hv]
  rw [Sem.run_bind, hrun]; rfl
 | call c =>
  obtain ⟨callee, args, argTypes⟩ := c
  cases callee with
  | builtin b =>
   cases b with
   | len =>
    simp only [pureW] at h
    cases hA : args.toList with
    | nil => simp [hA] at h
    | cons x l =>
     cases l with
     | cons y l => simp [hA] at h
     | nil =>
      cases hT : argTypes.toList with
      | nil => simp [hA, hT] at h
      | cons T l =>
       cases l with
       | cons y l => simp [hA, hT] at h
       | nil =>
        simp only [hA, hT] at h
        obtain ⟨v, hv, h⟩ := wv_elim h
        have ha : args = #[x] := by rw [← Array.toArray_toList (xs := args), hA]
        have hat : argTypes = #[T] := by rw [← Array.toArray_toList (xs := argTypes), hT]
        subst ha hat
        unfold lenW at h
        cases ht : E.tt T with
        | none => simp [ht] at h
        | some i =>
         simp only [ht] at h
         have hu := (hE T i ht).run_und (w := w)
         have hev := hr.ev hv
         cases hd : i.d <;> simp only [hd] at h <;> first
          | exact h.elim
          | (obtain ⟨h1, h2⟩ := chk_elim h
             refine ⟨_, _, h2, rfl, ?_⟩
             simp only [execOp, resolve, invoke, builtin, List.map_toArray, List.map, hev]
             rw [isSl_elim h1]
             simp [Builtin.len_, hu, hd, goInt, slN])
          | (obtain ⟨h1, h2⟩ := chk_elim h
             refine ⟨_, _, h2, rfl, ?_⟩
             simp only [execOp, resolve, invoke, builtin, List.map_toArray, List.map, hev]
             rw [isStr_elim h1]
             simp [Builtin.len_, hu, hd, goInt, strOf])
          | (refine ⟨_, _, h, rfl, ?_⟩
             simp [execOp, resolve, invoke, builtin, hev, Builtin.len_, hu, hd, goInt])
   | min =>
    simp only [pureW] at h
    split at h
    ·rename_i x y T l hA hT
     obtain ⟨vx, hx, h⟩ := wv_elim h
     obtain ⟨vy, hy, h⟩ := wv_elim h
     cases hk : intKindOf E T with
     | none => simp [hk] at h
     | some kk =>
      simp only [hk] at h
      obtain ⟨h1, h2⟩ := chk_elim h
      simp only [Bool.and_eq_true] at h1
      refine ⟨_, _, h2, rfl, ?_⟩
      have ha : args = #[x, y] := by rw [← Array.toArray_toList (xs := args), hA]
      subst ha
      have ex := hr.ev hx
      have ey := hr.ev hy
      obtain ⟨nx, rfl⟩ : ∃ n, vx = .int kk n := ⟨_, isInt_elim h1.1⟩
      obtain ⟨ny, rfl⟩ : ∃ n, vy = .int kk n := ⟨_, isInt_elim h1.2⟩
      simp [execOp, resolve, ex, ey, invoke, builtin, Builtin.min_, Builtin.min2, intOf]
      by_cases hc : ny < nx <;> simp [hc]
    ·exact h.elim
   | max =>
    simp only [pureW] at h
    split at h
    ·rename_i x y T l hA hT
     obtain ⟨vx, hx, h⟩ := wv_elim h
     obtain ⟨vy, hy, h⟩ := wv_elim h
     cases hk : intKindOf E T with
     | none => simp [hk] at h
     | some kk =>
      simp only [hk] at h
      obtain ⟨h1, h2⟩ := chk_elim h
      simp only [Bool.and_eq_true] at h1
      refine ⟨_, _, h2, rfl, ?_⟩
      have ha : args = #[x, y] := by rw [← Array.toArray_toList (xs := args), hA]
      subst ha
      have ex := hr.ev hx
      have ey := hr.ev hy
      obtain ⟨nx, rfl⟩ : ∃ n, vx = .int kk n := ⟨_, isInt_elim h1.1⟩
      obtain ⟨ny, rfl⟩ : ∃ n, vy = .int kk n := ⟨_, isInt_elim h1.2⟩
      simp [execOp, resolve, ex, ey, invoke, builtin, Builtin.max_, Builtin.max2, intOf]
    ·rename_i x y z T l hA hT
     obtain ⟨vx, hx, h⟩ := wv_elim h
     obtain ⟨vy, hy, h⟩ := wv_elim h
     obtain ⟨vz, hz, h⟩ := wv_elim h
     cases hk : intKindOf E T with
     | none => simp [hk] at h
     | some kk =>
      simp only [hk] at h
      obtain ⟨h1, h2⟩ := chk_elim h
      simp only [Bool.and_eq_true] at h1
      refine ⟨_, _, h2, rfl, ?_⟩
      have ha : args = #[x, y, z] := by rw [← Array.toArray_toList (xs := args), hA]
      subst ha
      have ex := hr.ev hx
      have ey := hr.ev hy
      have ez := hr.ev hz
      obtain ⟨nx, rfl⟩ : ∃ n, vx = .int kk n := ⟨_, isInt_elim h1.1⟩
      obtain ⟨ny, rfl⟩ : ∃ n, vy = .int kk n := ⟨_, isInt_elim h1.2.1⟩
      obtain ⟨nz, rfl⟩ : ∃ n, vz = .int kk n := ⟨_, isInt_elim h1.2.2⟩
      simp [execOp, resolve, ex, ey, ez, invoke, builtin, Builtin.max_, Builtin.max2, intOf]
    ·exact h.elim
   | _ => simp [pureW] at h
  | _ => simp [pureW] at h
 | _ => simp [pureW] at h
end sound
end Go.Eng
namespace Go.Eng
open Go Go.RowKit
section
variable {C : Ctx} {S : St} {m : Mem} {a : Act} {w : World}
theorem Rel.upd (h : Rel C S m a w) {w' : World} {m' : Mem} {L' : Nat → Option Box} (bl : List Nat) (hk : Keep w.heap.size bl w w') (hs : Sub m' w') (hm : m.le m') (hn : NewOnly m m' w w')
  (hL : ∀ id, (L' id).map (·.b) = (S.L id).map (·.b)) (hown : ∀ id x, L' id = some x → (S.L id = some x ∧ x.b ∉ bl) ∨ Own m' w' x) (hbl : ∀ b ∈ bl, ∃ id x, S.L id = some x ∧ x.b = b) :
  Rel C { S with L := L' } m' a w' := by
 have hb : ∀ k, k < w.heap.size → k ∉ bl → w'.heap[k]? = w.heap[k]? := fun k h1 h2 => hk.block k h1 h2
 have hfree : ∀ b, b < w.heap.size → ∀ o, m b o = none → m' b o = none := fun b hlt o ho => by
  cases he : m' b o with
  | none => rfl
  | some v =>
   rcases hn _ _ _ he with he | he
   ·rw [ho] at he; cases he
   ·have := he.1; omega
 have old : ∀ id x', L' id = some x' → ∃ x, S.L id = some x ∧ x.b = x'.b := fun id x' hx => by
  have := hL id
  rw [hx] at this
  cases hS : S.L id with
  | none => simp [hS] at this
  | some x => simp [hS] at this; exact ⟨x, rfl, this.symm⟩
 refine ⟨?_, h.size, ?_, ?_, ?_, ?_, ?_, h.tkeys, h.tapart, hs, mLt h.le hm, ?_, h.fo⟩
 ·obtain ⟨ms, h1, h2, h3⟩ := h.defers
  refine ⟨ms, h1, h2, fun D hD => ?_⟩
  rw [hb D (Array.getElem?_eq_some_iff.1 (h3 D hD)).1]
  ·exact h3 D hD
  ·intro hmem
   obtain ⟨id, x, hx, rfl⟩ := hbl D hmem
   obtain ⟨sp, fr, hc, _⟩ := (h.own id x hx).cells
   rw [h3 _ hD] at hc; cases hc
 ·intro i sv he
  obtain ⟨v, h1, h2⟩ := h.env i sv he
  refine ⟨v, ?_, h2⟩
  cases sv with
  | v u => exact h1
  | loc id off =>
   simp only [St.den] at h1 ⊢
   have := hL id
   cases hS : S.L id with
   | none => simp [hS] at h1
   | some x =>
    simp only [hS] at h1 this
    cases hl : L' id with
    | none => simp [hl] at this
    | some x' => simp [hl] at this; simp [this] at h1 ⊢; exact h1
  | sl id n c =>
   simp only [St.den] at h1 ⊢
   have := hL id
   cases hS : S.L id with
   | none => simp [hS] at h1
   | some x =>
    simp only [hS] at h1 this
    cases hl : L' id with
    | none => simp [hl] at this
    | some x' => simp [hl] at this; simp [this] at h1 ⊢; exact h1
 ·intro id x' hx
  obtain ⟨x, hx0, hxb⟩ := old id x' hx
  rcases hown id x' hx with ⟨h1, h2⟩ | h1
  ·have ho := (h.own id x' h1)
   exact ho.same (hb _ ho.lt h2) hm (fun hz o => hfree _ ho.lt o (ho.free hz o))
  ·exact h1
 ·intro id id' x x' hx hx' he
  obtain ⟨y, hy, hyb⟩ := old id x hx
  obtain ⟨y', hy', hyb'⟩ := old id' x' hx'
  exact h.apart id id' y y' hy hy' (by rw [hyb, hyb', he])
 ·intro id x hx
  obtain ⟨y, hy, _⟩ := old id x hx
  exact h.ids id y hy
 ·intro k t ht
  obtain ⟨ho, hB⟩ := h.toks k t ht
  have hnb : ∀ b, t.blk = some b → b ∉ bl := fun b hbk hmem => by
   obtain ⟨id, x, hx, rfl⟩ := hbl b hmem
   exact (hB _ hbk).1 id x hx rfl
  refine ⟨ho.same (fun b hbk => hb _ (ho.lt hbk) (hnb b hbk)) (fun b o hbk => hfree _ (ho.lt hbk) o), fun b hbk => ⟨fun id x hx => ?_, (hB b hbk).2⟩⟩
  obtain ⟨y, hy, hyb⟩ := old id x hx
  rw [← hyb]; exact (hB b hbk).1 id y hy
 ·obtain ⟨M, hd⟩ := h.dom
  have h1 := hd.step (m' := m') (hk.upd (M := M) fun b hb => by obtain ⟨id, x, hx, rfl⟩ := hbl b hb; exact hd.own id x hx) (hn.grown hs _)
  exact ⟨_, h1.cut rfl (fun id x' hx => by obtain ⟨x, h2, h3⟩ := old id x' hx; exact ⟨id, x, h2, h3⟩) (fun k t b ht hb => ⟨k, t, ht, hb⟩) rfl (Mem.le_refl _)⟩
theorem Rel.newBox (h : Rel C S m a w) {d : Nat} (hd : S.L d = none) {x : Box} {m' : Mem} (sp : List Value) (hb : x.b = w.heap.size) (hcap : (x.cs ++ sp).length = x.cap) (hfull : x.full = true → x.cs.length = x.cap)
  (hm : (x.fz = false ∧ m' = m) ∨ (x.fz = true ∧ m' = m.add x.b x.cs)) :
  Rel C (S.newL d x) m' a (w.alloc (.cells (x.cs ++ sp).toArray x.T (0, 0))) := by
 have hfree : m.free x.b := fun o => by
  cases he : m x.b o with
  | none => rfl
  | some v => have := h.sub.lt he; omega
 have hcell : ∀ o v, x.cs[o]? = some v → (w.alloc (.cells (x.cs ++ sp).toArray x.T (0, 0))).cell? ⟨x.b, o, none⟩ = some v := fun o v hv => by
  have hl : o < x.cs.length := (List.getElem?_eq_some_iff.1 hv).1
  have hn := heap_alloc_new w (.cells (x.cs ++ sp).toArray x.T (0, 0))
  rw [hb]
  simp only [World.cell?, hn]
  simp [List.getElem?_append_left hl, hv]
 have hle : m.le m' := by
  rcases hm with ⟨_, rfl⟩ | ⟨_, rfl⟩
  ·exact Mem.le_refl _
  ·exact Mem.le_add hfree _
 have hsub0 : Sub m (w.alloc (.cells (x.cs ++ sp).toArray x.T (0, 0))) := h.sub.alloc _
 have hsub : Sub m' (w.alloc (.cells (x.cs ++ sp).toArray x.T (0, 0))) := by
  rcases hm with ⟨_, rfl⟩ | ⟨_, rfl⟩
  ·exact hsub0
  ·exact hsub0.add hcell
 have hnew : NewOnly m m' w (w.alloc (.cells (x.cs ++ sp).toArray x.T (0, 0))) := by
  rcases hm with ⟨_, rfl⟩ | ⟨_, rfl⟩
  ·exact NewM.refl _ _
  ·exact NewM.add _ _ ⟨Nat.le_of_eq hb.symm, by rw [hb]; exact Wr.new (wrObj0 _ _)⟩
 have h1 := h.world (w' := w.alloc (.cells (x.cs ++ sp).toArray x.T (0, 0))) (Keep.alloc (Nat.le_refl _) (wrObj0 _ _)) hsub hle hnew
 have hlt : ∀ id y, S.L id = some y → y.b < w.heap.size := fun id y hy => (h.own id y hy).lt
 refine ⟨h1.defers, h1.size, ?_, ?_, ?_, ?_, ?_, h1.tkeys, h1.tapart, h1.sub, h1.le, ?_, h1.fo⟩
 ·intro i sv he
  obtain ⟨v, h2, h3⟩ := h1.env i sv he
  refine ⟨v, ?_, h3⟩
  cases sv with
  | v u => exact h2
  | loc id off =>
   have hne : id ≠ d := fun e => by subst e; simp [St.den, hd] at h2
   simpa [St.den, St.newL, beq_ne hne] using h2
  | sl id n c =>
   have hne : id ≠ d := fun e => by subst e; simp [St.den, hd] at h2
   simpa [St.den, St.newL, beq_ne hne] using h2
 ·intro id y hy
  by_cases hid : id = d
  ·subst hid
   simp [St.newL] at hy
   subst hy
   refine ⟨⟨sp, (0, 0), ?_, hcap, .inl rfl⟩, fun hz => ?_, fun hz => ?_, hfull⟩
   ·rw [hb]; exact heap_alloc_new w _
   ·rcases hm with ⟨_, rfl⟩ | ⟨hz', _⟩
    ·exact hfree
    ·simp [hz] at hz'
   ·rcases hm with ⟨hz', _⟩ | ⟨_, rfl⟩
    ·simp [hz] at hz'
    ·intro j v hv; rw [Mem.add_same]; simpa using hv
  ·have : S.L id = some y := by simpa [St.newL, beq_ne hid] using hy
   exact h1.own id y this
 ·intro id id' y y' hy hy' he
  by_cases hid : id = d <;> by_cases hid' : id' = d
  ·rw [hid, hid']
  ·subst hid
   have e' : S.L id' = some y' := by simpa [St.newL, beq_ne hid'] using hy'
   simp [St.newL] at hy; subst hy
   have := hlt _ _ e'; omega
  ·subst hid'
   have e' : S.L id = some y := by simpa [St.newL, beq_ne hid] using hy
   simp [St.newL] at hy'; subst hy'
   have := hlt _ _ e'; omega
  ·exact h.apart id id' y y' (by simpa [St.newL, beq_ne hid] using hy) (by simpa [St.newL, beq_ne hid'] using hy') he
 ·intro id y hy
  by_cases hid : id = d
  ·subst hid; simp [St.newL]
  ·have : S.L id = some y := by simpa [St.newL, beq_ne hid] using hy
   simp [St.newL, h.ids id y this]
 ·intro k t ht
  obtain ⟨ho, hB⟩ := h1.toks k t ht
  refine ⟨ho, fun b hbk => ⟨fun id y hy => ?_, (hB b hbk).2⟩⟩
  by_cases hid : id = d
  ·subst hid
   simp [St.newL] at hy; subst hy
   have := ((h.toks k t ht).1).lt hbk
   omega
  ·exact (hB b hbk).1 id y (by simpa [St.newL, beq_ne hid] using hy)
 ·obtain ⟨M, hd'⟩ := h.dom
  have hk : Keep w.heap.size [] w (w.alloc (.cells (x.cs ++ sp).toArray x.T (0, 0))) := Keep.alloc (Nat.le_refl _) (wrObj0 _ _)
  have h2 := hd'.step (m' := m') (hk.upd (by simp)) (hnew.grown hsub _)
  refine ⟨_, h2.p, h2.lt, fun id y hy => ?_, h2.tok, h2.mks, h2.new⟩
  by_cases hid : id = d
  ·subst hid
   simp [St.newL] at hy; subst hy
   exact .inr ⟨by omega, by rw [hb]; exact (Array.getElem?_eq_some_iff.1 (heap_alloc_new w (.cells (x.cs ++ sp).toArray x.T (0, 0)))).1, by rw [hb]; exact Wr.new (wrObj0 _ _)⟩
  ·exact h2.own id y (by simpa [St.newL, beq_ne hid] using hy)
theorem Rel.store (h : Rel C S m a w) {id : Nat} {x x' : Box} {w' : World} (hx : S.L id = some x) (hz : x.fz = false) (hb : x'.b = x.b) (hos : w'.os = w.os) (htape : w'.tape = w.tape) (hout : w'.output = w.output) (hsize : w'.heap.size = w.heap.size)
  (hother : ∀ k, k ≠ x.b → w'.heap[k]? = w.heap[k]?) (hown : Own m w' x') : Rel C (S.setL id (some x')) m a w' := by
 have hfree := (h.own id x hx).free hz
 refine h.upd [x.b] ⟨hos, htape, hout, by omega, fun k _ hk => hother k (by simpa using hk), fun k _ hk => by
  by_cases hkb : k = x.b
  ·subst hkb; rw [← hb]; exact hown.wr
  ·exact hk.of_eq (hother k hkb)⟩ ?_ (Mem.le_refl m) (NewM.refl _ _) ?_ ?_ ?_
 ·refine h.sub.wr1 (h.own id x hx).isC hother (fun _ _ h => h) fun b o v hv => ?_
  have hne : b ≠ x.b := fun e => by subst e; rw [hfree o] at hv; cases hv
  rw [cell?_eq (hother b hne)]; exact h.sub b o v hv
 ·intro i
  by_cases hi : i = id
  ·subst hi; simp [hx, hb]
  ·simp [beq_ne hi]
 ·intro i y hy
  by_cases hi : i = id
  ·subst hi; simp at hy; subst hy; exact .inr hown
  ·simp [beq_ne hi] at hy
   refine .inl ⟨hy, ?_⟩
   simp only [List.mem_singleton]
   exact fun e => hi (h.apart i id y x hy hx e)
 ·intro b hb'
  simp only [List.mem_singleton] at hb'
  exact ⟨id, x, hx, hb'.symm⟩
end
def exN : Nat → (List Value → Prop) → Prop
 | 0, k => k []
 | n + 1, k => ∃ v, exN n fun l => k (v :: l)
theorem exN_elim : ∀ {n : Nat} {k : List Value → Prop}, exN n k → ∃ l, l.length = n ∧ k l
 | 0, k, h => ⟨[], rfl, h⟩
 | n + 1, k, h => by
  obtain ⟨v, h⟩ := h
  obtain ⟨l, hl, hk⟩ := exN_elim h
  exact ⟨v :: l, by simp [hl], hk⟩
theorem exN_intro : ∀ {n : Nat} {k : List Value → Prop} (l : List Value), l.length = n → k l → exN n k
 | 0, k, l, hl, h => by cases l <;> simp_all [exN]
 | n + 1, k, l, hl, h => by
  cases l with
  | nil => simp at hl
  | cons v l => exact ⟨v, exN_intro l (by simpa using hl) h⟩
def memLoad (i : TI) (m : Mem) (b o : Nat) (k : Value → Prop) : Prop :=
 bif i.agg then (bif Nat.ble i.size 16 then exN i.size fun vs => m.reads b o vs ∧ k (.agg vs.toArray) else ∃ vs : List Value, vs.length = i.size ∧ m.reads b o vs ∧ k (.agg vs.toArray))
 else ∃ v, m b o = some v ∧ k v
def boxLoad (i : TI) (x : Box) (off : Nat) (k : Value → Prop) : Prop :=
 bif i.agg then (bif x.full && (Nat.beq x.cap i.size && Nat.beq off 0) then k (.agg x.cs.toArray) else chk (Nat.ble (off + i.size) x.cs.length) (k (.agg ((x.cs.drop off).take i.size).toArray)))
 else look x.cs off k
def hintOf (E : Env) (x : Operand) : Option Nat := match x with
 | .tmp t => E.hint t
 | _ => none
def loadW (E : Env) (S : St) (m : Mem) (T : TypeId) (x : Operand) (k : Value → Prop) : Prop := match E.tt T with
 | none => False
 | some i => match S.ev x with
  | some (.loc id off) => match S.L id with
   | none => False
   | some bx => boxLoad i bx off k
  | some (.v v) => match hintOf E x with
   | none => chk (isPtr v) (memLoad i m (ptrB v) (ptrO v) k)
   | some id => match S.L id with
    | none => False
    | some bx => chk (isPtr v) (ptrB v = bx.b ∧ boxLoad i bx (ptrO v) k)
  | _ => False
theorem memLoad_sound {P : Program} {w : World} {m : Mem} {T : TypeId} {i : TI} (ht : TOk P T i) (hs : Sub m w) {b o : Nat} {k : Value → Prop} (h : memLoad i m b o k) : ∃ v, k v ∧ (loadVar T ⟨b, o, none⟩).run P w = .ok v w := by
 unfold memLoad at h
 cases ha : i.agg with
 | true =>
  simp only [ha, cond_true] at h
  have : ∃ vs : List Value, vs.length = i.size ∧ m.reads b o vs ∧ k (.agg vs.toArray) := by
   cases hc : Nat.ble i.size 16 with
   | true => simp only [hc, cond_true] at h; exact exN_elim h
   | false => simpa only [hc, cond_false] using h
  obtain ⟨vs, hl, hr, hk⟩ := this
  exact ⟨_, hk, run_loadVar_agg ht ha b o vs hl (fun j v hv => hs _ _ _ (hr j v hv))⟩
 | false =>
  simp only [ha, cond_false] at h
  obtain ⟨v, hv, hk⟩ := h
  exact ⟨v, hk, run_loadVar_one ht ha _ v (hs _ _ _ hv)⟩
theorem boxLoad_sound {P : Program} {w : World} {m : Mem} {T : TypeId} {i : TI} (ht : TOk P T i) {x : Box} (hx : Own m w x) {off : Nat} {k : Value → Prop} (h : boxLoad i x off k) : ∃ v, k v ∧ (loadVar T ⟨x.b, off, none⟩).run P w = .ok v w := by
 unfold boxLoad at h
 cases ha : i.agg with
 | true =>
  simp only [ha, cond_true] at h
  cases hc : (x.full && (Nat.beq x.cap i.size && Nat.beq off 0)) with
  | true =>
   simp only [hc, cond_true] at h
   simp only [Bool.and_eq_true] at hc
   have h0 : off = 0 := Nat.eq_of_beq_eq_true hc.2.2
   subst h0
   have hl := hx.whole hc.1
   have hcap := Nat.eq_of_beq_eq_true hc.2.1
   exact ⟨_, h, run_loadVar_agg ht ha x.b 0 x.cs (by omega) (fun j v hv => by rw [Nat.zero_add]; exact hx.cell hv)⟩
  | false =>
   simp only [hc, cond_false] at h
   obtain ⟨h1, h2⟩ := chk_elim h
   simp only [Nat.ble_eq] at h1
   refine ⟨_, h2, run_loadVar_agg ht ha x.b off _ (by simp; omega) (fun j v hv => ?_)⟩
   rw [List.getElem?_take] at hv
   split at hv
   ·rw [List.getElem?_drop] at hv; exact hx.cell hv
   ·cases hv
 | false =>
  simp only [ha, cond_false] at h
  obtain ⟨v, hv, hk⟩ := look_elim h
  exact ⟨v, hk, run_loadVar_one ht ha _ v (hx.cell hv)⟩
theorem loadW_sound {E : Env} (hE : E.ok) {C : Ctx} {S : St} {m : Mem} {a : Act} {w : World} (hr : Rel C S m a w) {T : TypeId} {x : Operand} {k : Value → Prop} (h : loadW E S m T x k) :
  ∃ v, k v ∧ (Instr.loadAt T (a.eval x)).run E.P w = .ok v w := by
 unfold loadW at h
 cases ht : E.tt T with
 | none => simp [ht] at h
 | some i =>
  simp only [ht] at h
  have hok := hE T i ht
  cases he : S.ev x with
  | none => simp [he] at h
  | some sv =>
   obtain ⟨v, h1, h2, h3⟩ := hr.ev_val he
   cases sv with
   | v u =>
    simp only [he] at h
    simp only [St.den, Option.some.injEq] at h1
    subst h1
    cases hh : hintOf E x with
    | none =>
     simp only [hh] at h
     obtain ⟨h4, h5⟩ := chk_elim h
     obtain ⟨r, hk, hrun⟩ := memLoad_sound hok hr.sub h5
     refine ⟨r, hk, ?_⟩
     rw [h3, isPtr_elim h4]
     simp [Instr.loadAt, Instr.sureAddr, ptr, hrun]
    | some id =>
     simp only [hh] at h
     cases hb : S.L id with
     | none => simp [hb] at h
     | some bx =>
      simp only [hb] at h
      obtain ⟨h4, h5, h6⟩ := chk_elim h
      obtain ⟨r, hk, hrun⟩ := boxLoad_sound hok (hr.own id bx hb) h6
      refine ⟨r, hk, ?_⟩
      rw [h3, isPtr_elim h4, h5]
      simp [Instr.loadAt, Instr.sureAddr, ptr, hrun]
   | loc id off =>
    simp only [he] at h
    simp only [St.den] at h1
    cases hb : S.L id with
    | none => simp [hb] at h1
    | some bx =>
     simp only [hb, Option.some.injEq] at h1 h
     obtain ⟨r, hk, hrun⟩ := boxLoad_sound hok (hr.own id bx hb) h
     refine ⟨r, hk, ?_⟩
     rw [h3, ← h1]
     simp [Instr.loadAt, Instr.sureAddr, hrun]
   | sl id n c => simp [he] at h
def storeW (E : Env) (S : St) (T : TypeId) (x : Operand) (v : Value) (k : St → Prop) : Prop := match E.tt T with
 | none => False
 | some i => match S.ev x with
  | some (.loc id off) => match S.L id with
   | none => False
   | some bx => chk (!bx.fz && (Nat.beq v.cells.size i.size && onesL v.cells.toList)) (
     bif bx.full && (Nat.beq bx.cap i.size && Nat.beq off 0) then k (S.setL id (some { bx with cs := v.cells.toList }))
     else chk (Nat.ble (off + i.size) bx.cs.length) (k (S.setL id (some { bx with cs := splice bx.cs off v.cells.toList }))))
  | some (.v u) => match hintOf E x with
   | none => False
   | some id => match S.L id with
    | none => False
    | some bx => chk (isPtr u && (!bx.fz && (Nat.beq v.cells.size i.size && onesL v.cells.toList))) (
      ptrB u = bx.b ∧ ptrO u + i.size ≤ bx.cs.length ∧ k (S.setL id (some { bx with cs := splice bx.cs (ptrO u) v.cells.toList })))
  | _ => False
theorem storeW_sound {E : Env} (hE : E.ok) {C : Ctx} {S : St} {m : Mem} {a : Act} {w : World} (hr : Rel C S m a w) {T : TypeId} {x : Operand} {v : Value} {k : St → Prop} (h : storeW E S T x v k) :
  ∃ S' w', k S' ∧ Rel C S' m a w' ∧ (Instr.storeAt T (a.eval x) v).run E.P w = .ok () w' := by
 unfold storeW at h
 cases ht : E.tt T with
 | none => simp [ht] at h
 | some i =>
  simp only [ht] at h
  have hok := hE T i ht
  cases he : S.ev x with
  | none => simp [he] at h
  | some sv =>
   obtain ⟨va, h1, h2, h3⟩ := hr.ev_val he
   cases sv with
   | v u =>
    simp only [he] at h
    cases hh : hintOf E x with
    | none => simp [hh] at h
    | some id =>
     simp only [hh] at h
     cases hb : S.L id with
     | none => simp [hb] at h
     | some bx =>
      simp only [hb] at h
      obtain ⟨h4, h5, h6, h7⟩ := chk_elim h
      simp only [Bool.and_eq_true, Bool.not_eq_true'] at h4
      simp only [St.den, Option.some.injEq] at h1
      subst h1
      obtain ⟨w', hrun, e1, e2, e3, e4, e5, e6⟩ := run_storeVar_at (P := E.P) hok (hr.own id bx hb) (ptrO u) v (Nat.eq_of_beq_eq_true h4.2.2.1) (onesL_all h4.2.2.2) h6
      refine ⟨_, w', h7, hr.store hb h4.2.1 rfl e1 e2 e3 e4 e5 (e6 h4.2.1), ?_⟩
      rw [h3, isPtr_elim h4.1, h5]
      simp [Instr.storeAt, Instr.sureAddr, ptr, hrun]
   | loc id off =>
    simp only [he] at h
    simp only [St.den] at h1
    cases hb : S.L id with
    | none => simp [hb] at h1
    | some bx =>
     simp only [hb, Option.some.injEq] at h1 h
     obtain ⟨h4, h5⟩ := chk_elim h
     simp only [Bool.and_eq_true, Bool.not_eq_true'] at h4
     have hsz := Nat.eq_of_beq_eq_true h4.2.1
     have hox := (hr.own id bx hb)
     have key : ∃ cs', off + i.size ≤ bx.cs.length ∧ cs' = splice bx.cs off v.cells.toList ∧ k (S.setL id (some { bx with cs := cs' })) := by
      cases hc : (bx.full && (Nat.beq bx.cap i.size && Nat.beq off 0)) with
      | true =>
       simp only [hc, cond_true] at h5
       simp only [Bool.and_eq_true] at hc
       have h0 : off = 0 := Nat.eq_of_beq_eq_true hc.2.2
       have hl := hox.whole hc.1
       have hcap := Nat.eq_of_beq_eq_true hc.2.1
       refine ⟨_, by omega, ?_, h5⟩
       rw [h0, splice_whole (by simp; omega)]
      | false =>
       simp only [hc, cond_false] at h5
       obtain ⟨h6, h7⟩ := chk_elim h5
       simp only [Nat.ble_eq] at h6
       exact ⟨_, h6, rfl, h7⟩
     obtain ⟨cs', hle, hcs, hk⟩ := key
     obtain ⟨w', hrun, e1, e2, e3, e4, e5, e6⟩ := run_storeVar_at (P := E.P) hok hox off v hsz (onesL_all h4.2.2) hle
     refine ⟨_, w', hk, hr.store hb h4.1 rfl e1 e2 e3 e4 e5 (by rw [hcs]; exact e6 h4.1), ?_⟩
     rw [h3, ← h1]
     simp [Instr.storeAt, Instr.sureAddr, hrun]
   | sl id n c => simp [he] at h
end Go.Eng
namespace Go.Eng
open Go Go.RowKit
def Enters (P : Program) (g : FuncId) : Prop := ∀ args w, (callFunc g args).run P w = .ok (.enter g args) w
theorem enters_of {P : Program} {g : FuncId} {fn : Func} (h : P.funcs[g]? = some fn) (hn : (fn.name == "runtime.NumGoroutine") = false) (hb : fn.body.isNone = false) : Enters P g := fun args w => by
 have h1 : ¬ ((fn.name == "runtime.NumGoroutine") = true) := by rw [hn]; simp
 have h2 : ¬ (fn.body.isNone = true) := by rw [hb]; simp
 simp only [callFunc, Sem.run_bind, run_program, Result.andThen_ok, h, if_neg h1, if_neg h2]; rfl
def CX (P : Program) (g : FuncId) (args : Array Value) (m : Mem) (X : List Box) (R : Value → Mem → List (List Value) → Prop) : Prop :=
 Enters P g ∧ ∀ w, Sub m w → (∀ x ∈ X, Own m w x ∧ x.fz = false) → (X.map (·.b)).Nodup → Calls P g args w fun e w' => ∃ v m' css, e = .returned v ∧ m.le m' ∧ Sub m' w' ∧ NewOnly m m' w w' ∧
  Keep w.heap.size (X.map (·.b)) w w' ∧ css.length = X.length ∧ (∀ (i : Nat) (x : Box) (cs : List Value), X[i]? = some x → css[i]? = some cs → Own m' w' { x with cs := cs }) ∧ R v m' css
def CXT (P : Program) (g : FuncId) (args : Array Value) (m : Mem) (esz : Nat) (R : Value → Mem → List (List Value) → Prop) : Prop :=
 Enters P g ∧ ∀ w, Sub m w → Calls P g args w fun e w' => ∃ v m', e = .returned v ∧ m.le m' ∧ Sub m' w' ∧ NewOnly m m' w w' ∧
  Keep w.heap.size [] w w' ∧ TokOk m' w' ⟨v, esz⟩ ∧ (∀ b, (Tok.mk v esz).blk = some b → w.heap.size ≤ b) ∧ R v m' []
theorem CX.mono {P : Program} {g : FuncId} {args : Array Value} {m : Mem} {X : List Box} {R R' : Value → Mem → List (List Value) → Prop} (h : CX P g args m X R) (k : ∀ v m' css, m.le m' → R v m' css → R' v m' css) : CX P g args m X R' :=
 ⟨h.1, fun w h1 h2 h3 => (h.2 w h1 h2 h3).mono fun _ _ ⟨v, m', css, a1, a2, a3, a4, a5, a6, a7, a8⟩ => ⟨v, m', css, a1, a2, a3, a4, a5, a6, a7, k _ _ _ a2 a8⟩⟩
def boxesOf (S : St) : List Nat → Option (List Box)
 | [] => some []
 | id :: l => match S.L id with
  | none => none
  | some x => match boxesOf S l with
   | none => none
   | some xs => some (x :: xs)
def natsNodup : List Nat → Bool
 | [] => true
 | a :: l => !(l.any (Nat.beq a ·)) && natsNodup l
def allL : Nat → (List (List Value) → Prop) → Prop
 | 0, k => k []
 | n + 1, k => ∀ cs, allL n fun l => k (cs :: l)
theorem allL_elim : ∀ {n : Nat} {k : List (List Value) → Prop}, allL n k → ∀ l, l.length = n → k l
 | 0, k, h, l, hl => by cases l <;> simp_all [allL]
 | n + 1, k, h, l, hl => by
  cases l with
  | nil => simp at hl
  | cons c l => exact allL_elim (h c) l (by simpa using hl)
def setLs (S : St) : List Nat → List Box → List (List Value) → St
 | id :: ids, x :: xs, cs :: css => (setLs S ids xs css).setL id (some { x with cs := cs })
 | _, _, _ => S
def fixOk (f : Option (List Value → Mem → Value → Mem → List (List Value) → Prop)) (args : List Value) (m : Mem) (R : Value → Mem → List (List Value) → Prop) : Prop := match f with
 | none => True
 | some f => R = f args m
def callW (E : Env) (S : St) (m : Mem) (rt : TypeId) (g : FuncId) (args : List Value) (ids : List Nat) (K : Value → St → Mem → Prop) : Prop :=
 match boxesOf S ids with
 | none => False
 | some bxs => chk (bxs.all (fun x => !x.fz) && natsNodup ids) (∃ R, fixOk E.fix args m R ∧ CX E.P g args.toArray m bxs R ∧ (∀ v m' css, R v m' css → (E.sh rt).fits v = true) ∧
   (E.sh rt).all fun v => ∀ m', m.le m' → allL ids.length fun css => R v m' css → K v (setLs S ids bxs css) m')
theorem natsNodup_spec : ∀ {l : List Nat}, natsNodup l = true → l.Nodup
 | [], _ => List.nodup_nil
 | a :: l, h => by
  simp only [natsNodup, Bool.and_eq_true, Bool.not_eq_true'] at h
  refine List.nodup_cons.2 ⟨fun hm => ?_, natsNodup_spec h.2⟩
  have : l.any (Nat.beq a ·) = true := List.any_eq_true.2 ⟨a, hm, Nat.beq_refl a⟩
  rw [this] at h; simp at h
theorem boxesOf_spec {S : St} : ∀ {ids : List Nat} {bxs : List Box}, boxesOf S ids = some bxs → bxs.length = ids.length ∧ ∀ (i : Nat) (x : Box), bxs[i]? = some x → ∃ id : Nat, ids[i]? = some id ∧ S.L id = some x
 | [], bxs, h => by simp [boxesOf] at h; subst h; simp
 | id :: l, bxs, h => by
  simp only [boxesOf] at h
  cases hx : S.L id with
  | none => simp [hx] at h
  | some x =>
   simp only [hx] at h
   cases hb : boxesOf S l with
   | none => simp [hb] at h
   | some xs =>
    simp only [hb, Option.some.injEq] at h
    subst h
    obtain ⟨h1, h2⟩ := boxesOf_spec hb
    refine ⟨by simp [h1], fun i y hy => ?_⟩
    cases i with
    | zero => simp at hy; subst hy; exact ⟨id, by simp, hx⟩
    | succ i => simpa using h2 i y (by simpa using hy)
theorem boxes_nodup {S : St} (hap : ∀ id id' x x', S.L id = some x → S.L id' = some x' → x.b = x'.b → id = id') : ∀ {ids : List Nat} {bxs : List Box}, boxesOf S ids = some bxs → ids.Nodup → (bxs.map (·.b)).Nodup
 | [], bxs, h, _ => by simp [boxesOf] at h; subst h; simp
 | id :: l, bxs, h, hn => by
  simp only [boxesOf] at h
  cases hx : S.L id with
  | none => simp [hx] at h
  | some x =>
   simp only [hx] at h
   cases hb : boxesOf S l with
   | none => simp [hb] at h
   | some xs =>
    simp only [hb, Option.some.injEq] at h
    subst h
    obtain ⟨h1, h2⟩ := List.nodup_cons.1 hn
    rw [List.map_cons, List.nodup_cons]
    refine ⟨fun hm => ?_, boxes_nodup hap hb h2⟩
    obtain ⟨y, hy, hyb⟩ := List.mem_map.1 hm
    obtain ⟨i, hi⟩ := List.getElem?_of_mem hy
    obtain ⟨id', g1, g2⟩ := (boxesOf_spec hb).2 i y hi
    have := hap _ _ _ _ g2 hx hyb
    subst this
    exact h1 (List.mem_of_getElem? g1)
theorem setLs_eq (S : St) : ∀ (ids : List Nat) (bxs : List Box) (css : List (List Value)), setLs S ids bxs css = { S with L := (setLs S ids bxs css).L }
 | [], _, _ => by simp [setLs]
 | id :: ids, [], _ => by simp [setLs]
 | id :: ids, x :: xs, [] => by simp [setLs]
 | id :: ids, x :: xs, cs :: css => by
  have := setLs_eq S ids xs css
  simp only [setLs, St.setL]
  rw [this]
theorem setLs_L {S : St} : ∀ {ids : List Nat} {bxs : List Box} {css : List (List Value)}, ids.Nodup → bxs.length = ids.length → css.length = ids.length → ∀ id,
  (id ∉ ids ∧ (setLs S ids bxs css).L id = S.L id) ∨ ∃ (i : Nat) (x : Box) (cs : List Value), ids[i]? = some id ∧ bxs[i]? = some x ∧ css[i]? = some cs ∧ (setLs S ids bxs css).L id = some { x with cs := cs }
 | [], bxs, css, _, h1, h2, id => .inl ⟨by simp, by simp [setLs]⟩
 | d :: ids, [], css, _, h1, h2, id => by simp at h1
 | d :: ids, x :: xs, [], _, h1, h2, id => by simp at h2
 | d :: ids, x :: xs, cs :: css, hn, h1, h2, id => by
  obtain ⟨hn1, hn2⟩ := List.nodup_cons.1 hn
  by_cases hid : id = d
  ·subst hid
   exact .inr ⟨0, x, cs, by simp, by simp, by simp, by simp [setLs, St.setL]⟩
  ·rcases setLs_L (S := S) hn2 (by simpa using h1) (by simpa using h2) id with ⟨h3, h4⟩ | ⟨i, y, c, h3, h4, h5, h6⟩
   ·exact .inl ⟨by simp [hid, h3], by simp [setLs, St.setL, beq_ne hid, h4]⟩
   ·exact .inr ⟨i + 1, y, c, by simpa using h3, by simpa using h4, by simpa using h5, by simp [setLs, St.setL, beq_ne hid, h6]⟩
section
variable {C : Ctx} {S : St} {m : Mem} {a : Act} {w : World}
theorem callW_sound {E : Env} {rt : TypeId} {g : FuncId} {args : List Value} {ids : List Nat} {K : Value → St → Mem → Prop} (hr : Rel C S m a w) (h : callW E S m rt g args ids K) :
  Enters E.P g ∧ Calls E.P g args.toArray w fun e w' => ∃ v S' m', e = .returned v ∧ K v S' m' ∧ Rel C S' m' a w' := by
 unfold callW at h
 cases hb : boxesOf S ids with
 | none => simp [hb] at h
 | some bxs =>
  simp only [hb] at h
  obtain ⟨h1, R, _, hcx, hfit, hall⟩ := chk_elim h
  simp only [Bool.and_eq_true, List.all_eq_true] at h1
  obtain ⟨hlen, hmem⟩ := boxesOf_spec hb
  have hnd := natsNodup_spec h1.2
  have hown : ∀ x ∈ bxs, Own m w x ∧ x.fz = false := fun x hx => by
   obtain ⟨i, hi⟩ := List.getElem?_of_mem hx
   obtain ⟨id, _, hL⟩ := hmem i x hi
   exact ⟨(hr.own id x hL), by simpa using h1.1 x hx⟩
  have hndb : (bxs.map (·.b)).Nodup := boxes_nodup hr.apart hb hnd
  refine ⟨hcx.1, (hcx.2 w hr.sub hown hndb).mono ?_⟩
  rintro e w' ⟨v, m', css, rfl, hle, hsub, hnew, hkeep, hcl, hcs, hR⟩
  have hk := allL_elim (Shape.all_fits _ _ hall v (hfit _ _ _ hR) m' hle) css (by omega) hR
  refine ⟨v, _, m', rfl, hk, ?_⟩
  rw [setLs_eq]
  refine hr.upd (bxs.map (·.b)) hkeep hsub hle hnew ?_ ?_ ?_
  ·intro id
   rcases setLs_L (S := S) hnd hlen (by omega : css.length = ids.length) id with ⟨_, h4⟩ | ⟨i, x, cs, h3, h4, h5, h6⟩
   ·rw [h4]
   ·obtain ⟨id', g1, g2⟩ := hmem i x h4
    rw [h3] at g1; cases g1
    rw [h6, g2]; rfl
  ·intro id y hy
   rcases setLs_L (S := S) hnd hlen (by omega : css.length = ids.length) id with ⟨h3, h4⟩ | ⟨i, x, cs, h3, h4, h5, h6⟩
   ·rw [h4] at hy
    refine .inl ⟨hy, fun hm => ?_⟩
    obtain ⟨z, hz, hzb⟩ := List.mem_map.1 hm
    obtain ⟨i, hi⟩ := List.getElem?_of_mem hz
    obtain ⟨id', g1, g2⟩ := hmem i z hi
    have := hr.apart _ _ _ _ g2 hy hzb
    subst this
    exact h3 (List.mem_of_getElem? g1)
   ·rw [h6] at hy; cases hy
    exact .inr (hcs i x cs h4 h5)
  ·intro b hb'
   obtain ⟨z, hz, rfl⟩ := List.mem_map.1 hb'
   obtain ⟨i, hi⟩ := List.getElem?_of_mem hz
   obtain ⟨id', _, g2⟩ := hmem i z hi
   exact ⟨id', z, g2, rfl⟩
end
def FOk (F : Fence) : Prop := F = Fence.wide ∨ ∃ l, F = Fence.wide.inRound l
theorem FOk.fn {F : Fence} (h : FOk F) (f : FuncId) : F.fn f := by
 rcases h with rfl | ⟨l, rfl⟩ <;> trivial
theorem FOk.depth {F : Fence} (h : FOk F) : F.depth = none := by
 rcases h with rfl | ⟨l, rfl⟩ <;> rfl
theorem FOk.calls {F : Fence} (h : FOk F) {n : Nat} {P : Program} {f : FuncId} {args : Array Value} {w : World} {R : Ending → World → Prop} (hc : Calls P f args w R) : CallsIn F n P f args w R := by
 rcases h with rfl | ⟨l, rfl⟩
 ·exact callsIn_wide.2 hc
 ·exact CallsIn.inRound l (callsIn_wide.2 hc)
def Lasts (p : Int → (Nat → Prop) → World → Prop) : Prop := ∀ g M M' w w', p g M w → Upd M w w' → (∀ k, M' k → grow M w w' k) → p g M' w'
structure Frn (m : Mem) (M : Nat → Prop) (w w' : World) : Prop where
 size : w.heap.size ≤ w'.heap.size
 block : ∀ k, k < w.heap.size → M k → w'.heap[k]? = w.heap[k]?
 sub : Sub m w'
def YieldOk (P : Program) (m : Mem) (p : Int → (Nat → Prop) → World → Prop) (Y : Nat → Int → List Value → Prop) : Prop :=
 ∀ (F : Fence) (n : Nat) (l : Nat) (g : Int) (v : List Value) (M : Nat → Prop) (w : World), FOk F → (∀ k, M k → k < w.heap.size) → Y l g v → p g M w → Sub m w →
  YieldAt F n P l v.toArray w fun e w' => ∃ b, e = .returned (.bool b) ∧ p (if b then g + 1 else -1) M w' ∧ Frn m M w w'
def YieldOkY (P : Program) (m : Mem) (p : Int → (Nat → Prop) → World → Prop) (Y : Nat → Int → List Value → Mem → Prop) : Prop :=
 ∀ (F : Fence) (n : Nat) (l : Nat) (g : Int) (v : List Value) (M : Nat → Prop) (w : World) (mi : Mem), FOk F → (∀ k, M k → k < w.heap.size) → Y l g v mi → m.le mi → NewM m mi M → p g M w → Sub mi w →
  YieldAt F n P l v.toArray w fun e w' => e = .returned (.bool true) ∧ p (g + 1) M w' ∧ Frn m M w w'
structure YOk (E : Env) (C : Ctx) : Prop where
 y : ∀ Y, E.yl = some Y → YieldOk E.P C.me C.p Y
 yY : ∀ Y, E.ylY = some Y → YieldOkY E.P C.me C.p Y
 m0 : ∀ mm, E.m0 = some mm → C.m0 = mm ∧ ∀ g M w, C.p g M w → ∀ k, M k → Wr w k
def CY (P : Program) (g : FuncId) (args : List Value) (m : Mem) (l : Nat) (xs : List (List Value)) (go stop : Value → Prop) : Prop :=
 Enters P g ∧ ∀ (p : Int → (Nat → Prop) → World → Prop), Lasts p → ∀ (w : World), Sub m w → p 0 (fun _ => False) w →
  YieldOk P m p (fun l' g v => l' = l ∧ 0 ≤ g ∧ xs[g.toNat]? = some v) →
  Calls P g args.toArray w fun e w' => ∃ v M, e = .returned v ∧ (∀ k, M k → k < w'.heap.size) ∧ ((go v ∧ p xs.length M w') ∨ (stop v ∧ p (-1) M w'))
def effOf (E : Env) (d : Option Tmp) : Bool := match d with
 | none => E.effN
 | some d => E.eff d
def effW (E : Env) (rt : TypeId) (g : FuncId) (args : List Value) (K : Value → Int → Prop) (S : St) (m : Mem) : Prop := match E.yl with
 | none => False
 | some Y => ∃ (l : Nat) (xs : List (List Value)) (go stop : Value → Prop), CY E.P g args m l xs go stop ∧ (∀ (j : Nat) (v : List Value), xs[j]? = some v → Y l (S.gh + (j : Int)) v) ∧
  (∀ v, go v ∨ stop v → (E.sh rt).fits v = true) ∧ (E.sh rt).all fun v => (go v → K v (S.gh + (xs.length : Int))) ∧ (stop v → K v (-1))
theorem YOk.none {E : Env} {C : Ctx} (h : E.yl = none) (hY : E.ylY = none) (h0 : ∀ mm, E.m0 = some mm → C.m0 = mm ∧ ∀ g M w, C.p g M w → ∀ k, M k → Wr w k) : YOk E C :=
 ⟨fun Y hY => (by rw [h] at hY; simp at hY), fun Y hy => (by rw [hY] at hy; simp at hy), h0⟩
theorem Rel.yielded {C : Ctx} {S : St} {m : Mem} {a : Act} {w w' : World} {g : Int} (h : Rel C S m a w) {M : Nat → Prop} (hd : Dom C S m a w M) (hp : C.p g M w') (hf : Frn C.me M w w') : Rel C { S with gh := g } m a w' := by
 have hown : ∀ id x, S.L id = some x → w'.heap[x.b]? = w.heap[x.b]? := fun id x hx => hf.block _ (h.own id x hx).lt (hd.own id x hx)
 refine ⟨?_, h.size, fun i sv he => ?_, fun id x hx => (h.own id x hx).same (hown id x hx) (Mem.le_refl m) (h.own id x hx).free, h.apart, h.ids, fun k t ht => ?_, h.tkeys, h.tapart, ⟨fun b o v hv => ?_, fun b e he => ?_⟩, h.le, ⟨M, hp, fun k hk => Nat.lt_of_lt_of_le (hd.lt k hk) hf.size, hd.own, hd.tok, hd.mks, hd.new⟩, h.fo⟩
 ·obtain ⟨ms, h1, h2, h3⟩ := h.defers
  refine ⟨ms, h1, h2, fun D hD => ?_⟩
  rw [hf.block D (Array.getElem?_eq_some_iff.1 (h3 D hD)).1 (hd.mks D (by rw [h1]; exact List.mem_map.2 ⟨D, hD, rfl⟩))]; exact h3 D hD
 ·obtain ⟨v, h1, h2⟩ := h.env i sv he
  exact ⟨v, by cases sv <;> exact h1, h2⟩
 ·obtain ⟨h1, h2⟩ := h.toks k t ht
  exact ⟨h1.same (fun b hb => hf.block b (h1.lt hb) (hd.tok k t b ht hb)) (fun _ _ _ hn => hn), h2⟩
 ·rcases hd.new b o v hv with h1 | h1
  ·exact hf.sub b o v h1
  ·rw [cell?_eq (hf.block b (h.sub.lt hv) h1)]; exact h.sub b o v hv
 ·rcases hd.new.k b e he with h1 | h1
  ·exact hf.sub.k b e h1
  ·exact (h.sub.k b e he).same (hf.block b (h.sub.k b e he).lt h1)
def locIds (S : St) : List Operand → List Nat
 | [] => []
 | x :: l => match S.ev x with
  | some (.loc id _) => bif (locIds S l).any (Nat.beq id ·) || (match S.L id with
   | some x => x.fz
   | none => false) then locIds S l else id :: locIds S l
  | _ => locIds S l
def borrowOf (E : Env) (d : Option Tmp) : List Nat := match d with
 | some d => E.borrow d
 | none => []
def frzM (S : St) : List Nat → Mem → Mem
 | [], m => m
 | id :: l, m => match S.L id with
  | none => frzM S l m
  | some x => bif x.fz then frzM S l m else (frzM S l m).add x.b x.cs
def frzS (S : St) : List Nat → St
 | [] => S
 | id :: l => match (frzS S l).L id with
  | none => frzS S l
  | some x => (frzS S l).setL id (some { x with fz := true })
def frzMS (S : St) : List Nat → Mem → Mem
 | [], m => m
 | id :: l, m => match (frzS S l).L id with
  | none => frzMS S l m
  | some x => bif x.fz then frzMS S l m else (frzMS S l m).add x.b x.cs
theorem Rel.frz1 {C : Ctx} {S : St} {m : Mem} {a : Act} {w : World} (h : Rel C S m a w) {id : Nat} {x : Box} (hx : S.L id = some x) (hz : x.fz = false) : Rel C (S.setL id (some { x with fz := true })) (m.add x.b x.cs) a w := by
 have ho := h.own id x hx
 have hle : m.le (m.add x.b x.cs) := Mem.le_add (ho.free hz) _
 have hL : ∀ i y, (S.setL id (some { x with fz := true })).L i = some y → (i = id ∧ y = { x with fz := true }) ∨ (i ≠ id ∧ S.L i = some y) := fun i y hy => by
  by_cases hi : i = id
  ·subst hi; simp [St.setL] at hy; exact .inl ⟨rfl, hy.symm⟩
  ·exact .inr ⟨hi, by simpa [St.setL, beq_ne hi] using hy⟩
 have hold : ∀ i y, (S.setL id (some { x with fz := true })).L i = some y → ∃ z, S.L i = some z ∧ z.b = y.b := fun i y hy => by
  rcases hL i y hy with ⟨rfl, rfl⟩ | ⟨_, h⟩
  ·exact ⟨x, hx, rfl⟩
  ·exact ⟨y, h, rfl⟩
 refine ⟨h.defers, h.size, fun i sv he => ?_, fun i y hy => ?_, fun i i' y y' hy hy' e => ?_, fun i y hy => ?_, fun k t ht => ?_, h.tkeys, h.tapart, h.sub.add fun o v hv => ho.cell hv, mLt h.le hle, ?_, h.fo⟩
 ·obtain ⟨v, h1, h2⟩ := h.env i sv he
  refine ⟨v, ?_, h2⟩
  cases sv with
  | v u => exact h1
  | loc i off =>
   by_cases hi : i = id
   ·subst hi; simp only [St.den, hx] at h1; simpa [St.den, St.setL] using h1
   ·simpa [St.den, St.setL, beq_ne hi] using h1
  | sl i n c =>
   by_cases hi : i = id
   ·subst hi; simp only [St.den, hx] at h1; simpa [St.den, St.setL] using h1
   ·simpa [St.den, St.setL, beq_ne hi] using h1
 ·rcases hL i y hy with ⟨rfl, rfl⟩ | ⟨hi, hy⟩
  ·exact ⟨ho.cells, fun hf => by simp at hf, fun _ j v hv => by rw [Mem.add_same]; simpa using hv, ho.whole⟩
  ·have h1 := h.own i y hy
   refine h1.same rfl hle fun hf o => ?_
   rw [Mem.add_other _ (fun e => hi (h.apart _ _ _ _ hy hx e))]; exact h1.free hf o
 ·obtain ⟨z, h1, h2⟩ := hold i y hy
  obtain ⟨z', h3, h4⟩ := hold i' y' hy'
  exact h.apart _ _ _ _ h1 h3 (by rw [h2, h4, e])
 ·obtain ⟨z, h1, h2⟩ := hold i y hy
  exact h.ids i z h1
 ·obtain ⟨h1, h2⟩ := h.toks k t ht
  refine ⟨h1.same (fun _ _ => rfl) (fun b o hb hn => ?_), fun b hb => ⟨fun i y hy => ?_, (h2 b hb).2⟩⟩
  ·rw [Mem.add_other _ (fun e => (h2 b hb).1 id x hx e.symm)]; exact hn
  ·obtain ⟨z, h3, h4⟩ := hold i y hy
   rw [← h4]; exact (h2 b hb).1 i z h3
 ·obtain ⟨M, hd⟩ := h.dom
  refine ⟨M, hd.p, hd.lt, fun i y hy => ?_, hd.tok, hd.mks, hd.new.add' _ (hd.own id x hx)⟩
  ·obtain ⟨z, h1, h2⟩ := hold i y hy
   rw [← h2]; exact hd.own i z h1
theorem Rel.frzS {C : Ctx} {S : St} {m : Mem} {a : Act} {w : World} (h : Rel C S m a w) : ∀ l : List Nat, Rel C (frzS S l) (frzMS S l m) a w ∧ m.le (frzMS S l m) ∧ (Go.Eng.frzS S l).env = S.env
 | [] => ⟨h, Mem.le_refl m, rfl⟩
 | id :: l => by
  obtain ⟨h1, h2, h3⟩ := Rel.frzS h l
  simp only [Go.Eng.frzS, frzMS]
  cases hx : (Go.Eng.frzS S l).L id with
  | none => exact ⟨h1, h2, h3⟩
  | some x =>
   simp only
   cases hz : x.fz with
   | true =>
    simp only [cond_true]
    refine ⟨?_, h2, h3⟩
    have e : ({ x with fz := true } : Box) = x := by cases x; simp at hz; subst hz; rfl
    have : (Go.Eng.frzS S l).setL id (some { x with fz := true }) = Go.Eng.frzS S l := by
     rw [e]
     unfold St.setL
     have : (fun i => bif Nat.beq i id then some x else (Go.Eng.frzS S l).L i) = (Go.Eng.frzS S l).L := by
      funext i
      by_cases hi : i = id
      ·subst hi; simp [hx]
      ·simp [beq_ne hi]
     rw [this]
    rw [this]; exact h1
   | false =>
    simp only [cond_false]
    exact ⟨h1.frz1 hx hz, mLt h2 (Mem.le_add ((h1.own id x hx).free hz) _), h3⟩
def frzNewOf (E : Env) (d : Option Tmp) : Bool := match d with
 | some d => E.frzNew.any (Nat.beq d ·)
 | none => false
def frzAtOf (E : Env) (d : Option Tmp) : List Nat := match d with
 | some d => E.frzAt d
 | none => []
theorem frzS_L (S : St) : ∀ (l : List Nat) (id : Nat) (x : Box), S.L id = some x → ∃ z, (frzS S l).L id = some { x with fz := z } ∧ (id ∈ l → z = true)
 | [], id, x, h => ⟨x.fz, h, by simp⟩
 | i :: l, id, x, h => by
  obtain ⟨z, h1, h2⟩ := frzS_L S l id x h
  simp only [frzS]
  by_cases hi : id = i
  ·subst hi
   rw [h1]
   exact ⟨true, by simp [St.setL], fun _ => rfl⟩
  ·cases hx : (frzS S l).L i with
   | none => exact ⟨z, h1, fun hm => h2 (by simpa [hi] using hm)⟩
   | some y => exact ⟨z, by simpa [St.setL, beq_ne hi] using h1, fun hm => h2 (by simpa [hi] using hm)⟩
def readsL (S : St) (m : Mem) (p : Prop) : List Nat → Prop
 | [] => p
 | id :: l => match S.L id with
  | none => readsL S m p l
  | some x => m.reads x.b 0 x.cs → readsL S m p l
theorem readsL_elim {S : St} {m : Mem} {p : Prop} : ∀ {l : List Nat}, (∀ id ∈ l, ∀ x, S.L id = some x → m.reads x.b 0 x.cs) → readsL S m p l → p
 | [], _, h => h
 | id :: l, hr, h => by
  simp only [readsL] at h
  cases hx : S.L id with
  | none => simp only [hx] at h; exact readsL_elim (fun i hi => hr i (by simp [hi])) h
  | some x => simp only [hx] at h; exact readsL_elim (fun i hi => hr i (by simp [hi])) (h (hr id (by simp) x hx))
theorem readsL_mono {S : St} {m : Mem} {p q : Prop} (hpq : p → q) : ∀ {l : List Nat}, readsL S m p l → readsL S m q l
 | [], h => hpq h
 | id :: l, h => by
  simp only [readsL] at h ⊢
  cases hx : S.L id with
  | none => simp only [hx] at h ⊢; exact readsL_mono hpq h
  | some x => simp only [hx] at h ⊢; exact fun hr => readsL_mono hpq (h hr)
def frzW (E : Env) (d : Option Tmp) (S : St) (m : Mem) (K : St → Mem → Prop) : Prop := match frzAtOf E d with
 | [] => K S m
 | ids => bif E.fix.isSome then False else ∀ m' : Mem, m.le m' → readsL S m' (K (frzS S ids) m') ids
theorem frzS_env (S : St) : ∀ l : List Nat, (frzS S l).env = S.env
 | [] => rfl
 | i :: l => by
  simp only [frzS]
  cases hx : (frzS S l).L i with
  | none => exact frzS_env S l
  | some y => exact frzS_env S l
theorem frzW_sound {E : Env} {d : Option Tmp} {C : Ctx} {S : St} {m : Mem} {a : Act} {w : World} {K : St → Mem → Prop} (hr : Rel C S m a w) (h : frzW E d S m K) : ∃ S2 m2, Rel C S2 m2 a w ∧ K S2 m2 := by
 unfold frzW at h
 split at h
 ·exact ⟨S, m, hr, h⟩
 ·rename_i ids _
  cases hfx : E.fix with
  | some f => simp [hfx] at h
  | none =>
   simp only [hfx, Option.isSome_none, cond_false] at h
   obtain ⟨h1, h2, h3⟩ := hr.frzS (frzAtOf E d)
   refine ⟨_, _, h1, readsL_elim (fun id hi x hx => ?_) (h _ h2)⟩
   obtain ⟨z, g1, g2⟩ := frzS_L S (frzAtOf E d) id x hx
   exact (h1.own id _ g1).known (g2 hi)
theorem frzW_mono {E : Env} {d : Option Tmp} {S : St} {m : Mem} {K K' : St → Mem → Prop} (h : ∀ S' m', S'.env = S.env → m.le m' → K S' m' → K' S' m') (hx : frzW E d S m K) : frzW E d S m K' := by
 unfold frzW at *
 split at hx
 ·exact h _ _ rfl (Mem.le_refl m) hx
 ·cases hfx : E.fix with
  | some f => simp [hfx] at hx
  | none =>
   simp only [hfx, Option.isSome_none, cond_false] at hx ⊢
   exact fun m' hm => readsL_mono (h _ _ (frzS_env S _) hm) (hx m' hm)
def onlyW (th kf : Bool) (m m' : Mem) (b : Nat) (p : Prop) : Prop := match th with
 | true => m.free b → (∀ (b' o : Nat) (u : Value), m' b' o = some u → m b' o = some u ∨ b' = b) → (match kf with
  | true => m.k b = none → p
  | false => p)
 | false => p
theorem onlyW_elim {th kf : Bool} {m m' : Mem} {b : Nat} {p : Prop} (h : onlyW th kf m m' b p) (hf : m.free b) (hn : ∀ (b' o : Nat) (u : Value), m' b' o = some u → m b' o = some u ∨ b' = b) (hk : m.k b = none) : p := by
 cases th with
 | true => cases kf with
  | true => exact h hf hn hk
  | false => exact h hf hn
 | false => exact h
theorem onlyW_mono {th kf : Bool} {m m' : Mem} {b : Nat} {p q : Prop} (k : p → q) (h : onlyW th kf m m' b p) : onlyW th kf m m' b q := by
 cases th with
 | true => cases kf with
  | true => exact fun h1 h2 h3 => k (h h1 h2 h3)
  | false => exact fun h1 h2 => k (h h1 h2)
 | false => exact k h
def boxFW (E : Env) (S : St) (m : Mem) (T : TypeId) (v : Value) (d : Option Tmp) (K : St → Mem → Prop) : Prop := match d with
 | none => False
 | some d => match E.tt T with
  | none => False
  | some i => match S.L d with
   | some _ => False
   | none => chk (Nat.beq v.cells.size i.size) (∀ (b : Nat) (m' : Mem), m.le m' → m'.reads b 0 v.cells.toList → onlyW E.thaw E.kF m m' b (K ((S.newL d { b := b, cs := v.cells.toList, T := T, cap := i.size, fz := true, full := true }).put (some d) (some (.loc d 0))) m'))
def fixA (f : Option (List Value → Mem → Value → Mem → List (List Value) → Prop)) (args : List Value) (m : Mem) (R : Value → Mem → List (List Value) → Prop) (p : Prop) : Prop := match f with
 | none => p
 | some f => R = f args m ∧ p
theorem fixA_elim {f : Option (List Value → Mem → Value → Mem → List (List Value) → Prop)} {args : List Value} {m : Mem} {R : Value → Mem → List (List Value) → Prop} {p : Prop} (h : fixA f args m R p) : p := by
 cases f with
 | none => exact h
 | some f => exact h.2
theorem fixA_mono {f : Option (List Value → Mem → Value → Mem → List (List Value) → Prop)} {args : List Value} {m : Mem} {R : Value → Mem → List (List Value) → Prop} {p q : Prop} (k : p → q) (h : fixA f args m R p) : fixA f args m R q := by
 cases f with
 | none => exact k h
 | some f => exact ⟨h.1, k h.2⟩
def callTW (E : Env) (S : St) (m : Mem) (rt : TypeId) (g : FuncId) (args : List Value) (key esz : Nat) (K : Value → St → Mem → Prop) : Prop :=
 ∃ R, fixA E.fix args m R (CXT E.P g args.toArray m esz R ∧ (∀ v m' css, R v m' css → (E.sh rt).fits v = true) ∧
  (E.sh rt).all fun v => ∀ m', m.le m' → R v m' [] → K v { S with tok := fun k => bif Nat.beq k key then some ⟨v, esz⟩ else S.tok k, tkeys := key :: S.tkeys } m')
noncomputable def Mem.off (m : Mem) (Y : Nat → Prop) : Mem := ⟨fun b o => open Classical in if Y b then none else m b o, fun b => open Classical in if Y b then none else m.k b⟩
theorem Mem.off_le (m : Mem) (Y : Nat → Prop) : (m.off Y).le m := ⟨fun b o v h => by
 unfold Mem.off at h; dsimp only at h; split at h
 ·cases h
 ·exact h, fun b e h => by
 unfold Mem.off at h; dsimp only at h; split at h
 ·cases h
 ·exact h⟩
theorem Mem.off_free {m : Mem} {Y : Nat → Prop} {b : Nat} (h : Y b) : (m.off Y).free b := fun o => by unfold Mem.off; dsimp only; rw [if_pos h]
theorem Mem.off_at {m : Mem} {Y : Nat → Prop} {b : Nat} (h : ¬ Y b) (o : Nat) : m.off Y b o = m b o := by unfold Mem.off; dsimp only; rw [if_neg h]
theorem Mem.off_kn {m : Mem} {Y : Nat → Prop} {b : Nat} (h : Y b) : (m.off Y).k b = none := by unfold Mem.off; dsimp only; rw [if_pos h]
theorem Mem.off_k {m : Mem} {Y : Nat → Prop} {b : Nat} (h : ¬ Y b) : (m.off Y).k b = m.k b := by unfold Mem.off; dsimp only; rw [if_neg h]
def tokPw (ts : List Tok) : Prop := ∀ (i j : Nat) (t t' : Tok) (b : Nat), ts[i]? = some t → ts[j]? = some t' → t.blk = some b → t'.blk = some b → i = j
def CXY (P : Program) (g : FuncId) (args : Array Value) (m : Mem) (Y : Nat → Prop) (X : List Box) (ts : List Tok) (R : Value → Mem → List (List Value) → List Value → Prop) : Prop :=
 Enters P g ∧ ∀ w, Sub m w → (∀ x ∈ X, Own m w x ∧ x.fz = false ∧ ¬ Y x.b) → (X.map (·.b)).Nodup → (∀ t ∈ ts, TokOk m w t ∧ ∀ b, t.blk = some b → Y b) → tokPw ts → (∀ b, Y b → b < w.heap.size ∧ Wr w b) →
  Calls P g args w fun e w' => ∃ v m' css tvs, e = .returned v ∧ (m.off Y).le m' ∧ Sub m' w' ∧ NewM m m' (fun b => Y b ∨ (w.heap.size ≤ b ∧ Wr w' b)) ∧ Upd (fun k => k ∈ X.map (·.b) ∨ Y k) w w' ∧
   css.length = X.length ∧ (∀ (i : Nat) (x : Box) (cs : List Value), X[i]? = some x → css[i]? = some cs → Own m' w' { x with cs := cs }) ∧
   tvs.length = ts.length ∧ (∀ (i : Nat) (t : Tok) (tv : Value), ts[i]? = some t → tvs[i]? = some tv → isSl tv = true ∧ TokOk m' w' ⟨tv, t.esz⟩ ∧ ∀ b, (Tok.mk tv t.esz).blk = some b → (Y b ∨ w.heap.size ≤ b) ∧ b ∉ X.map (·.b)) ∧
   tokPw ((ts.zip tvs).map fun q => ⟨q.2, q.1.esz⟩) ∧ R v m' css tvs
def tokAt (S : St) (k z : Nat) : Tok := match S.tok k with
 | none => ⟨.slice none 0 0, z⟩
 | some t => t
def toksAt (S : St) : List (Nat × Nat) → List Tok
 | [] => []
 | q :: l => tokAt S q.1 q.2 :: toksAt S l
theorem toksAt_spec {S : St} : ∀ {ks : List (Nat × Nat)}, (toksAt S ks).length = ks.length ∧ ∀ (i : Nat) (t : Tok), (toksAt S ks)[i]? = some t → ∃ k : Nat, (ks.map (·.1))[i]? = some k ∧ (S.tok k = some t ∨ t.v = .slice none 0 0)
 | [] => ⟨rfl, fun i t h => by simp [toksAt] at h⟩
 | q :: l => by
  obtain ⟨h1, h2⟩ := toksAt_spec (S := S) (ks := l)
  refine ⟨by simp [toksAt, h1], fun i t h => ?_⟩
  cases i with
  | zero =>
   simp only [toksAt, List.getElem?_cons_zero, Option.some.injEq] at h
   refine ⟨q.1, rfl, ?_⟩
   subst h
   unfold tokAt
   cases hx : S.tok q.1 with
   | none => exact .inr rfl
   | some t => exact .inl rfl
  | succ i => simpa using h2 i t (by simpa [toksAt] using h)
def nfz (S : St) (b : Nat) : List Nat → Prop → Prop
 | [], k => k
 | id :: l, k => match S.L id with
  | none => nfz S b l k
  | some x => bif x.fz then (x.b ≠ b ∧ nfz S b l k) else nfz S b l k
theorem nfz_spec {S : St} {b : Nat} : ∀ {l : List Nat} {k : Prop}, nfz S b l k → k ∧ ∀ id x, id ∈ l → S.L id = some x → x.fz = true → x.b ≠ b
 | [], k, h => ⟨h, fun _ _ h => by cases h⟩
 | i :: l, k, h => by
  unfold nfz at h
  cases hL : S.L i with
  | none =>
   simp only [hL] at h
   obtain ⟨h1, h2⟩ := nfz_spec h
   refine ⟨h1, fun id x hm hx hz => ?_⟩
   rcases List.mem_cons.1 hm with rfl | hm
   ·rw [hL] at hx; cases hx
   ·exact h2 id x hm hx hz
  | some y =>
   simp only [hL] at h
   cases hz : y.fz with
   | true =>
    simp only [hz, cond_true] at h
    obtain ⟨h1, h2⟩ := nfz_spec h.2
    refine ⟨h1, fun id x hm hx hz' => ?_⟩
    rcases List.mem_cons.1 hm with rfl | hm
    ·rw [hL] at hx; cases hx; exact h.1
    ·exact h2 id x hm hx hz'
   | false =>
    simp only [hz, cond_false] at h
    obtain ⟨h1, h2⟩ := nfz_spec h
    refine ⟨h1, fun id x hm hx hz' => ?_⟩
    rcases List.mem_cons.1 hm with rfl | hm
    ·rw [hL] at hx; cases hx; rw [hz] at hz'; cases hz'
    ·exact h2 id x hm hx hz'
theorem nfz_mono {S : St} {b : Nat} : ∀ {l : List Nat} {k k' : Prop}, (k → k') → nfz S b l k → nfz S b l k'
 | [], k, k', h, hx => h hx
 | i :: l, k, k', h, hx => by
  unfold nfz at *
  cases hL : S.L i with
  | none => simp only [hL] at hx ⊢; exact nfz_mono h hx
  | some y =>
   simp only [hL] at hx ⊢
   cases hz : y.fz with
   | true => simp only [hz, cond_true] at hx ⊢; exact ⟨hx.1, nfz_mono h hx.2⟩
   | false => simp only [hz, cond_false] at hx ⊢; exact nfz_mono h hx
def ntk (S : St) (b : Nat) (ks : List Nat) : List Nat → Prop
 | [] => True
 | k :: l => bif ks.any (Nat.beq k ·) then ntk S b ks l else match S.tok k with
  | none => ntk S b ks l
  | some t => t.blk ≠ some b ∧ ntk S b ks l
theorem ntk_spec {S : St} {b : Nat} {ks : List Nat} : ∀ {l : List Nat}, ntk S b ks l → ∀ k t, k ∈ l → S.tok k = some t → k ∉ ks → t.blk ≠ some b
 | [], _, _, _, h, _, _ => by cases h
 | i :: l, h, k, t, hm, ht, hn => by
  unfold ntk at h
  cases hb : ks.any (Nat.beq i ·) with
  | true =>
   simp only [hb, cond_true] at h
   rcases List.mem_cons.1 hm with rfl | hm
   ·obtain ⟨x, h1, h2⟩ := List.any_eq_true.1 hb
    exact absurd (Nat.eq_of_beq_eq_true h2 ▸ h1) hn
   ·exact ntk_spec h k t hm ht hn
  | false =>
   simp only [hb, cond_false] at h
   cases hi : S.tok i with
   | none =>
    simp only [hi] at h
    rcases List.mem_cons.1 hm with rfl | hm
    ·rw [hi] at ht; cases ht
    ·exact ntk_spec h k t hm ht hn
   | some t' =>
    simp only [hi] at h
    rcases List.mem_cons.1 hm with rfl | hm
    ·rw [hi] at ht; cases ht; exact h.1
    ·exact ntk_spec h.2 k t hm ht hn
def allSl : Nat → (List Value → Prop) → Prop
 | 0, k => k []
 | n + 1, k => ∀ (a : Option Addr) (c d : Nat), allSl n fun l => k (.slice a c d :: l)
theorem allSl_elim : ∀ {n : Nat} {k : List Value → Prop}, allSl n k → ∀ l, l.length = n → (∀ v ∈ l, isSl v = true) → k l
 | 0, k, h, l, hl, _ => by cases l <;> simp_all [allSl]
 | n + 1, k, h, l, hl, hs => by
  cases l with
  | nil => simp at hl
  | cons c l =>
   obtain ⟨a, n', c', rfl⟩ : ∃ a n c', c = .slice a n c' := ⟨_, _, _, isSl_elim (hs c (by simp))⟩
   exact allSl_elim (h a n' c') l (by simpa using hl) (fun v hv => hs v (by simp [hv]))
theorem allSl_mono : ∀ {n : Nat} {k k' : List Value → Prop}, (∀ l, k l → k' l) → allSl n k → allSl n k'
 | 0, _, _, h, hx => h _ hx
 | n + 1, _, _, h, hx => fun a c d => allSl_mono (fun l => h _) (hx a c d)
def setTk (tok : Nat → Option Tok) : List Nat → List Tok → List Value → (Nat → Option Tok)
 | k :: ks, t :: ts, v :: vs => fun i => bif Nat.beq i k then some ⟨v, t.esz⟩ else setTk tok ks ts vs i
 | _, _, _ => tok
theorem setTk_spec {tok : Nat → Option Tok} : ∀ {ks : List Nat} {ts : List Tok} {vs : List Value}, ks.Nodup → ts.length = ks.length → vs.length = ks.length → ∀ i,
  (i ∉ ks ∧ setTk tok ks ts vs i = tok i) ∨ ∃ (q : Nat) (t : Tok) (v : Value), ks[q]? = some i ∧ ts[q]? = some t ∧ vs[q]? = some v ∧ setTk tok ks ts vs i = some ⟨v, t.esz⟩
 | [], ts, vs, _, _, _, i => .inl ⟨by simp, by simp [setTk]⟩
 | k :: ks, [], vs, _, h, _, i => by simp at h
 | k :: ks, t :: ts, [], _, _, h, i => by simp at h
 | k :: ks, t :: ts, v :: vs, hn, h1, h2, i => by
  obtain ⟨hn1, hn2⟩ := List.nodup_cons.1 hn
  by_cases hi : i = k
  ·subst hi
   exact .inr ⟨0, t, v, by simp, by simp, by simp, by simp [setTk]⟩
  ·rcases setTk_spec (tok := tok) hn2 (by simpa using h1) (by simpa using h2) i with ⟨h3, h4⟩ | ⟨q, t', v', h3, h4, h5, h6⟩
   ·exact .inl ⟨by simp [hi, h3], by simp [setTk, beq_ne hi, h4]⟩
   ·exact .inr ⟨q + 1, t', v', by simpa using h3, by simpa using h4, by simpa using h5, by simp [setTk, beq_ne hi, h6]⟩
def callYW (E : Env) (S : St) (m : Mem) (rt : TypeId) (g : FuncId) (args : List Value) (ids : List Nat) (ks : List (Nat × Nat)) (K : Value → St → Mem → Prop) : Prop :=
 match boxesOf S ids with
 | none => False
 | some bxs => match E.m0 with
   | none => False
   | some m0 => chk (!S.fo && (bxs.all (fun x => !x.fz) && (natsNodup ids && natsNodup (ks.map (·.1))))) (∃ (Y : Nat → Prop) (R : Value → Mem → List (List Value) → List Value → Prop), CXY E.P g args.toArray m Y bxs (toksAt S ks) R ∧ (∀ t ∈ toksAt S ks, ∀ b, t.blk = some b → Y b) ∧
     (∀ b, Y b → (∃ t ∈ toksAt S ks, t.blk = some b) ∨ ((Mem.free m0 b ∧ m0.k b = none) ∧ ((∃ o v, m b o = some v) ∨ ∃ e, m.k b = some e) ∧ nfz S b S.ids (ntk S b (ks.map (·.1)) S.tkeys))) ∧ (∀ v m' css tvs, R v m' css tvs → (E.sh rt).fits v = true) ∧
     (E.sh rt).all fun v => ∀ m', (m.off Y).le m' → NewM m m' (fun b => Y b ∨ m.free b) → allL ids.length fun css => allSl ks.length fun tvs => R v m' css tvs → K v { setLs S ids bxs css with tok := setTk S.tok (ks.map (·.1)) (toksAt S ks) tvs, tkeys := ks.map (·.1) ++ S.tkeys } m')
def callYOf (E : Env) (d : Option Tmp) : Option (List (Nat × Nat)) := bif E.thaw then (match d with
 | some d => E.lentC d
 | none => none) else none
def ldFOf (E : Env) (d : Option Tmp) : Option LdK := match d with
 | none => none
 | some d => E.ldF d
def ldW (y : LdK) (v : Value) (k : Value → Prop) : Prop := match y with
 | .yield => ∃ l : Nat, v = .func (.yield l) #[] #[] ∧ k (.func (.yield l) #[] #[])
 | .fn => ∃ (g : Nat) (fi ca : List Value), v = .func (.func g) fi.toArray ca.toArray ∧ k (.func (.func g) fi.toArray ca.toArray)
 | .bool => ∃ b : Bool, v = .bool b ∧ k (.bool b)
 | .int ki => ∃ n : Int, v = .int ki n ∧ k (.int ki n)
 | .slice => ∃ (a : Option Addr) (n c : Nat), v = .slice a n c ∧ k (.slice a n c)
theorem ldW_elim {y : LdK} {v : Value} {k : Value → Prop} (h : ldW y v k) : k v := by
 cases y
 ·obtain ⟨b, rfl, h⟩ := h; exact h
 ·obtain ⟨l, rfl, h⟩ := h; exact h
 ·obtain ⟨g, fi, ca, rfl, h⟩ := h; exact h
 ·obtain ⟨n, rfl, h⟩ := h; exact h
 ·obtain ⟨a, n, c, rfl, h⟩ := h; exact h
theorem ldW_mono {y : LdK} {v : Value} {k k' : Value → Prop} (h : ∀ v, k v → k' v) (hx : ldW y v k) : ldW y v k' := by
 cases y
 ·obtain ⟨b, e, hx⟩ := hx; exact ⟨b, e, h _ hx⟩
 ·obtain ⟨l, e, hx⟩ := hx; exact ⟨l, e, h _ hx⟩
 ·obtain ⟨g, fi, ca, e, hx⟩ := hx; exact ⟨g, fi, ca, e, h _ hx⟩
 ·obtain ⟨n, e, hx⟩ := hx; exact ⟨n, e, h _ hx⟩
 ·obtain ⟨a, n, c, e, hx⟩ := hx; exact ⟨a, n, c, e, h _ hx⟩
theorem ldW_intro {y : LdK} {v : Value} {k : Value → Prop} (h : ldW y v fun _ => True) (hk : k v) : ldW y v k := by
 cases y
 ·obtain ⟨b, rfl, _⟩ := h; exact ⟨b, rfl, hk⟩
 ·obtain ⟨l, rfl, _⟩ := h; exact ⟨l, rfl, hk⟩
 ·obtain ⟨g, fi, ca, rfl, _⟩ := h; exact ⟨g, fi, ca, rfl, hk⟩
 ·obtain ⟨n, rfl, _⟩ := h; exact ⟨n, rfl, hk⟩
 ·obtain ⟨a, n, c, rfl, _⟩ := h; exact ⟨a, n, c, rfl, hk⟩
def tokCOf (E : Env) (d : Option Tmp) : Option (Nat × Nat) := match d with
 | none => none
 | some d => E.tokC d
def extOf (E : Env) (d : Option Tmp) : Bool := match d with
 | none => false
 | some d => E.ext d || E.exv d
def exvOf (E : Env) (d : Option Tmp) : Bool := match d with
 | none => false
 | some d => E.exv d
def PureF (P : Program) (g : FuncId) (args : List Value) (v : Value) : Prop := ∀ w : World, (callFunc g args.toArray).run P w = .ok (.value v) w
def MkBy (P : Program) (g : FuncId) (e : TypeId) : Prop := ∀ (n : Nat) (w : World), n ≤ 281474976710656 → ∃ cs : Array Value, (callFunc g #[.int .i64 n]).run P w = .ok (.value (.slice (some ⟨w.heap.size, 0, none⟩) n cs.size)) (w.drew.drew.alloc (.cells cs e)) ∧ n ≤ cs.size
def extW (E : Env) (S : St) (g : FuncId) (args : List Value) (d : Option Tmp) (K : St → SV → Prop) : Prop := bif exvOf E d then (∃ v, PureF E.P g args v ∧ K S (.v v)) else match d, args with
 | some d, [v] => (match S.L d with
  | some _ => False
  | none => ∃ (n : Nat) (e : TypeId), v = .int .i64 n ∧ n ≤ 281474976710656 ∧ MkBy E.P g e ∧ ∀ (b : Nat) (cs : List Value), n ≤ cs.length → K (S.newL d { b := b, cs := cs, T := e, cap := cs.length, fz := false, full := true }) (.sl d n cs.length))
 | _, _ => False
theorem extW_mono {E : Env} {S : St} {g : FuncId} {args : List Value} {d : Option Tmp} {K K' : St → SV → Prop} (h : ∀ S' sv, S'.env = S.env → K S' sv → K' S' sv) (hx : extW E S g args d K) : extW E S g args d K' := by
 unfold extW at *
 cases he : exvOf E d with
 | true =>
  simp only [he, cond_true] at hx ⊢
  obtain ⟨v, h1, h2⟩ := hx
  exact ⟨v, h1, h _ _ rfl h2⟩
 | false =>
 simp only [he, cond_false] at hx ⊢
 split at hx
 ·split at hx
  ·exact hx.elim
  ·obtain ⟨n, e, h1, h2, h3, h4⟩ := hx
   exact ⟨n, e, h1, h2, h3, fun b cs hc => h _ _ rfl (h4 b cs hc)⟩
 ·exact hx.elim
def callV (E : Env) (rt : TypeId) (d : Option Tmp) (f : Operand) (as : List Operand) (K : St → Mem → Prop) (S : St) (m : Mem) : Prop := match S.ev f with
 | some (.v (.func (.func g) first captured)) => bif extOf E d then (bif E.fix.isSome then False else wvs S as fun args => extW E S g (first.toList ++ args ++ captured.toList) d fun S' sv => K (S'.put d (some sv)) m) else match callYOf E d with
  | some ks => bif E.fix.isSome then False else wvs S as fun args => callYW E S m rt g (first.toList ++ args ++ captured.toList) (locIds S as ++ borrowOf E d) ks fun v S' m' => K (S'.put d (some (.v v))) m'
  | none => bif effOf E d then (bif E.fix.isSome then False else wvs S as fun args => effW E rt g (first.toList ++ args ++ captured.toList) (fun v gh => K (({ S with gh := gh } : St).put d (some (.v v))) m) S m) else match tokCOf E d with
  | none => wvs S as fun args => callW E S m rt g (first.toList ++ args ++ captured.toList) (locIds S as ++ borrowOf E d) fun v S' m' => K (S'.put d (some (.v v))) m'
  | some ke => match locIds S as ++ borrowOf E d with
   | [] => wvs S as fun args => callTW E S m rt g (first.toList ++ args ++ captured.toList) ke.1 ke.2 fun v S' m' => K (S'.put d (some (.v v))) m'
   | _ => False
 | some (.v (.func (.yield l) first captured)) => bif E.fix.isSome then False else match E.yl, first.toList, captured.toList with
  | some Y, [], [] => wvs S as fun args => Y l S.gh args ∧ (K (({ S with gh := S.gh + 1 } : St).put d (some (.v (.bool true)))) m ∧ K (({ S with gh := -1 } : St).put d (some (.v (.bool false)))) m)
  | none, [], [] => (match E.ylY with
   | none => False
   | some Y => wvs S as fun args => Y l S.gh args m ∧ K (({ S with gh := S.gh + 1 } : St).put d (some (.v (.bool true)))) m)
  | _, _, _ => False
 | _ => False
def allocW (E : Env) (S : St) (T : TypeId) (d : Option Tmp) (K : St → Prop) : Prop := match d with
 | none => False
 | some d => match E.tt T with
  | none => False
  | some i => match S.L d with
   | some _ => False
   | none => ∀ b, K ((S.newL d { b := b, cs := i.zero.cells.toList, T := T, cap := i.size, fz := false, full := true }).put (some d) (some (.loc d 0)))
def boxW (E : Env) (S : St) (T : TypeId) (v : Value) (d : Option Tmp) (K : St → Prop) : Prop := match d with
 | none => False
 | some d => match E.tt T with
  | none => False
  | some i => match S.L d with
   | some _ => False
   | none => chk (Nat.beq v.cells.size i.size) (∀ b, K ((S.newL d { b := b, cs := v.cells.toList, T := T, cap := i.size, fz := false, full := true }).put (some d) (some (.loc d 0))))
def sizesAre (n : Nat) : List Value → Bool
 | [] => true
 | v :: l => Nat.beq v.cells.size n && sizesAre n l
def catCells : List Value → List Value
 | [] => []
 | v :: l => v.cells.toList ++ catCells l
def idxFrom : Nat → List Nat → Bool
 | _, [] => true
 | n, i :: l => Nat.beq i n && idxFrom (n + 1) l
def buildSliceW (E : Env) (S : St) (m : Mem) (T : TypeId) (len : Nat) (parts : List (Nat × Operand)) (d : Option Tmp) (K : St → Mem → Prop) : Prop := match d with
 | none => False
 | some d => match E.tt T with
  | none => False
  | some t => match t.d with
   | .slice e => match E.tt e with
    | none => False
    | some i => match S.L d with
     | some _ => False
     | none => chk (idxFrom 0 (parts.map (·.1)) && (Nat.beq parts.length len && Nat.ble (len * i.size) 16777216)) (wvs S (parts.map (·.2)) fun vs =>
       chk (sizesAre i.size vs) (∀ b, m.free b → K ((S.newL d { b := b, cs := catCells vs, T := e, cap := len * i.size, fz := true, full := true }).put (some d) (some (.sl d len len))) (m.add b (catCells vs))))
   | _ => False
theorem fill_whole (n : Nat) : ∀ (vs : List Value) (k : Nat) (done rest : List Value), sizesAre n vs = true → done.length = k * n → rest.length = vs.length * n →
  Instr.fill (fun i => some (i * n, n)) (done ++ rest).toArray ((List.range' k vs.length).zip vs) = some (done ++ catCells vs).toArray
 | [], k, done, rest, _, _, hr => by
  have : rest = [] := by simpa using hr
  simp [Instr.fill, catCells, this]
 | v :: vs, k, done, rest, hs, hd, hr => by
  simp only [sizesAre, Bool.and_eq_true] at hs
  have hv : v.cells.size = n := Nat.eq_of_beq_eq_true hs.1
  simp only [List.length_cons] at hr
  have hm : (vs.length + 1) * n = vs.length * n + n := by rw [Nat.add_mul, Nat.one_mul]
  have hlen : (done ++ rest).length = k * n + (vs.length * n + n) := by simp [hd, hr, hm]
  have e := fold_set (k * n) v.cells.toList 0 (done ++ rest) (by simp only [hlen, Array.length_toList, hv]; omega)
  have e2 : v.cells.zipIdx.foldl (fun (cs : Array Value) (c, j) => cs.setIfInBounds (k * n + j) c) (done ++ rest).toArray = (done ++ v.cells.toList ++ rest.drop n).toArray := by
   rw [← Array.foldl_toList]
   simp only [Array.toList_zipIdx]
   rw [e]
   congr 1
   simp only [Nat.add_zero, Array.length_toList, hv]
   rw [← hd, List.take_left, List.drop_append, List.drop_eq_nil_of_le (by omega)]
   simp
  have hc : (decide (v.cells.size ≠ n) || decide (k * n + v.cells.size > (done ++ rest).toArray.size)) = false := by
   simp only [hv, ne_eq, not_true_eq_false, decide_false, Bool.false_or, decide_eq_false_iff_not, List.size_toArray, hlen]
   omega
  have ih := fill_whole n vs (k + 1) (done ++ v.cells.toList) (rest.drop n) hs.2 (by simp [hd, hv, Nat.add_mul]) (by simp [hr, hm])
  simp only [List.length_cons, List.range'_succ, List.zip_cons_cons, Instr.fill]
  rw [if_neg (by simp only [Bool.not_eq_true]; exact hc)]
  refine Eq.trans ?_ (Eq.trans ih ?_)
  ·rw [← e2]
  ·simp [catCells]
theorem idxFrom_spec : ∀ {l : List Nat} {n : Nat}, idxFrom n l = true → l = List.range' n l.length
 | [], n, _ => by simp
 | i :: l, n, h => by
  simp only [idxFrom, Bool.and_eq_true] at h
  have := Nat.eq_of_beq_eq_true h.1
  have ih := idxFrom_spec h.2
  rw [List.length_cons, List.range'_succ, ← ih, this]
theorem sizes_cat {n : Nat} : ∀ {vs : List Value}, sizesAre n vs = true → (catCells vs).length = vs.length * n
 | [], _ => by simp [catCells]
 | v :: vs, h => by
  simp only [sizesAre, Bool.and_eq_true] at h
  have hv : v.cells.size = n := Nat.eq_of_beq_eq_true h.1
  simp [catCells, sizes_cat h.2, hv, Nat.add_mul]; omega
end Go.Eng
namespace Go.Eng
open Go Go.RowKit
def rowRd (m : Mem) (a : Option Addr) (xs : List Value) : Prop := xs = [] ∨ ∃ b o, a = some ⟨b, o, none⟩ ∧ m.reads b o xs
theorem rowRd.mono {m m' : Mem} {a : Option Addr} {xs : List Value} (h : rowRd m a xs) (k : m.le m') : rowRd m' a xs := by
 rcases h with h | ⟨b, o, h1, h2⟩
 ·exact .inl h
 ·exact .inr ⟨b, o, h1, h2.mono k⟩
theorem run_firstCells_rd {P : Program} {w : World} {m : Mem} (hs : Sub m w) {a : Option Addr} {xs : List Value} (h : rowRd m a xs) (n len cap size : Nat) (hl : xs.length = n * size) :
  (Builtin.firstCells size n (.slice a len cap)).run P w = .ok xs.toArray w := by
 rcases h with rfl | ⟨b, o, rfl, h2⟩
 ·cases a with
  | none => simp [Builtin.firstCells]
  | some a => exact run_firstCells_some w size n a len cap [] hl (by simp)
 ·exact run_firstCells_some w size n _ len cap xs hl (fun j v hv => by rw [addr_add]; exact hs _ _ _ (h2 j v hv))
def Mem.addAt (m : Mem) (b o : Nat) (ys : List Value) : Mem := ⟨fun b' o' => if b' = b ∧ o ≤ o' then (match ys[o' - o]? with
 | some v => some v
 | none => m b' o') else m b' o', m.k⟩
theorem NewM.addAt {m0 m : Mem} {M : Nat → Prop} (h : NewM m0 m M) {b o : Nat} (ys : List Value) (hb : M b) : NewM m0 (m.addAt b o ys) M := ⟨fun b' o' v hv => by
  simp only [Mem.addAt] at hv
  split at hv
  ·rename_i hc; exact .inr (hc.1 ▸ hb)
  ·exact h.c _ _ _ hv, h.k⟩
def sliceElem (E : Env) (T : TypeId) : Option (TypeId × TI) := match E.tt T with
 | none => none
 | some i => match i.d with
  | .slice e => match E.tt e with
   | none => none
   | some j => some (e, j)
  | _ => none
theorem sliceElem_spec {E : Env} {T : TypeId} {e : TypeId} {j : TI} (h : sliceElem E T = some (e, j)) : ∃ i, E.tt T = some i ∧ i.d = .slice e ∧ E.tt e = some j := by
 unfold sliceElem at h
 cases ht : E.tt T with
 | none => simp [ht] at h
 | some i =>
  simp only [ht] at h
  cases hd : i.d with
  | slice e' =>
   simp only [hd] at h
   cases hj : E.tt e' with
   | none => simp [hj] at h
   | some j' => simp [hj] at h; obtain ⟨rfl, rfl⟩ := h; exact ⟨i, rfl, hd, hj⟩
  | _ => simp [hd] at h
section
variable {P : Program} {w : World}
theorem run_app_room {T xT ty e : TypeId} {i ix : TI} {j : TI} {e' : TypeId} (hi : TOk P T i) (hd : i.d = .slice e) (hx : TOk P xT ix) (hdx : ix.d = .slice e') (hj : TOk P e j) (base : Option Addr) (n c : Nat) (xa : Option Addr) (n2 c2 : Nat) (ys : List Value)
  (hy : (Builtin.firstCells j.size n2 (.slice xa n2 c2)).run P w = .ok ys.toArray w) (hroom : n + n2 ≤ c) {w' : World}
  (hst : (match base with
   | some a => storeCells (a.add (n * j.size)) ys
   | none => pure ()).run P w = .ok () w') :
  (Builtin.append_ #[T, xT] ty #[.slice base n c, .slice xa n2 c2]).run P w = .ok (.slice base (n + n2) c) w' := by
 have h1 := hi.run_und (w := w)
 have h2 := hx.run_und (w := w)
 have h3 := hj.run_size (w := w)
 rw [hd] at h1
 rw [hdx] at h2
 cases base with
 | none =>
  simp at hst; subst hst
  simp [Builtin.append_, h1, h2, h3, Builtin.lenOf, hroom, hy]
 | some a =>
  simp only at hst
  simp [Builtin.append_, h1, h2, h3, Builtin.lenOf, hroom, hy, hst]
theorem run_app_grow {T xT ty e : TypeId} {i ix : TI} {j : TI} {e' : TypeId} (hi : TOk P T i) (hd : i.d = .slice e) (hx : TOk P xT ix) (hdx : ix.d = .slice e') (hj : TOk P e j) (base : Option Addr) (n c : Nat) (xa : Option Addr) (n2 c2 : Nat) (xs ys : List Value)
  (hxs : (Builtin.firstCells j.size n (.slice base n c)).run P w.drew = .ok xs.toArray w.drew) (hy : (Builtin.firstCells j.size n2 (.slice xa n2 c2)).run P w.drew = .ok ys.toArray w.drew)
  (hgrow : c < n + n2) (h63 : ((n + n2 : Nat) : Int) ≤ 9223372036854775807) (hb : (n + n2) * j.bytes ≤ 140737488355328) :
  (Builtin.append_ #[T, xT] ty #[.slice base n c, .slice xa n2 c2]).run P w =
   .ok (.slice (some ⟨w.heap.size, 0, none⟩) (n + n2) (grownCap w (n + n2) c e)) (w.drew.alloc (.cells (xs ++ (ys ++ (Builtin.zeroCells j.zero.cells (grownCap w (n + n2) c e - (n + n2))).toList)).toArray e (0, 0))) := by
 have h1 := hi.run_und (w := w)
 have h2 := hx.run_und (w := w)
 have h3 := hj.run_size (w := w)
 have h4 := hj.run_zero (w := w.drew)
 obtain ⟨x, h5, _, _, h6⟩ := hj.run_info (w := w)
 rw [hd] at h1
 rw [hdx] at h2
 have hn : ¬ (n + n2 ≤ c) := by omega
 have h63' : ¬ (9223372036854775807 < ((n : Int) + (n2 : Int))) := by omega
 have h48' : ¬ (281474976710656 < Builtin.nextslicecap (n + n2) c * x.bytes) := by
  have := growslice_fits (need := n + n2) (old := c) (bytes := j.bytes) hgrow hb
  rw [h6]; omega
 obtain ⟨x', h5', _⟩ := hj.run_info (w := w.drew)
 simp [Builtin.append_, h1, h2, h3, Builtin.lenOf, hn, h63', h5, h5', h48', Question.forced, hxs, hy, h4, newRow, grownCap]
 congr 2
 exact Array.ext' (by simp)
end
def TokFact (m : Mem) (a a' : Option Addr) (n c : Nat) : Prop := n ≤ c ∧ (a' = none ∨ ∃ b o, a' = some ⟨b, o, none⟩ ∧ (a = a' ∨ (o = 0 ∧ m.free b ∧ m.k b = none)))
theorem TokFact.old {m : Mem} {a a' : Option Addr} {n c : Nat} (h : TokFact m a a' n c) (ha : ∀ b o, a = some ⟨b, o, none⟩ → o = 0) : n ≤ c ∧ (a' = none ∨ ∃ b, a' = some ⟨b, 0, none⟩ ∧ (a = a' ∨ m.free b)) := by
 refine ⟨h.1, h.2.imp_right ?_⟩
 rintro ⟨b, o, h1, h2 | ⟨rfl, h2, _⟩⟩
 ·obtain rfl := ha b o (h2.trans h1)
  exact ⟨b, h1, .inl h2⟩
 ·exact ⟨b, h1, .inr h2⟩
def tokNew (thaw cap : Bool) (m : Mem) (a a' : Option Addr) (n c : Nat) (k : Prop) : Prop := bif thaw then (TokFact m a a' n c → k) else bif cap then (n ≤ c → k) else k
theorem tokNew_elim {t p : Bool} {m : Mem} {a a' : Option Addr} {n c : Nat} {k : Prop} (h : tokNew t p m a a' n c k) (hf : TokFact m a a' n c) : k := by
 unfold tokNew at h
 cases t with
 | true => exact h hf
 | false => cases p with
  | true => exact h hf.1
  | false => exact h
theorem tokNew_mono {t p : Bool} {m : Mem} {a a' : Option Addr} {n c : Nat} {k k' : Prop} (h : k → k') (hx : tokNew t p m a a' n c k) : tokNew t p m a a' n c k' := by
 unfold tokNew at *
 cases t with
 | true => exact fun hf => h (hx hf)
 | false => cases p with
  | true => exact fun hf => h (hx hf)
  | false => exact h hx
theorem tokNew_of {t p : Bool} {m : Mem} {a a' : Option Addr} {n c : Nat} {k : Prop} (h : (t = true → TokFact m a a' n c) → (p = true → n ≤ c) → k) : tokNew t p m a a' n c k := by
 unfold tokNew
 cases t with
 | true => exact fun hf => h (fun _ => hf) (fun _ => hf.1)
 | false => cases p with
  | true => exact fun hf => h (fun e => by cases e) (fun _ => hf)
  | false => exact h (fun e => by cases e) (fun e => by cases e)
theorem tokNew_elim' {t p : Bool} {m : Mem} {a a' : Option Addr} {n c : Nat} {k : Prop} (h : tokNew t p m a a' n c k) (hf : t = true → TokFact m a a' n c) (hn : p = true → n ≤ c) : k := by
 unfold tokNew at h
 cases t with
 | true => exact h (hf rfl)
 | false => cases p with
  | true => exact h (hn rfl)
  | false => exact h
theorem TokFact.mono {m M : Mem} (hm : m.le M) {a a' : Option Addr} {n c : Nat} (h : TokFact M a a' n c) : TokFact m a a' n c := by
 obtain ⟨hn, h⟩ := h
 refine ⟨hn, ?_⟩
 rcases h with h | ⟨b, o0, h1, h2⟩
 ·exact .inl h
 ·refine .inr ⟨b, o0, h1, h2.imp_right fun hf => ⟨hf.1, fun o => ?_, ?_⟩⟩
  ·have hf := hf.2.1
   cases he : m b o with
   | none => rfl
   | some v => have := hm _ _ _ he; rw [hf o] at this; cases this
  ·cases he : m.k b with
   | none => rfl
   | some v => have := hm.k _ _ he; rw [hf.2.2] at this; cases this
def TokTail (t : Tok) (vs : Value) (esz : Nat) : Prop := ∃ a n c k, t = ⟨.slice a n c, esz⟩ ∧ k ≤ n ∧ vs = .slice (slBase a k c esz) (n - k) (c - k)
theorem TokTail.refl (v : Value) (esz : Nat) (h : isSl v = true) : TokTail ⟨v, esz⟩ v esz := by
 cases v <;> simp [isSl] at h
 exact ⟨_, _, _, 0, rfl, Nat.zero_le _, rfl⟩
theorem TokOk.tail {m : Mem} {w : World} {t : Tok} {vs : Value} {esz : Nat} (h : TokOk m w t) (k : TokTail t vs esz) : TokOk m w ⟨vs, esz⟩ ∧ ∀ b, (Tok.mk vs esz).blk = some b → t.blk = some b := by
 obtain ⟨a, n, c, k, rfl, hk, rfl⟩ := k
 rcases h with h | ⟨b, o0, n', c', cur, T, fr, hv, hnc, hh, hsz, hfr, hroom⟩
 ·simp only [Value.slice.injEq] at h
  obtain ⟨rfl, rfl, rfl⟩ := h
  obtain rfl : k = 0 := by omega
  exact ⟨.inl rfl, fun b hb => by simp [Tok.blk, slBase] at hb⟩
 ·simp only [Value.slice.injEq] at hv
  obtain ⟨rfl, rfl, rfl⟩ := hv
  simp only at hsz hroom
  have hbk : ∀ o, ∀ b', (Tok.mk (.slice (some ⟨b, o, none⟩) (n - k) (c - k)) esz).blk = some b' → (Tok.mk (.slice (some ⟨b, o0, none⟩) n c) esz).blk = some b' := fun o b' hb' => by simpa [Tok.blk] using hb'
  have hkn : (n - k) * esz + k * esz = n * esz := by rw [← Nat.add_mul]; congr 1; omega
  have hkc : (c - k) * esz + k * esz = c * esz := by rw [← Nat.add_mul]; congr 1; omega
  by_cases h0 : k = 0
  ·subst h0
   have e : slBase (some (Addr.mk b o0 none)) 0 c esz = some ⟨b, o0, none⟩ := by simp [slBase]
   rw [e]
   exact ⟨.inr ⟨b, o0, _, _, cur, T, fr, rfl, by omega, hh, by simpa using hsz, hfr, by simpa using hroom⟩, hbk o0⟩
  ·by_cases hc : c = k
   ·have e : slBase (some (Addr.mk b o0 none)) k c esz = some ⟨b, o0, none⟩ := by simp [slBase, hc, beq_ne h0]
    rw [e]
    refine ⟨.inr ⟨b, o0, _, _, cur, T, fr, rfl, by omega, hh, ?_, hfr, fun o ho1 ho2 => ?_⟩, hbk o0⟩
    ·simp only; omega
    ·exfalso
     have e1 : c - k = 0 := by omega
     have e2 : n - k = 0 := by omega
     rw [e1] at ho2; rw [e2] at ho1; omega
   ·have e : slBase (some (Addr.mk b o0 none)) k c esz = some ⟨b, o0 + k * esz, none⟩ := by
     simp only [slBase, beq_ne h0, cond_false, beq_ne hc, Option.map_some]
     rw [addr_add]
    rw [e]
    refine ⟨.inr ⟨b, o0 + k * esz, _, _, cur, T, fr, rfl, by omega, hh, by simp only; omega, hfr, fun o ho1 ho2 => hroom o (by simp only at ho1; omega) (by simp only at ho2; omega)⟩, hbk _⟩
def appB (E : Env) (S : St) (m : Mem) (j : TI) (key : Nat) (vs vx : Value) (K : Value → (Nat → Option Tok) → Mem → Prop) : Prop :=
   (match S.tok key with
   | some t => bif E.tails then (TokTail t vs j.size ∨ vs = .slice none 0 0 ∨ slC vs < slN vs + slN vx) else (t = ⟨vs, j.size⟩ ∨ vs = .slice none 0 0 ∨ slC vs < slN vs + slN vx)
   | none => vs = .slice none 0 0 ∨ slC vs < slN vs + slN vx) ∧
   ∃ xs ys : List Value, xs.length = slN vs * j.size ∧ ys.length = slN vx * j.size ∧ rowRd m (slA vs) xs ∧ rowRd m (slA vx) ys ∧ (∀ u ∈ ys, u.oneCell' = true) ∧
    (slN vs + slN vx) * j.bytes ≤ 140737488355328 ∧ slN vs + slN vx ≤ 9223372036854775807 ∧
    ∀ (a' : Option Addr) (c' : Nat) (m' : Mem), m.le m' → rowRd m' a' (xs ++ ys) → tokNew E.thaw E.capF m (slA vs) a' (slN vs + slN vx) c' (K (.slice a' (slN vs + slN vx) c') (fun k => bif Nat.beq k key then some ⟨.slice a' (slN vs + slN vx) c', j.size⟩ else S.tok k) m')
def appendW (E : Env) (S : St) (m : Mem) (T xT : TypeId) (key : Nat) (vs vx : Value) (K : Value → (Nat → Option Tok) → Mem → Prop) : Prop :=
 match sliceElem E T with
 | none => False
 | some (_, j) => match sliceElem E xT with
  | none => False
  | some (_, j') => chk (isSl vs && (isSl vx && Nat.beq j'.size j.size)) (bif E.tails then br (Nat.beq (slN vx) 0) (chk (Nat.ble (slN vs) (slC vs)) (K vs S.tok m)) (appB E S m j key vs vx K) else appB E S m j key vs vx K)
section
variable {C : Ctx} {S : St} {m : Mem} {a : Act} {w : World}
theorem Rel.tokUpd (h : Rel C S m a w) (key : Nat) (t : Tok) (ht : TokOk m w t) (hB : ∀ b, t.blk = some b → ((∀ id x, S.L id = some x → x.b ≠ b) ∧ C.me.free b) ∧ ∀ k' t', k' ≠ key → S.tok k' = some t' → t'.blk ≠ some b) (hM : ∃ M, Dom C S m a w M ∧ ∀ b, t.blk = some b → M b) :
  Rel C { S with tok := fun k => bif Nat.beq k key then some t else S.tok k, tkeys := key :: S.tkeys } m a w := by
 refine ⟨h.defers, h.size, ?_, h.own, h.apart, h.ids, ?_, ?_, ?_, h.sub, h.le, ?_, h.fo⟩
 ·intro i sv he
  obtain ⟨v, h1, h2⟩ := h.env i sv he
  exact ⟨v, by cases sv <;> exact h1, h2⟩
 ·intro k t' hk
  by_cases hkk : k = key
  ·subst hkk; simp at hk; subst hk
   exact ⟨ht, fun b hb => (hB b hb).1⟩
  ·simp [beq_ne hkk] at hk; exact h.toks k t' hk
 ·intro k t' hk
  by_cases hkk : k = key
  ·subst hkk; simp
  ·simp [beq_ne hkk] at hk; simp [h.tkeys k t' hk]
 ·intro k k' t1 t2 b h1 h2 h3 h4
  by_cases hk : k = key <;> by_cases hk' : k' = key
  ·rw [hk, hk']
  ·subst hk; simp at h1; subst h1
   simp [beq_ne hk'] at h2
   exact absurd h4 ((hB b h3).2 k' t2 hk' h2)
  ·subst hk'; simp at h2; subst h2
   simp [beq_ne hk] at h1
   exact absurd h3 ((hB b h4).2 k t1 hk h1)
  ·simp [beq_ne hk] at h1; simp [beq_ne hk'] at h2
   exact h.tapart k k' t1 t2 b h1 h2 h3 h4
 ·obtain ⟨M, hd, hMb⟩ := hM
  refine ⟨M, hd.p, hd.lt, hd.own, fun k t' b hk hb => ?_, hd.mks, hd.new⟩
  by_cases hkk : k = key
  ·subst hkk; simp at hk; subst hk; exact hMb b hb
  ·simp [beq_ne hkk] at hk; exact hd.tok k t' b hk hb
theorem Rel.tokNil (h : Rel C S m a w) (key : Nat) (t : Tok) (ht : t.v = .slice none 0 0) : Rel C { S with tok := fun k => bif Nat.beq k key then some t else S.tok k, tkeys := key :: S.tkeys } m a w :=
 h.tokUpd key t (.inl ht) (fun b hb => by simp [Tok.blk, ht] at hb) (h.dom.imp fun M d => ⟨d, fun b hb => by simp [Tok.blk, ht] at hb⟩)
theorem Rel.tkeysLe (h : Rel C S m a w) {ks : List Nat} (hk : ∀ k, k ∈ S.tkeys → k ∈ ks) : Rel C { S with tkeys := ks } m a w :=
 ⟨h.defers, h.size, fun i sv he => by
  obtain ⟨v, h1, h2⟩ := h.env i sv he
  exact ⟨v, by cases sv <;> exact h1, h2⟩, h.own, h.apart, h.ids, h.toks, fun k t ht => hk k (h.tkeys k t ht), h.tapart, h.sub, h.le, h.dom.imp fun M d => ⟨d.p, d.lt, d.own, d.tok, d.mks, d.new⟩, h.fo⟩
theorem appendW_sound {E : Env} (hE : E.ok) {T xT ty : TypeId} {key : Nat} {vs vx : Value} {K : Value → (Nat → Option Tok) → Mem → Prop} (hr : Rel C S m a w) (h : appendW E S m T xT key vs vx K) :
  ∃ v tk m' w', K v tk m' ∧ Rel C { S with tok := tk, tkeys := key :: S.tkeys } m' a w' ∧ (Builtin.append_ #[T, xT] ty #[vs, vx]).run E.P w = .ok v w' := by
 unfold appendW at h
 cases hT : sliceElem E T with
 | none => simp [hT] at h
 | some ej =>
  obtain ⟨e, j⟩ := ej
  simp only [hT] at h
  cases hX : sliceElem E xT with
  | none => simp [hX] at h
  | some ej' =>
   obtain ⟨e', j'⟩ := ej'
   simp only [hX] at h
   obtain ⟨h1, h⟩ := chk_elim h
   simp only [Bool.and_eq_true] at h1
   obtain ⟨base, n, c, rfl⟩ : ∃ base n c, vs = .slice base n c := ⟨_, _, _, isSl_elim h1.1⟩
   obtain ⟨xa, n2, c2, rfl⟩ : ∃ base n c, vx = .slice base n c := ⟨_, _, _, isSl_elim h1.2.1⟩
   have h : (n2 = 0 ∧ n ≤ c ∧ K (.slice base n c) S.tok m) ∨ appB E S m j key (.slice base n c) (.slice xa n2 c2) K := by
    cases htl : E.tails with
    | false => rw [htl] at h; exact .inr h
    | true =>
     rw [htl] at h
     simp only [cond_true, slN, slC] at h
     cases hz : Nat.beq n2 0 with
     | false => rw [hz] at h; exact .inr h
     | true =>
      rw [hz] at h
      obtain ⟨h3, h4⟩ := chk_elim h
      exact .inl ⟨Nat.eq_of_beq_eq_true hz, Nat.le_of_ble_eq_true h3, h4⟩
   rcases h with ⟨hn0, hnc, hk⟩ | h
   ·subst hn0
    obtain ⟨i, hi1, hi2, hi3⟩ := sliceElem_spec hT
    obtain ⟨ix, hx1, hx2, _⟩ := sliceElem_spec hX
    have hfc := run_firstCells_rd (P := E.P) hr.sub (xs := []) (a := xa) (.inl rfl) 0 0 c2 j.size (by simp)
    have hrun := run_app_room (ty := ty) (hE T i hi1) hi2 (hE xT ix hx1) hx2 (hE e j hi3) base n c xa 0 c2 [] hfc (by omega) (w' := w) (by
     cases base with
     | none => rfl
     | some ad => rfl)
    rw [Nat.add_zero] at hrun
    refine ⟨_, _, m, w, hk, ?_, hrun⟩
    have h0 := hr.tkeysLe (ks := key :: S.tkeys) (fun k hk => List.mem_cons_of_mem _ hk)
    exact h0
   unfold appB at h
   obtain ⟨htok, xs, ys, hxl, hyl, hxr, hyr, hone, hbytes, h63, hk⟩ := h
   simp only [slN, slA, slC] at hxl hyl hxr hyr hbytes h63 hk htok
   obtain ⟨i, hi1, hi2, hi3⟩ := sliceElem_spec hT
   obtain ⟨ix, hx1, hx2, _⟩ := sliceElem_spec hX
   have hiok := hE T i hi1
   have hxok := hE xT ix hx1
   have hjok := hE e j hi3
   have hd := hi2
   have tk0 : n + n2 ≤ c → TokOk m w ⟨.slice base n c, j.size⟩ ∧ (∀ b, (Tok.mk (.slice base n c) j.size).blk = some b → (∀ M, Dom C S m a w M → M b) ∧ ((∀ id x, S.L id = some x → x.b ≠ b) ∧ C.me.free b) ∧ ∀ k' t', k' ≠ key → S.tok k' = some t' → t'.blk ≠ some b) := by
    intro hroom
    cases ht : S.tok key with
    | some t =>
     simp only [ht] at htok
     have htok : TokTail t (.slice base n c) j.size ∨ (Value.slice base n c = .slice none 0 0) ∨ c < n + n2 := by
      cases htl : E.tails with
      | true => rw [htl] at htok; exact htok
      | false =>
       rw [htl] at htok
       refine htok.imp_left fun e => ?_
       rw [e]; exact TokTail.refl _ _ rfl
     rcases htok with htok | htok | htok
     ·obtain ⟨g1, g2⟩ := hr.toks key _ ht
      obtain ⟨g3, g4⟩ := g1.tail htok
      exact ⟨g3, fun b hb => ⟨fun M hM => hM.tok key _ b ht (g4 b hb), g2 b (g4 b hb), fun k' t' hne hk' hb' => hne (hr.tapart k' key t' _ b hk' ht hb' (g4 b hb))⟩⟩
     ·rw [htok]
      exact ⟨.inl rfl, fun b hb => by simp [Tok.blk] at hb⟩
     ·omega
    | none =>
     simp only [ht] at htok
     rcases htok with htok | htok
     ·rw [htok]
      exact ⟨.inl rfl, fun b hb => by simp [Tok.blk] at hb⟩
     ·omega
   by_cases hroom : n + n2 ≤ c
   ·
    obtain ⟨tk1, tk2⟩ := tk0 hroom
    have hfc := run_firstCells_rd (P := E.P) hr.sub hyr n2 n2 c2 j.size hyl
    rcases tk1 with htn | ⟨b, o0, n', c', cur, TT, fr, hv, hnc, hheap, hcur, hfro, hfree⟩
    ·simp only [Value.slice.injEq] at htn
     obtain ⟨rfl, rfl, rfl⟩ := htn
     have hn2 : n2 = 0 := by omega
     subst hn2
     have hy0 : ys = [] := List.eq_nil_of_length_eq_zero (by simpa using hyl)
     have hx0 : xs = [] := List.eq_nil_of_length_eq_zero (by simpa using hxl)
     subst hy0 hx0
     refine ⟨_, _, m, w, tokNew_elim (hk none 0 m (Mem.le_refl m) (.inl rfl)) ⟨by omega, .inl rfl⟩, hr.tokNil key _ rfl, ?_⟩
     exact run_app_room hiok hd hxok hx2 hjok none 0 0 xa 0 c2 [] hfc (by omega) rfl
    ·simp only [Value.slice.injEq] at hv
     obtain ⟨rfl, rfl, rfl⟩ := hv
     simp only at hcur hfro hfree
     have hle : (n + n2) * j.size ≤ c * j.size := Nat.mul_le_mul_right _ hroom
     have hadd : (n + n2) * j.size = n * j.size + n2 * j.size := Nat.add_mul _ _ _
     obtain ⟨P0, hP0⟩ : ∃ P0, P0 = o0 + n * j.size := ⟨_, rfl⟩
     rw [← hP0] at hfree
     have hst0 : ∀ (ys' : List Value) (w1 : World), True := fun _ _ => trivial
     obtain ⟨w', hw', hst⟩ : ∃ w', w' = w.setRow b (cur.toList.take (P0) ++ ys ++ cur.toList.drop (P0 + ys.length)).toArray ∧ (storeCells ((⟨b, o0, none⟩ : Addr).add (n * j.size)) ys).run E.P w = .ok () w' := by
      refine ⟨_, rfl, ?_⟩
      rw [addr_add, ← hP0]
      clear hst0
      have key1 : ∀ (vs : List Value) (q : Nat) (cur : Array Value) (w : World), w.heap[b]? = some (.cells cur TT fr) → (∀ o, P0 ≤ o → o < cur.size → ¬ (fr.1 ≤ o ∧ o < fr.2)) → P0 + q + vs.length ≤ cur.size → (∀ v ∈ vs, v.oneCell' = true) →
        (storeCells ⟨b, P0, none⟩ vs q).run E.P w = .ok () (w.setRow b (cur.toList.take (P0 + q) ++ vs ++ cur.toList.drop (P0 + q + vs.length)).toArray) := by
       intro vs
       induction vs with
       | nil =>
        intro q cur w hg _ _ _
        simp only [storeCells, List.append_nil, List.length_nil, Nat.add_zero, List.take_append_drop, Array.toArray_toList]
        rw [setRow_self w b cur TT fr hg]
        rfl
       | cons v rest ih =>
        intro q cur w hg hfz hl h1
        have hi : P0 + q < cur.size := by simp at hl; omega
        have hcell : w.cell? ⟨b, P0 + q, none⟩ = some cur[P0 + q] := by simp [World.cell?, hg, hi]
        have hfro : w.frozen? ⟨b, P0 + q, none⟩ = false := by
         have := hfz (P0 + q) (by omega) hi
         obtain ⟨lo, hi'⟩ := fr
         simp only [World.frozen?, hg, Bool.and_eq_false_iff, decide_eq_false_iff_not]
         simp only at this
         omega
        have hst : (store ((⟨b, P0, none⟩ : Addr).add q) v).run E.P w = .ok () (w.setRow b (cur.setIfInBounds (P0 + q) v)) := by
         rw [addr_add, run_store E.P w _ v _ (h1 v (by simp)), hcell]
         simp [hfro, setCell_eq_setRow w b (P0 + q) cur TT fr v hg]
        have ih' := ih (q + 1) (cur.setIfInBounds (P0 + q) v) (w.setRow b (cur.setIfInBounds (P0 + q) v)) (setRow_heap w b cur _ TT _ hg) (by simpa using hfz) (by simp at hl ⊢; omega) (fun x hx => h1 x (by simp [hx]))
        simp only [storeCells, Sem.run_bind, hst, Result.andThen_ok, ih', setRow_setRow]
        congr 3
        have e := list_seg_step cur.toList (P0 + q) v rest (by simp at hl ⊢; omega)
        simpa [Array.toList_setIfInBounds, Nat.add_assoc] using e
      have := key1 ys 0 cur w hheap (fun o _ h => hfro o h) (by omega) hone
      simpa using this
     have hother : ∀ k, k ≠ b → w'.heap[k]? = w.heap[k]? := fun k hk => by rw [hw']; exact setRow_other w b k _ hk
     have hself : w'.heap[b]? = some (.cells (cur.toList.take (P0) ++ ys ++ cur.toList.drop (P0 + ys.length)).toArray TT fr) := by rw [hw']; exact setRow_heap w b cur _ TT fr hheap
     have hcs : P0 + ys.length ≤ cur.size := by omega
     have hBb := tk2 b rfl
     have hm' : m.le (m.addAt b (P0) ys) := ⟨fun b' o v hv => by
      simp only [Mem.addAt]
      split
      ·rename_i hc
       obtain ⟨rfl, ho⟩ := hc
       cases hy : ys[o - P0]? with
       | none => simp only [hy]; exact hv
       | some u =>
        have hlt := (List.getElem?_eq_some_iff.1 hy).1
        rw [hfree o ho (by omega)] at hv; cases hv
      ·exact hv, fun _ _ h => h⟩
     have hsub' : Sub (m.addAt b (P0) ys) w' := by
      refine hr.sub.wr1 ⟨_, _, _, hheap⟩ hother (fun _ _ h => h) fun b' o v hv => ?_
      simp only [Mem.addAt] at hv
      by_cases hbb : b' = b
      ·subst hbb
       simp only [World.cell?, hself]
       by_cases ho : P0 ≤ o
       ·simp only [ho, and_self, if_true] at hv
        cases hy : ys[o - P0]? with
        | none =>
         simp only [hy] at hv
         have hs0 := hr.sub _ _ _ hv
         simp only [World.cell?, hheap, Option.isSome_none, Bool.false_eq_true, if_false] at hs0
         rw [← Array.getElem?_toList] at hs0
         have hge := List.getElem?_eq_none_iff.1 hy
         have e1 : (cur.toList.take (P0)).length = P0 := by simp; omega
         simp only [Option.isSome_none, Bool.false_eq_true, if_false, List.getElem?_toArray]
         rw [List.getElem?_append_right (by rw [List.length_append, e1]; omega), List.getElem?_drop, List.length_append, e1, show P0 + ys.length + (o - (P0 + ys.length)) = o by omega]
         exact hs0
        | some u =>
         simp only [hy] at hv
         cases hv
         have hlt := (List.getElem?_eq_some_iff.1 hy).1
         have e1 : (cur.toList.take (P0)).length = P0 := by simp; omega
         simp only [Option.isSome_none, Bool.false_eq_true, if_false, List.getElem?_toArray]
         rw [List.append_assoc, List.getElem?_append_right (by omega), e1, List.getElem?_append_left hlt, hy]
       ·simp only [ho, and_false, if_false] at hv
        have := hr.sub _ _ _ hv
        simp only [World.cell?, hheap] at this
        simp only [Option.isSome_none, Bool.false_eq_true, if_false, List.getElem?_toArray] at this ⊢
        rw [List.append_assoc, List.getElem?_append_left (by simp; omega), List.getElem?_take, if_pos (by omega)]
        simpa using this
      ·simp only [hbb, false_and, if_false] at hv
       rw [cell?_eq (hother b' hbb)]; exact hr.sub _ _ _ hv
     have hreads : rowRd (m.addAt b (P0) ys) (some ⟨b, o0, none⟩) (xs ++ ys) := by
      refine .inr ⟨b, o0, rfl, fun q v hv => ?_⟩
      by_cases hq : q < xs.length
      ·rw [List.getElem?_append_left hq] at hv
       rcases hxr with rfl | ⟨b', o', hbo, hrd⟩
       ·simp at hq
       ·cases hbo
        exact hm' _ _ _ (hrd q v hv)
      ·rw [List.getElem?_append_right (by omega), hxl] at hv
       simp only [Mem.addAt]
       rw [if_pos ⟨trivial, by omega⟩, show o0 + q - P0 = q - n * j.size by omega, hv]
     have hnotC : ∀ id x, S.L id = some x → x.b ≠ b := hBb.2.1.1
     have hdomr : ∃ M, Dom C { S with tok := fun k => bif Nat.beq k key then some ⟨.slice none 0 0, j.size⟩ else S.tok k, tkeys := key :: S.tkeys } (m.addAt b (P0) ys) a w' M ∧ M b := by
      obtain ⟨M, hd⟩ := hr.dom
      have hMb := hBb.1 M hd
      have hu : Upd M w w' := ⟨by rw [hw']; rfl, by rw [hw']; rfl, by rw [hw']; rfl, by rw [hw']; simp, fun k hk hn => hother k (fun e => hn (e ▸ hMb)), fun k _ hk => by
       by_cases hkb : k = b
       ·subst hkb
        intro c1 T1 fr1 hh i hi
        rw [hself] at hh
        simp only [Option.some.injEq, Obj.cells.injEq] at hh
        obtain ⟨rfl, rfl, rfl⟩ := hh
        exact hfro i (by simp at hi hcs ⊢; omega)
       ·exact hk.of_eq (hother k hkb)⟩
      have h1 := hd.step (m' := m.addAt b (P0) ys) hu ((NewM.refl _ _).addAt ys (.inl hMb))
      refine ⟨_, ⟨h1.p, h1.lt, h1.own, fun k t b' hk hb' => ?_, h1.mks, h1.new⟩, .inl hMb⟩
      by_cases hkk : k = key
      ·subst hkk; simp at hk; subst hk; simp [Tok.blk] at hb'
      ·simp [beq_ne hkk] at hk; exact h1.tok k t b' hk hb'
     have hrr : Rel C { S with tok := fun k => bif Nat.beq k key then some ⟨.slice none 0 0, j.size⟩ else S.tok k, tkeys := key :: S.tkeys } (m.addAt b (P0) ys) a w' := by
      have h0 := hr.tokNil key ⟨.slice none 0 0, j.size⟩ rfl
      refine ⟨?_, h0.size, h0.env, ?_, h0.apart, h0.ids, ?_, h0.tkeys, h0.tapart, hsub', mLt hr.le hm', hdomr.imp fun _ h => h.1, h0.fo⟩
      ·obtain ⟨ms, g1, g2, g3⟩ := hr.defers
       refine ⟨ms, g1, g2, fun D hD => ?_⟩
       rw [hother D (fun e => by have := g3 D hD; rw [e, hheap] at this; cases this)]; exact g3 D hD
      ·intro id x hx
       have ho := hr.own id x hx
       have hne := hnotC id x hx
       exact ho.same (hother _ hne) hm' (fun hz o => by simp only [Mem.addAt]; rw [if_neg (fun hc => hne hc.1)]; exact ho.free hz o)
      ·intro k t ht
       by_cases hkk : k = key
       ·subst hkk; simp at ht; subst ht
        exact ⟨.inl rfl, fun b hb => by simp [Tok.blk] at hb⟩
       ·simp [beq_ne hkk] at ht
        obtain ⟨g1, g2⟩ := hr.toks k t ht
        have hne : ∀ b', t.blk = some b' → b' ≠ b := fun b' hb' e => by subst e; exact hBb.2.2 k t hkk ht hb'
        exact ⟨g1.same (fun b' hb' => hother _ (hne b' hb')) (fun b' o hb' hn => by simp only [Mem.addAt]; rw [if_neg (fun hc => hne b' hb' hc.1)]; exact hn), g2⟩
     have hfin := hrr.tokUpd key ⟨.slice (some ⟨b, o0, none⟩) (n + n2) c, j.size⟩ (.inr ⟨b, o0, n + n2, c, _, TT, fr, rfl, hroom, hself, by
       simp only [List.size_toArray, List.length_append, List.length_take, List.length_drop, Array.length_toList]; omega, by
       intro o hlt
       refine hfro o ?_
       simp only [List.size_toArray, List.length_append, List.length_take, List.length_drop, Array.length_toList] at hlt; omega, by
       intro o ho ho2
       simp only at ho ho2
       simp only [Mem.addAt]
       split
       ·have : ys[o - P0]? = none := List.getElem?_eq_none (by omega)
        rw [this]; exact hfree o (by omega) ho2
       ·exact hfree o (by omega) ho2⟩) (fun b' hb' => by
       simp only [Tok.blk, Option.some.injEq] at hb'
       subst hb'
       refine ⟨⟨hnotC, hBb.2.1.2⟩, fun k' t' hne hk' => ?_⟩
       simp [beq_ne hne] at hk'
       exact hBb.2.2 k' t' hne hk') (hdomr.imp fun M h => ⟨h.1, fun b' hb' => by simp only [Tok.blk, Option.some.injEq] at hb'; exact hb' ▸ h.2⟩)
     have hfun : (fun k => bif Nat.beq k key then some (Tok.mk (.slice (some ⟨b, o0, none⟩) (n + n2) c) j.size) else (bif Nat.beq k key then some (Tok.mk (.slice none 0 0) j.size) else S.tok k)) = (fun k => bif Nat.beq k key then some (Tok.mk (.slice (some ⟨b, o0, none⟩) (n + n2) c) j.size) else S.tok k) := by
      funext k; cases Nat.beq k key <;> rfl
     simp only [hfun] at hfin
     have hfin := hfin.tkeysLe (ks := key :: S.tkeys) (by simp)
     exact ⟨_, _, _, w', tokNew_elim (hk (some ⟨b, o0, none⟩) c _ hm' hreads) ⟨by omega, .inr ⟨b, o0, rfl, .inl rfl⟩⟩, hfin, run_app_room hiok hd hxok hx2 hjok _ n c xa n2 c2 ys hfc hroom (by simpa using hst)⟩
   ·
    have hsubd : Sub m w.drew := ⟨fun b o v hv => hr.sub b o v hv, hr.sub.k⟩
    have hfx := run_firstCells_rd (P := E.P) hsubd hxr n n c j.size hxl
    have hfy := run_firstCells_rd (P := E.P) hsubd hyr n2 n2 c2 j.size hyl
    have hrun := run_app_grow (ty := ty) hiok hd hxok hx2 hjok base n c xa n2 c2 xs ys hfx hfy (by omega) (by omega) hbytes
    generalize hcap : grownCap w (n + n2) c e = cap at hrun
    have hge : n + n2 ≤ cap := by rw [← hcap]; exact grownCap_ge w (n + n2) c e
    generalize hz : (Builtin.zeroCells j.zero.cells (cap - (n + n2))).toList = zs at hrun
    have hzl : zs.length = (cap - (n + n2)) * j.size := by rw [← hz]; simp [Builtin.zeroCells, hjok.zsize]
    have hrd := hr.drew
    have hws : w.drew.heap.size = w.heap.size := rfl
    have hfreeb : m.free w.heap.size := fun o => by
     cases he : m w.heap.size o with
     | none => rfl
     | some v => have := hr.sub.lt he; omega
    obtain ⟨w', hw'⟩ : ∃ w', w' = w.drew.alloc (.cells (xs ++ (ys ++ zs)).toArray e (0, 0)) := ⟨_, rfl⟩
    rw [← hw'] at hrun
    have hnewb : w'.heap[w.heap.size]? = some (.cells (xs ++ (ys ++ zs)).toArray e (0, 0)) := by rw [hw']; exact heap_alloc_new w.drew _
    have hwrb : Wr w' w.heap.size := by rw [hw']; exact Wr.new (w := w.drew) (wrObj0 _ _)
    have hm' : m.le (m.add w.heap.size (xs ++ ys)) := Mem.le_add hfreeb _
    have hsub' : Sub (m.add w.heap.size (xs ++ ys)) w' := by
     refine Sub.add (hw' ▸ hsubd.alloc _) fun o v hv => ?_
     have hlt := (List.getElem?_eq_some_iff.1 hv).1
     simp only [World.cell?, hnewb, Option.isSome_none, Bool.false_eq_true, if_false, List.getElem?_toArray]
     rw [← List.append_assoc, List.getElem?_append_left hlt, hv]
    have hrw : Rel C S (m.add w.heap.size (xs ++ ys)) a w' := by
     refine hrd.world ?_ hsub' hm' ?_
     ·rw [hw']; exact Keep.alloc (Nat.le_refl _) (wrObj0 _ _)
     ·exact NewM.add _ _ ⟨Nat.le_refl _, hwrb⟩
    have hlt : ∀ k t b, S.tok k = some t → t.blk = some b → b < w.heap.size := fun k t b ht hb => (hr.toks k t ht).1.lt hb
    have hfin := hrw.tokUpd key ⟨.slice (some ⟨w.heap.size, 0, none⟩) (n + n2) cap, j.size⟩ (.inr ⟨w.heap.size, 0, n + n2, cap, _, e, (0, 0), rfl, hge, hnewb, by
      simp only [List.size_toArray, List.length_append, hxl, hyl, hzl, ← Nat.add_mul, Nat.zero_add]
      exact Nat.mul_le_mul_right _ (by omega), fun o _ => by simp, fun o ho _ => by
      simp only [Nat.zero_add] at ho
      rw [Mem.add_same]
      exact List.getElem?_eq_none (by rw [List.length_append, hxl, hyl, ← Nat.add_mul]; exact ho)⟩) (fun b' hb' => by
      simp only [Tok.blk, Option.some.injEq] at hb'
      subst hb'
      refine ⟨⟨fun id x hx e => ?_, fun o => ?_⟩, fun k' t' _ hk' hb' => ?_⟩
      ·have := (hr.own id x hx).lt; omega
      ·cases he : C.me w.heap.size o with
       | none => rfl
       | some v => have := hr.le _ _ _ he; rw [hfreeb o] at this; cases this
      ·have := hlt k' t' _ hk' hb'; omega) (by
      obtain ⟨M, hd⟩ := hrd.dom
      have hk : Keep w.drew.heap.size [] w.drew w' := by rw [hw']; exact Keep.alloc (Nat.le_refl _) (wrObj0 _ _)
      refine ⟨_, hd.step (m' := m.add w.heap.size (xs ++ ys)) (hk.upd (by simp)) (NewM.add _ _ (.inr ⟨by rw [hws]; omega, (Array.getElem?_eq_some_iff.1 hnewb).1, hwrb⟩)), fun b' hb' => ?_⟩
      ·simp only [Tok.blk, Option.some.injEq] at hb'
       subst hb'
       exact .inr ⟨by rw [hws]; omega, (Array.getElem?_eq_some_iff.1 hnewb).1, hwrb⟩)
    refine ⟨_, _, _, w', tokNew_elim (hk (some ⟨w.heap.size, 0, none⟩) cap _ hm' (.inr ⟨w.heap.size, 0, rfl, fun q v hv => by rw [Nat.zero_add, Mem.add_same]; exact hv⟩)) ⟨by omega, .inr ⟨w.heap.size, 0, rfl, .inr ⟨rfl, hfreeb, by
     cases he : m.k w.heap.size with
     | none => rfl
     | some e => have := (hr.sub.k _ e he).lt; omega⟩⟩⟩, hfin, hrun⟩
end
end Go.Eng
