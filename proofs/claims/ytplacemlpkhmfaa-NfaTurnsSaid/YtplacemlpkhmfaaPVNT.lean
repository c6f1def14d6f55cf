/- Part of the proof: conditions and contracts of functions of this program. No condition of its own. -/
import Derived.Test.YtplacemlpkhmfaaPEnv
import Derived.Test.YtplacemlpkhmfaaMc
set_option linter.unusedVariables false
namespace Go.Proofs.Ytplacemlpkhmfaa
open Go Go.Eng Go.Proofs Go.RowKit
open Go.Value (int slice agg)
open Go.IntKind (u8 u64 i64)
set_option maxRecDepth 100000
noncomputable def E_law17_NfaTurns : Env := { EB with
 joins := (fun i => bif Nat.beq i 12 then some [(4, .bool)] else none)
 tokC := (fun i => bif Nat.beq i 42 then some (42, 1) else none)
 thaw := true
 lentC := (fun i => bif Nat.beq i 50 then some [(42, 1)] else none) }
def VC_law17_NfaTurns (p0a : Option Addr) (p0n p0c : Nat) (p1a : Option Addr) (p1n p1c : Nat) (m : Mem) (R : RT) : Prop :=
 ∃ (R_1 : RT), True ∧ CX Try.prog 12 (Array.mk []) m [] R_1 ∧ Fits Shape.bool R_1 ∧ ∀ (b : Bool) (m' : Mem), Mem.le m m' → R_1 (Value.bool b) m' [] → br (!b) (∃ (m'' : Mem), Mem.le m m'' ∧ Mem.le m'' m' ∧ R (Value.bool
 false) m'' []) (∃ (R_2 : RT), True ∧ CX Try.prog 15 (Array.mk [slice p0a p0n p0c]) m' [] R_2 ∧ Fits (shT) R_2 ∧ ∀ (n bq bs bt bu bv bw : Int) (a : Option Addr) (bx c : Nat) (bl : Mem), Mem.le m' bl → R_2 (agg (Array.mk
 [int u8 n, int u64 bq, int u64 bs, int u64 bt, int u64 bu, int i64 bv, int i64 bw, slice a bx c])) bl [] → ∃ (R_3 : RT), True ∧ CX Try.prog 14 (Array.mk [agg (Array.mk [int u8 n, int u64 bq, int u64 bs, int u64 bt, int
 u64 bu, int i64 bv, int i64 bw, slice a bx c])]) bl [] R_3 ∧ Fits (Shape.tup [Shape.agg [Shape.slice, Shape.slice, Shape.slice, Shape.slice, Shape.bool], Shape.int i64]) R_3 ∧ ∀ (a : Option Addr) (n c : Nat) (ac :
 Option Addr) (ad ae : Nat) (af : Option Addr) (ag ah : Nat) (ai : Option Addr) (aj ak : Nat) (b : Bool) (bz : Int) (m' : Mem), Mem.le bl m' → R_3 (Value.tuple (Array.mk [agg (Array.mk [slice a n c, slice ac ad ae, slice
 af ag ah, slice ai aj ak, Value.bool b]), int i64 bz])) m' [] → ∀ (bd : Nat), ∃ (R_4 : RT), True ∧ CX Try.prog 16 (Array.mk [agg (Array.mk [slice a n c, slice ac ad ae, slice af ag ah, slice ai aj ak, Value.bool b])])
 m' [] R_4 ∧ Fits (Shape.tup [Shape.agg [Shape.slice, Shape.slice, Shape.slice, Shape.slice, Shape.bool], Shape.int i64]) R_4 ∧ ∀ (al : Option Addr) (am an : Nat) (ao : Option Addr) (ap aq : Nat) (ar : Option Addr) (au
 av : Nat) (aw : Option Addr) (ax ay : Nat) (az : Bool) (ca : Int) (bm : Mem), Mem.le m' bm → R_4 (Value.tuple (Array.mk [agg (Array.mk [slice al am an, slice ao ap aq, slice ar au av, slice aw ax ay, Value.bool az]),
 int i64 ca])) bm [] → ∀ (be : Nat), ∃ (R_5 : RT), True ∧ CX Try.prog 16 (Array.mk [agg (Array.mk [slice al am an, slice ao ap aq, slice ar au av, slice aw ax ay, Value.bool az])]) bm [] R_5 ∧ Fits (Shape.tup [Shape.agg
 [Shape.slice, Shape.slice, Shape.slice, Shape.slice, Shape.bool], Shape.int i64]) R_5 ∧ ∀ (a0 : Option Addr) (a1 a2 : Nat) (a3 : Option Addr) (a4 a5 : Nat) (a6 : Option Addr) (a7 a8 : Nat) (a9 : Option Addr) (ba bb :
 Nat) (bc : Bool) (cb : Int) (m' : Mem), Mem.le bm m' → R_5 (Value.tuple (Array.mk [agg (Array.mk [slice a0 a1 a2, slice a3 a4 a5, slice a6 a7 a8, slice a9 ba bb, Value.bool bc]), int i64 cb])) m' [] → ∀ (bf : Nat), (((0
 : Int) ≤ if (60 : Int) < (↑p1n : Int) then (60 : Int) else (↑p1n : Int)) ∧ (if (60 : Int) < (↑p1n : Int) then (60 : Int) else (↑p1n : Int)) ≤ (↑p1c : Int)) ∧ ∃ (R_6 : RT), CXT Try.prog 17 (Array.mk [slice (slBase p1a 0
 p1c 1) (Int.toNat (if (60 : Int) < (↑p1n : Int) then (60 : Int) else (↑p1n : Int)) - 0) (p1c - 0)]) m' 1 R_6 ∧ Fits Shape.slice R_6 ∧ ∀ (bg : Option Addr) (bh bi : Nat) (bn : Mem), Mem.le m' bn → R_6 (slice bg bh bi) bn
 [] → ∃ (R_7 : RT), True ∧ CX Try.prog 18 (Array.mk [agg (Array.mk [slice a n c, slice ac ad ae, slice af ag ah, slice ai aj ak, Value.bool b]), slice bg bh bi]) bn [] R_7 ∧ Fits (Shape.tup [Shape.bool, Shape.int i64])
 R_7 ∧ ∀ (cc : Bool) (cd : Int) (m' : Mem), Mem.le bn m' → R_7 (Value.tuple (Array.mk [Value.bool cc, int i64 cd])) m' [] → ∃ (Y : Nat → Prop), ∃ (R_8 : Value → Mem → List (List Value) → List Value → Prop), CXY Try.prog
 19 (Array.mk [slice bg bh bi]) m' Y [] [Tok.mk (slice bg bh bi) 1] R_8 ∧ (∀ (t : Tok), t ∈ [Tok.mk (slice bg bh bi) 1] → ∀ (b : Nat), Tok.blk t = some b → Y b) ∧ (∀ (b : Nat), Y b → (∃ (t : Tok), t ∈ [Tok.mk (slice bg
 bh bi) 1] ∧ Tok.blk t = some b) ∨ Mem.free m b ∧ (∃ (o : Nat), ∃ (v : Value), m' b o = some v) ∧ True) ∧ (∀ (v : Value) (m' : Mem) (css : List (List Value)) (tvs : List Value), R_8 v m' css tvs → Shape.fits (Shape.tup
 []) v = true) ∧ ∀ (bk : Mem), Mem.le (Mem.off m' Y) bk → (∀ (b o : Nat) (u : Value), bk b o = some u → m' b o = some u ∨ Y b ∨ Mem.free m' b) → ∀ (aa : Option Addr) (ab d : Nat), R_8 (Value.tuple (Array.mk [])) bk []
 [slice aa ab d] → ∃ (R_9 : RT), True ∧ CX Try.prog 18 (Array.mk [agg (Array.mk [slice al am an, slice ao ap aq, slice ar au av, slice aw ax ay, Value.bool az]), slice bg bh bi]) bk [] R_9 ∧ Fits (Shape.tup [Shape.bool,
 Shape.int i64]) R_9 ∧ ∀ (ce : Bool) (cf : Int) (m' : Mem), Mem.le bk m' → R_9 (Value.tuple (Array.mk [Value.bool ce, int i64 cf])) m' [] → ∃ (R_10 : RT), True ∧ CX Try.prog 20 (Array.mk [agg (Array.mk [slice a n c,
 slice ac ad ae, slice af ag ah, slice ai aj ak, Value.bool b])]) m' [] R_10 ∧ Fits (Shape.tup [Shape.slice, Shape.int i64]) R_10 ∧ ∀ (cg : Option Addr) (ch ci : Nat) (cj : Int) (bo : Mem), Mem.le m' bo → R_10
 (Value.tuple (Array.mk [slice cg ch ci, int i64 cj])) bo [] → ∃ (R_11 : RT), True ∧ CX Try.prog 20 (Array.mk [agg (Array.mk [slice al am an, slice ao ap aq, slice ar au av, slice aw ax ay, Value.bool az])]) bo [] R_11 ∧
 Fits (Shape.tup [Shape.slice, Shape.int i64]) R_11 ∧ ∀ (ck : Option Addr) (cl cm : Nat) (cn : Int) (m' : Mem), Mem.le bo m' → R_11 (Value.tuple (Array.mk [slice ck cl cm, int i64 cn])) m' [] → ∃ (bj : Bool), br
 (IntKind.wrap i64 (IntKind.wrap i64 (IntKind.wrap i64 (IntKind.wrap i64 (IntKind.wrap i64 (IntKind.wrap i64 (bz + ca) + cb) + cd) + cf) + cj) + cn) == (0 : Int)) (∃ (R : RT), True ∧ CX Try.prog 21 (Array.mk [agg
 (Array.mk [slice al am an, slice ao ap aq, slice ar au av, slice aw ax ay, Value.bool az])]) m' [] R ∧ Fits Shape.bool R ∧ ∀ (co : Bool) (bp : Mem), Mem.le m' bp → R (Value.bool co) bp [] → br co (∃ (R : RT), True ∧ CX
 Try.prog 22 (Array.mk [agg (Array.mk [slice a0 a1 a2, slice a3 a4 a5, slice a6 a7 a8, slice a9 ba bb, Value.bool bc]), agg (Array.mk [slice a n c, slice ac ad ae, slice af ag ah, slice ai aj ak, Value.bool b])]) bp [] R
 ∧ Fits Shape.bool R ∧ ∀ (cp : Bool) (m' : Mem), Mem.le bp m' → R (Value.bool cp) m' [] → br cp (br (cc == ce) (∃ (R : RT), True ∧ CX Try.prog 23 (Array.mk [slice cg ch ci, slice ck cl cm]) m' [] R ∧ Fits Shape.bool R ∧
 ∀ (cq : Bool) (cr : Mem), Mem.le m' cr → R (Value.bool cq) cr [] → [some (Box.mk bf [slice a0 a1 a2, slice a3 a4 a5, slice a6 a7 a8, slice a9 ba bb, Value.bool bc] 26 5 false true), some (Box.mk be [slice al am an,
 slice ao ap aq, slice ar au av, slice aw ax ay, Value.bool az] 26 5 false true), some (Box.mk bd [slice a n c, slice ac ad ae, slice af ag ah, slice ai aj ak, Value.bool b] 26 5 false true)] = [some (Box.mk bf [slice a0
 a1 a2, slice a3 a4 a5, slice a6 a7 a8, slice a9 ba bb, Value.bool bc] 26 5 false true), some (Box.mk be [slice al am an, slice ao ap aq, slice ar au av, slice aw ax ay, Value.bool az] 26 5 false true), some (Box.mk bd
 [slice a n c, slice ac ad ae, slice af ag ah, slice ai aj ak, Value.bool b] 26 5 false true)] ∧ [some (Tok.mk (slice aa ab d) 1), some (Tok.mk (slice aa ab d) 1)] = [some (Tok.mk (slice aa ab d) 1), some (Tok.mk (slice
 aa ab d) 1)] ∧ [Value.bool cq] = [Value.bool bj]) ([some (Box.mk bf [slice a0 a1 a2, slice a3 a4 a5, slice a6 a7 a8, slice a9 ba bb, Value.bool bc] 26 5 false true), some (Box.mk be [slice al am an, slice ao ap aq,
 slice ar au av, slice aw ax ay, Value.bool az] 26 5 false true), some (Box.mk bd [slice a n c, slice ac ad ae, slice af ag ah, slice ai aj ak, Value.bool b] 26 5 false true)] = [some (Box.mk bf [slice a0 a1 a2, slice a3
 a4 a5, slice a6 a7 a8, slice a9 ba bb, Value.bool bc] 26 5 false true), some (Box.mk be [slice al am an, slice ao ap aq, slice ar au av, slice aw ax ay, Value.bool az] 26 5 false true), some (Box.mk bd [slice a n c,
 slice ac ad ae, slice af ag ah, slice ai aj ak, Value.bool b] 26 5 false true)] ∧ [some (Tok.mk (slice aa ab d) 1), some (Tok.mk (slice aa ab d) 1)] = [some (Tok.mk (slice aa ab d) 1), some (Tok.mk (slice aa ab d) 1)] ∧
 [Value.bool false] = [Value.bool bj])) ([some (Box.mk bf [slice a0 a1 a2, slice a3 a4 a5, slice a6 a7 a8, slice a9 ba bb, Value.bool bc] 26 5 false true), some (Box.mk be [slice al am an, slice ao ap aq, slice ar au av,
 slice aw ax ay, Value.bool az] 26 5 false true), some (Box.mk bd [slice a n c, slice ac ad ae, slice af ag ah, slice ai aj ak, Value.bool b] 26 5 false true)] = [some (Box.mk bf [slice a0 a1 a2, slice a3 a4 a5, slice a6
 a7 a8, slice a9 ba bb, Value.bool bc] 26 5 false true), some (Box.mk be [slice al am an, slice ao ap aq, slice ar au av, slice aw ax ay, Value.bool az] 26 5 false true), some (Box.mk bd [slice a n c, slice ac ad ae,
 slice af ag ah, slice ai aj ak, Value.bool b] 26 5 false true)] ∧ [some (Tok.mk (slice aa ab d) 1), some (Tok.mk (slice aa ab d) 1)] = [some (Tok.mk (slice aa ab d) 1), some (Tok.mk (slice aa ab d) 1)] ∧ [Value.bool
 false] = [Value.bool bj])) ([some (Box.mk bf [slice a0 a1 a2, slice a3 a4 a5, slice a6 a7 a8, slice a9 ba bb, Value.bool bc] 26 5 false true), some (Box.mk be [slice al am an, slice ao ap aq, slice ar au av, slice aw ax
 ay, Value.bool az] 26 5 false true), some (Box.mk bd [slice a n c, slice ac ad ae, slice af ag ah, slice ai aj ak, Value.bool b] 26 5 false true)] = [some (Box.mk bf [slice a0 a1 a2, slice a3 a4 a5, slice a6 a7 a8,
 slice a9 ba bb, Value.bool bc] 26 5 false true), some (Box.mk be [slice al am an, slice ao ap aq, slice ar au av, slice aw ax ay, Value.bool az] 26 5 false true), some (Box.mk bd [slice a n c, slice ac ad ae, slice af
 ag ah, slice ai aj ak, Value.bool b] 26 5 false true)] ∧ [some (Tok.mk (slice aa ab d) 1), some (Tok.mk (slice aa ab d) 1)] = [some (Tok.mk (slice aa ab d) 1), some (Tok.mk (slice aa ab d) 1)] ∧ [Value.bool false] =
 [Value.bool bj])) ([some (Box.mk bf [slice a0 a1 a2, slice a3 a4 a5, slice a6 a7 a8, slice a9 ba bb, Value.bool bc] 26 5 false true), some (Box.mk be [slice al am an, slice ao ap aq, slice ar au av, slice aw ax ay,
 Value.bool az] 26 5 false true), some (Box.mk bd [slice a n c, slice ac ad ae, slice af ag ah, slice ai aj ak, Value.bool b] 26 5 false true)] = [some (Box.mk bf [slice a0 a1 a2, slice a3 a4 a5, slice a6 a7 a8, slice a9
 ba bb, Value.bool bc] 26 5 false true), some (Box.mk be [slice al am an, slice ao ap aq, slice ar au av, slice aw ax ay, Value.bool az] 26 5 false true), some (Box.mk bd [slice a n c, slice ac ad ae, slice af ag ah,
 slice ai aj ak, Value.bool b] 26 5 false true)] ∧ [some (Tok.mk (slice aa ab d) 1), some (Tok.mk (slice aa ab d) 1)] = [some (Tok.mk (slice aa ab d) 1), some (Tok.mk (slice aa ab d) 1)] ∧ [Value.bool false] =
 [Value.bool bj]) ∧ ∃ (m'' : Mem), Mem.le m m'' ∧ Mem.le m'' m' ∧ R (Value.bool bj) m'' [])
theorem cx_law17_NfaTurns (p0a : Option Addr) (p0n p0c : Nat) (p1a : Option Addr) (p1n p1c : Nat) (m : Mem) (R : RT) (h : VC_law17_NfaTurns p0a p0n p0c p1a p1n p1c m R) : CX Try.prog 5 #[.slice p0a p0n p0c, .slice p1a p1n p1c] m [] R :=
 CX_of_FW (E := E_law17_NfaTurns) EB_ok mix Try.func5 [.v (.slice p0a p0n p0c), .v (.slice p1a p1n p1c)] [] (by kernel_rfl) (Eq.mp (by kernel_rfl) h)
end Go.Proofs.Ytplacemlpkhmfaa

