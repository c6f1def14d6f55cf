/- Part of the proof: conditions and contracts of functions of this program. No condition of its own. -/
import Derived.Test.YtmggihkjgbnhbaaPEnv
/- Conditions of functions of this seat's program, as they were printed by a program, and the contracts that follow from them. -/
set_option linter.unusedVariables false
namespace Go.Proofs.Ytmggihkjgbnhbaa
open Go Go.Eng Go.Proofs Go.RowKit
open Go.Value (int slice agg)
open Go.IntKind (u8 u64 i64)
set_option maxRecDepth 100000
noncomputable def E_law15_FactorWrong : Env := { EB with
  loops := (fun i => bif Nat.beq i 14 then ⟨[(107, .int .i64)], [], [], false⟩ else bif Nat.beq i 24 then ⟨[(30, .slice), (148, .int .i64)], [], [(160, 4)], false⟩ else bif Nat.beq i 31 then ⟨[(164, .int .i64)], [], [], false⟩ else ⟨[], [], [], false⟩)
  joins := (fun i => bif Nat.beq i 35 then some [(200, .bool)] else none)
  tokOf := (fun i => bif Nat.beq i 160 then 160 else 0)
  gb := true }
abbrev X0_law15_FactorWrong : Option Addr → Nat → Nat → Nat → List Value := fun (a : Option Addr) (n c b : Nat) => [int u8 (0 : Int), int u64 (0 : Int), int u64 (0 : Int), int u64 (0 : Int), int u64 (0 : Int), int i64
 (0 : Int), int i64 (0 : Int), slice none (0 : Nat) (0 : Nat), int u8 (4 : Int), int u64 (0 : Int), int u64 (0 : Int), int u64 (0 : Int), int u64 (0 : Int), int i64 (0 : Int), int i64 (0 : Int), slice (some (Addr.mk b (0
 : Nat) none)) (1 : Nat) (1 : Nat), int u8 (3 : Int), int u64 (0 : Int), int u64 (0 : Int), int u64 (0 : Int), int u64 (0 : Int), int i64 (0 : Int), int i64 (0 : Int), slice a n c, int u8 (2 : Int), int u64 (0 : Int),
 int u64 (0 : Int), int u64 (0 : Int), int u64 (0 : Int), int i64 (0 : Int), int i64 (0 : Int), slice none (0 : Nat) (0 : Nat)]
abbrev X1_law15_FactorWrong : Int → Int → Int → Int → Int → Int → Int → Nat → Option Box := fun (n ab ac ad ae af ag : Int) (b : Nat) => some (Box.mk b [int i64 n, int i64 ab, int i64 ac, int i64 ad, int i64 ae, int i64
 af, int i64 ag] (33 : TypeId) (7 : Nat) true true)
abbrev X2_law15_FactorWrong : Int → Int → Int → Int → Int → Int → Int → Option Addr → Nat → Nat → Nat → Option Box := fun (n ab ac ad ae af ag : Int) (a : Option Addr) (aj c b : Nat) => some (Box.mk b [int u8 n, int u64
 ab, int u64 ac, int u64 ad, int u64 ae, int i64 af, int i64 ag, slice a aj c] (30 : Nat) (8 : Nat) false true)
abbrev X3_law15_FactorWrong : Int → Int → Int → Int → Nat → Option Box := fun (n ab ac ad : Int) (b : Nat) => some (Box.mk b [int i64 n, int i64 ab, int i64 ac, int i64 ad] (51 : Nat) (4 : Nat) false true)
abbrev X4_law15_FactorWrong : Int → Option Addr → Nat → Nat → Nat → Nat → Option Box := fun (p1 : Int) (a : Option Addr) (n c b ak : Nat) => some (Box.mk ak (List.take (8 : Nat) (List.drop (Int.toNat (Int.tmod p1 (4 :
 Int)) * (8 : Nat)) (X0_law15_FactorWrong a n c b))) (30 : Nat) (8 : Nat) false true)
abbrev X5_law15_FactorWrong : Option Addr → Nat → Nat → Nat → Nat → Option Box := fun (a : Option Addr) (n c b ak : Nat) => some (Box.mk ak (X0_law15_FactorWrong a n c b) (30 : TypeId) (32 : Nat) true true)
abbrev X6_law15_FactorWrong : Int → Int → Int → Int → Int → Int → Int → Option Addr → Nat → Nat → Nat → Option Box := fun (n ab ac ad ae af ag : Int) (a : Option Addr) (aj c b : Nat) => some (Box.mk b [int u8 n, int u64
 ab, int u64 ac, int u64 ad, int u64 ae, int i64 af, int i64 ag, slice a aj c] (30 : TypeId) (8 : Nat) true true)
abbrev X7_law15_FactorWrong : Int → Int → Int → Int → Int → Int → Int → Int → Option Addr → Nat → Nat → Nat → Int → Int → Int → Int → Int → Int → Int → Option Addr → Nat → Nat → Nat → Option Addr → Nat → Nat → Nat → Nat
 → Nat → Int → Int → Int → Int → Int → Int → Int → Option Addr → Nat → Nat → Int → Nat → Int → Int → Int → Int → Int → Int → Nat → Int → Int → Int → Int → Int → Int → Int → Int → Option Addr → Nat → Nat → Int → Nat → Int
 → Int → Nat → List (Option Box) := fun (p1 n ab ac ad ae af ag : Int) (a : Option Addr) (aj c b : Nat) (av aw ax ay az a0 a1 : Int) (dl : Option Addr) (a3 a4 ak : Nat) (cm : Option Addr) (ah ai aa a5 bt : Nat) (a6 a7 a8
 a9 ba bb bc : Int) (a2 : Option Addr) (bd be : Nat) (ap : Int) (bu : Nat) (cn aq bf bg bh bi : Int) (cq : Nat) (cp ar cr au bj bk bl bm : Int) (dm : Option Addr) (bn co : Nat) (bo : Int) (bv : Nat) (bp bq : Int) (bx :
 Nat) => [X1_law15_FactorWrong ap cn bi cp bo bp bq bx, X2_law15_FactorWrong ar cr au bj bk bl bm dm bn co bv, X3_law15_FactorWrong aq bf bg bh cq, X2_law15_FactorWrong a6 a7 a8 a9 ba bb bc a2 bd be bu,
 X4_law15_FactorWrong p1 cm ah ai aa bt, X5_law15_FactorWrong cm ah ai aa a5, X6_law15_FactorWrong n ab ac ad ae af ag a aj c aa, X6_law15_FactorWrong av aw ax ay az a0 a1 dl a3 a4 ak, X2_law15_FactorWrong n ab ac ad ae
 af ag a aj c b]
abbrev X8_law15_FactorWrong : Int → List Value := fun (p2 : Int) => [int i64 (0 : Int), int i64 (0 : Int), int i64 (0 : Int), int i64 (0 : Int), int i64 (if (60 : Int) > p2 then (60 : Int) else p2), int i64 (0 : Int),
 int i64 (2 : Int), int i64 (1 : Int), int i64 (if (-1 : Int) < p2 then (-1 : Int) else p2), int i64 (0 : Int), int i64 (2 : Int), int i64 (1 : Int), int i64 (0 : Int), int i64 (0 : Int), int i64 (1 : Int), int i64 (1 :
 Int), int i64 (0 : Int), int i64 (if (-1 : Int) < p2 then (-1 : Int) else p2), int i64 (2 : Int), int i64 (1 : Int), int i64 (0 : Int), int i64 (0 : Int), int i64 (if (61 : Int) > p2 then (61 : Int) else p2), int i64 (1
 : Int), int i64 (0 : Int), int i64 (0 : Int), int i64 (2 : Int), int i64 (if (0 : Int) < p2 then (0 : Int) else p2), int i64 (0 : Int), int i64 (0 : Int), int i64 (2 : Int), int i64 (if (61 : Int) > p2 then (61 : Int)
 else p2)]
abbrev X9_law15_FactorWrong : Int → Nat → Option Box := fun (p2 : Int) (b : Nat) => some (Box.mk b (X8_law15_FactorWrong p2) (51 : TypeId) (32 : Nat) true true)
abbrev X10_law15_FactorWrong : Int → Int → Int → Int → Int → Int → Int → Int → Int → Option Addr → Nat → Nat → Nat → Int → Int → Int → Int → Int → Int → Int → Option Addr → Nat → Nat → Nat → Option Addr → Nat → Nat →
 Nat → Nat → Nat → Int → Int → Int → Int → Int → Int → Int → Option Addr → Nat → Nat → Int → Nat → Int → Int → Int → Int → Int → Int → Nat → Int → Int → Int → Int → Int → Int → Int → Int → Option Addr → Nat → Nat → Int →
 Nat → Int → Int → Nat → Nat → List (Option Box) := fun (p1 p2 n ab ac ad ae af ag : Int) (a : Option Addr) (aj c b : Nat) (av aw ax ay az a0 a1 : Int) (dl : Option Addr) (a3 a4 ak : Nat) (cm : Option Addr) (ah ai aa a5
 bt : Nat) (a6 a7 a8 a9 ba bb bc : Int) (a2 : Option Addr) (bd be : Nat) (ap : Int) (bu : Nat) (cn aq bf bg bh bi : Int) (cq : Nat) (cp ar cr au bj bk bl bm : Int) (dm : Option Addr) (bn co : Nat) (bo : Int) (bv : Nat)
 (bp bq : Int) (bx bs : Nat) => [X9_law15_FactorWrong p2 bs, X1_law15_FactorWrong ap cn bi cp bo bp bq bx, X2_law15_FactorWrong ar cr au bj bk bl bm dm bn co bv, X3_law15_FactorWrong aq bf bg bh cq, X2_law15_FactorWrong
 a6 a7 a8 a9 ba bb bc a2 bd be bu, X4_law15_FactorWrong p1 cm ah ai aa bt, X5_law15_FactorWrong cm ah ai aa a5, X6_law15_FactorWrong n ab ac ad ae af ag a aj c aa, X6_law15_FactorWrong av aw ax ay az a0 a1 dl a3 a4 ak,
 X2_law15_FactorWrong n ab ac ad ae af ag a aj c b]
abbrev X11_law15_FactorWrong : Value → Value → Value → Value → Nat → Option Box := fun (v an ao al : Value) (b : Nat) => some (Box.mk b [v, an, ao, al] (51 : Nat) (4 : Nat) false true)
abbrev X12_law15_FactorWrong : Int → Int → Int → Int → Int → Int → Int → Int → Int → Option Addr → Nat → Nat → Nat → Int → Int → Int → Int → Int → Int → Int → Option Addr → Nat → Nat → Nat → Option Addr → Nat → Nat →
 Nat → Nat → Nat → Int → Int → Int → Int → Int → Int → Int → Option Addr → Nat → Nat → Int → Nat → Int → Int → Int → Int → Int → Int → Nat → Int → Int → Int → Int → Int → Int → Int → Int → Option Addr → Nat → Nat → Int →
 Nat → Int → Int → Nat → Nat → Value → Value → Value → Value → Nat → Int → Int → Int → Int → Int → Int → Int → Option Addr → Nat → Nat → Nat → List (Option Box) := fun (p1 p2 n ab ac ad ae af ag : Int) (a : Option Addr)
 (aj c b : Nat) (av aw ax ay az a0 a1 : Int) (dl : Option Addr) (a3 a4 ak : Nat) (cm : Option Addr) (ah ai aa a5 bt : Nat) (a6 a7 a8 a9 ba bb bc : Int) (a2 : Option Addr) (bd be : Nat) (ap : Int) (bu : Nat) (cn aq bf bg
 bh bi : Int) (cq : Nat) (cp ar cr au bj bk bl bm : Int) (dm : Option Addr) (bn co : Nat) (bo : Int) (bv : Nat) (bp bq : Int) (bx bs : Nat) (v an ao al : Value) (ce : Nat) (bw dw bz dx ca cs ds : Int) (ea : Option Addr)
 (cg dv ct : Nat) => [X2_law15_FactorWrong bw dw bz dx ca cs ds ea cg dv ct, X11_law15_FactorWrong v an ao al ce, X9_law15_FactorWrong p2 bs, X1_law15_FactorWrong ap cn bi cp bo bp bq bx, X2_law15_FactorWrong ar cr au bj
 bk bl bm dm bn co bv, X3_law15_FactorWrong aq bf bg bh cq, X2_law15_FactorWrong a6 a7 a8 a9 ba bb bc a2 bd be bu, X4_law15_FactorWrong p1 cm ah ai aa bt, X5_law15_FactorWrong cm ah ai aa a5, X6_law15_FactorWrong n ab ac
 ad ae af ag a aj c aa, X6_law15_FactorWrong av aw ax ay az a0 a1 dl a3 a4 ak, X2_law15_FactorWrong n ab ac ad ae af ag a aj c b]
def VC_law15_FactorWrong (p0a : Option Addr) (p0n p0c : Nat) (p1 : Int) (p2 : Int) (m : Mem) (R : Value → Mem → List (List Value) → Prop) : Prop :=
 ∃ (R_1 : RT), True ∧ CX Try.prog (8 : Nat) (Array.mk []) m [] R_1 ∧ Fits Shape.bool R_1 ∧ ∀ (b : Bool) (m' : Mem), Mem.le m m' → R_1 (Value.bool b) m' [] → br (!b) (∃ (m'' : Mem), Mem.le m m'' ∧ Mem.le m'' m' ∧ R
 (Value.bool false) m'' []) (∃ (R_2 : RT), True ∧ CX Try.prog (19 : Nat) (Array.mk [slice p0a p0n p0c]) m' [] R_2 ∧ Fits (shT) R_2 ∧ ∀ (n ab ac ad ae af ag : Int) (a : Option Addr) (aj c : Nat) (dn : Mem), Mem.le m' dn →
 R_2 (agg (Array.mk [int u8 n, int u64 ab, int u64 ac, int u64 ad, int u64 ae, int i64 af, int i64 ag, slice a aj c])) dn [] → ∀ (b : Nat), ∃ (R_3 : RT), True ∧ CX Try.prog (31 : Nat) (Array.mk [int u8 (97 : Int)]) dn []
 R_3 ∧ Fits (shT) R_3 ∧ ∀ (av aw ax ay az a0 a1 : Int) (a2 : Option Addr) (a3 a4 : Nat) (m' : Mem), Mem.le dn m' → R_3 (agg (Array.mk [int u8 av, int u64 aw, int u64 ax, int u64 ay, int u64 az, int i64 a0, int i64 a1,
 slice a2 a3 a4])) m' [] → ∀ (ak : Nat), Mem.free m' ak → ∃ (R_4 : RT), True ∧ CX Try.prog (30 : Nat) (Array.mk [slice (some (Addr.mk ak (0 : Nat) none)) (1 : Nat) (1 : Nat), int i64 (120 : Int)]) (Mem.add m' ak [int u8
 av, int u64 aw, int u64 ax, int u64 ay, int u64 az, int i64 a0, int i64 a1, slice a2 a3 a4]) [] R_4 ∧ Fits Shape.slice R_4 ∧ ∀ (am : Option Addr) (ah ai : Nat) (cw : Mem), Mem.le (Mem.add m' ak [int u8 av, int u64 aw,
 int u64 ax, int u64 ay, int u64 az, int i64 a0, int i64 a1, slice a2 a3 a4]) cw → R_4 (slice am ah ai) cw [] → ∀ (aa : Nat), Mem.free cw aa → ∀ (a5 : Nat), Mem.free (Mem.add cw aa [int u8 n, int u64 ab, int u64 ac, int
 u64 ad, int u64 ae, int i64 af, int i64 ag, slice a aj c]) a5 → (4 : Int) ≠ (0 : Int) ∧ inRange (Int.tmod p1 (4 : Int)) (4 : Nat) ∧ chk (Nat.ble (Int.toNat (Int.tmod p1 (4 : Int)) * (8 : Nat)) ((9 : Nat) + (1 : Nat) +
 (1 : Nat) + (1 : Nat) + (1 : Nat) + (1 : Nat) + (1 : Nat) + (1 : Nat) + (1 : Nat) + (1 : Nat) + (1 : Nat) + (1 : Nat) + (1 : Nat) + (1 : Nat) + (1 : Nat) + (1 : Nat))) (∀ (bt : Nat), chk (Nat.beq (List.length (List.take
 (8 : Nat) (List.drop (Int.toNat (Int.tmod p1 (4 : Int)) * (8 : Nat)) (X0_law15_FactorWrong am ah ai aa)))) (8 : Nat) && onesL (List.take (8 : Nat) (List.drop (Int.toNat (Int.tmod p1 (4 : Int)) * (8 : Nat))
 (X0_law15_FactorWrong am ah ai aa)))) (∃ (R_5 : RT), True ∧ CX Try.prog (13 : Nat) (Array.mk [agg (Array.mk (List.take (8 : Nat) (List.drop (Int.toNat (Int.tmod p1 (4 : Int)) * (8 : Nat)) (X0_law15_FactorWrong am ah ai
 aa))))]) (Mem.add (Mem.add cw aa [int u8 n, int u64 ab, int u64 ac, int u64 ad, int u64 ae, int i64 af, int i64 ag, slice a aj c]) a5 (X0_law15_FactorWrong am ah ai aa)) [] R_5 ∧ Fits (Shape.tup [shT, Shape.int i64])
 R_5 ∧ ∀ (a6 a7 a8 a9 ba bb bc : Int) (ci : Option Addr) (bd be : Nat) (ap : Int) (m' : Mem), Mem.le (Mem.add (Mem.add cw aa [int u8 n, int u64 ab, int u64 ac, int u64 ad, int u64 ae, int i64 af, int i64 ag, slice a aj
 c]) a5 (X0_law15_FactorWrong am ah ai aa)) m' → R_5 (Value.tuple (Array.mk [agg (Array.mk [int u8 a6, int u64 a7, int u64 a8, int u64 a9, int u64 ba, int i64 bb, int i64 bc, slice ci bd be]), int i64 ap])) m' [] → ∀ (bu
 : Nat), ∃ (R_6 : RT), True ∧ CX Try.prog (23 : Nat) (Array.mk [agg (Array.mk (List.take (8 : Nat) (List.drop (Int.toNat (Int.tmod p1 (4 : Int)) * (8 : Nat)) (X0_law15_FactorWrong am ah ai aa))))]) m' [] R_6 ∧ Fits
 (Shape.tup [Shape.slice, Shape.int i64]) R_6 ∧ ∀ (d6 : Option Addr) (cn co : Nat) (aq : Int) (dp : Mem), Mem.le m' dp → R_6 (Value.tuple (Array.mk [slice d6 cn co, int i64 aq])) dp [] → ∃ (R_7 : RT), True ∧ CX Try.prog
 (24 : Nat) (Array.mk [agg (Array.mk (List.take (8 : Nat) (List.drop (Int.toNat (Int.tmod p1 (4 : Int)) * (8 : Nat)) (X0_law15_FactorWrong am ah ai aa))))]) dp [] R_7 ∧ Fits (Shape.tup [Shape.agg [Shape.int i64,
 Shape.int i64, Shape.int i64, Shape.int i64], Shape.int i64, Shape.bool, Shape.int i64]) R_7 ∧ ∀ (bf bg bh bi cp : Int) (cq : Bool) (ar : Int) (m' : Mem), Mem.le dp m' → R_7 (Value.tuple (Array.mk [agg (Array.mk [int
 i64 bf, int i64 bg, int i64 bh, int i64 bi]), int i64 cp, Value.bool cq, int i64 ar])) m' [] → ∀ (bv : Nat), ∃ (R_8 : RT), True ∧ CX Try.prog (27 : Nat) (Array.mk [agg (Array.mk (List.take (8 : Nat) (List.drop
 (Int.toNat (Int.tmod p1 (4 : Int)) * (8 : Nat)) (X0_law15_FactorWrong am ah ai aa))))]) m' [] R_8 ∧ Fits (Shape.tup [Shape.slice, Shape.int i64]) R_8 ∧ ∀ (d7 : Option Addr) (cr dv : Nat) (au : Int) (dq : Mem), Mem.le m'
 dq → R_8 (Value.tuple (Array.mk [slice d7 cr dv, int i64 au])) dq [] → ∃ (R_9 : RT), True ∧ CX Try.prog (26 : Nat) (Array.mk [agg (Array.mk (List.take (8 : Nat) (List.drop (Int.toNat (Int.tmod p1 (4 : Int)) * (8 : Nat))
 (X0_law15_FactorWrong am ah ai aa)))), agg (Array.mk [int i64 (0 : Int), int i64 (0 : Int), int i64 (2 : Int), int i64 (1 : Int)])]) dq [] R_9 ∧ Fits (Shape.tup [shT, Shape.int i64]) R_9 ∧ ∀ (bj bk bl bm bn bo bp : Int)
 (cj : Option Addr) (bq ck : Nat) (bw : Int) (m' : Mem), Mem.le dq m' → R_9 (Value.tuple (Array.mk [agg (Array.mk [int u8 bj, int u64 bk, int u64 bl, int u64 bm, int u64 bn, int i64 bo, int i64 bp, slice cj bq ck]), int
 i64 bw])) m' [] → ∀ (bx : Nat), ∃ (R_10 : RT), True ∧ CX Try.prog (25 : Nat) (Array.mk [agg (Array.mk (List.take (8 : Nat) (List.drop (Int.toNat (Int.tmod p1 (4 : Int)) * (8 : Nat)) (X0_law15_FactorWrong am ah ai
 aa)))), agg (Array.mk [int i64 (0 : Int), int i64 (0 : Int), int i64 (2 : Int), int i64 (1 : Int)])]) m' [] R_10 ∧ Fits (Shape.tup [Shape.int i64, Shape.int i64]) R_10 ∧ ∀ (dw bz : Int) (dr : Mem), Mem.le m' dr → R_10
 (Value.tuple (Array.mk [int i64 dw, int i64 bz])) dr [] → ∃ (R_11 : RT), True ∧ CX Try.prog (14 : Nat) (Array.mk [agg (Array.mk (List.take (8 : Nat) (List.drop (Int.toNat (Int.tmod p1 (4 : Int)) * (8 : Nat))
 (X0_law15_FactorWrong am ah ai aa))))]) dr [] R_11 ∧ Fits (Shape.tup [Shape.slice, Shape.int i64]) R_11 ∧ ∀ (d8 : Option Addr) (dx d9 : Nat) (ca : Int) (m' : Mem), Mem.le dr m' → R_11 (Value.tuple (Array.mk [slice d8 dx
 d9, int i64 ca])) m' [] → ∀ (bs : Nat), Mem.free m' bs → ∃ (I : IT), (∃ (n : Nat), I [int i64 (0 : Int)] [] [] (Mem.add m' bs [int i64 ap, int i64 aq, int i64 ar, int i64 au, int i64 bw, int i64 bz, int i64 ca]) n) ∧ ∀
 (cs : Int) (cx : Mem) (ds : Nat), Mem.le (Mem.add m' bs [int i64 ap, int i64 aq, int i64 ar, int i64 au, int i64 bw, int i64 bz, int i64 ca]) cx → I [int i64 cs] [] [] cx ds → br (decide (cs < (↑(7 : Nat) : Int)))
 (inRange cs (7 : Nat) ∧ Eng.look [int i64 ap, int i64 aq, int i64 ar, int i64 au, int i64 bw, int i64 bz, int i64 ca] (Int.toNat cs * (1 : Nat)) fun (v : Value) => chk (isInt i64 v && decide (i64 = i64)) (br
 (!RowKit.intOf v == (2 : Int)) (∃ (m'' : Mem), Mem.le m m'' ∧ Mem.le m'' cx ∧ R (Value.bool false) m'' []) (sameBx (X7_law15_FactorWrong p1 n ab ac ad ae af ag a aj c b av aw ax ay az a0 a1 a2 a3 a4 ak am ah ai aa a5 bt
 a6 a7 a8 a9 ba bb bc ci bd be ap bu aq bf bg bh bi ar bv au bj bk bl bm bn bo bp cj bq ck bw bx bz ca bs) ∧ ∃ (n' : Nat), n' < ds ∧ I [int i64 (IntKind.wrap i64 (cs + (1 : Int)))] [] [] cx n'))) (∃ (R_12 : RT), True ∧
 CX Try.prog (27 : Nat) (Array.mk [agg (Array.mk [int u8 n, int u64 ab, int u64 ac, int u64 ad, int u64 ae, int i64 af, int i64 ag, slice a aj c])]) cx [] R_12 ∧ Fits (Shape.tup [Shape.slice, Shape.int i64]) R_12 ∧ ∀ (dz
 : Option Addr) (cg dy : Nat) (d0 : Int) (m' : Mem), Mem.le cx m' → R_12 (Value.tuple (Array.mk [slice dz cg dy, int i64 d0])) m' [] → br (!d0 == (0 : Int)) (∃ (m'' : Mem), Mem.le m m'' ∧ Mem.le m'' m' ∧ R (Value.bool
 false) m'' []) (∀ (ce : Nat), Mem.free m' ce → (((0 : Int) ≤ if (20 : Int) < (↑cg : Int) then (20 : Int) else (↑cg : Int)) ∧ (if (20 : Int) < (↑cg : Int) then (20 : Int) else (↑cg : Int)) ≤ (↑dy : Int)) ∧ ∃ (I : IT), (∃
 (n : Nat), I [slice (some (Addr.mk ce (0 : Nat) none)) (8 : Nat) (8 : Nat), int i64 (0 : Int)] [] [slice none (0 : Nat) (0 : Nat)] (Mem.add m' ce (X8_law15_FactorWrong p2)) n) ∧ ∀ (di : Option Addr) (ch dt : Nat) (dj :
 Int) (cb : Option Addr) (cc cd : Nat) (cl : Mem) (d1 : Nat), Mem.le (Mem.add m' ce (X8_law15_FactorWrong p2)) cl → I [slice di ch dt, int i64 dj] [] [slice cb cc cd] cl d1 → br (decide (dj < (↑(Int.toNat (if (20 : Int)
 < (↑cg : Int) then (20 : Int) else (↑cg : Int)) - (0 : Nat)) : Int))) (∃ (ct : Nat), ∃ (o : Nat), slBase dz (0 : Nat) dy (4 : Nat) = some (Addr.mk ct o none) ∧ inRange dj (Int.toNat (if (20 : Int) < (↑cg : Int) then (20
 : Int) else (↑cg : Int)) - (0 : Nat)) ∧ ∃ (v : Value), ∃ (an : Value), ∃ (ao : Value), ∃ (al : Value), Mem.reads cl ct (o + Int.toNat dj * (4 : Nat)) [v, an, ao, al] ∧ ∀ (cy : Nat), chk (Value.oneCell' v &&
 (Value.oneCell' an && (Value.oneCell' ao && (Value.oneCell' al && true)))) (∀ (cz : Nat), chk (Value.oneCell' v && (Value.oneCell' an && (Value.oneCell' ao && (Value.oneCell' al && true)))) (chk (isInt i64 al && decide
 (i64 = i64)) (∀ (cf : Nat), Mem.free cl cf → (Tok.mk (slice cb cc cd) (4 : Nat) = Tok.mk (slice di ch dt) (4 : Nat) ∨ slice di ch dt = slice none (0 : Nat) (0 : Nat) ∨ dt < ch + (1 : Nat)) ∧ ∃ (xs : List Value), ∃ (ys :
 List Value), List.length xs = ch * (4 : Nat) ∧ List.length ys = (1 : Nat) * (4 : Nat) ∧ rowRd (Mem.add cl cf [v, an, ao, int i64 (IntKind.wrap i64 (RowKit.intOf al + (1 : Int)))]) di xs ∧ rowRd (Mem.add cl cf [v, an,
 ao, int i64 (IntKind.wrap i64 (RowKit.intOf al + (1 : Int)))]) (some (Addr.mk cf (0 : Nat) none)) ys ∧ (∀ (u : Value), u ∈ ys → Value.oneCell' u = true) ∧ (ch + (1 : Nat)) * (32 : Nat) ≤ (140737488355328 : Nat) ∧ ch +
 (1 : Nat) ≤ (9223372036854775807 : Nat) ∧ ∀ (a' : Option Addr) (c' : Nat) (m' : Mem), Mem.le (Mem.add cl cf [v, an, ao, int i64 (IntKind.wrap i64 (RowKit.intOf al + (1 : Int)))]) m' → rowRd m' a' (List.append xs ys) →
 sameBx (X10_law15_FactorWrong p1 p2 n ab ac ad ae af ag a aj c b av aw ax ay az a0 a1 a2 a3 a4 ak am ah ai aa a5 bt a6 a7 a8 a9 ba bb bc ci bd be ap bu aq bf bg bh bi ar bv au bj bk bl bm bn bo bp cj bq ck bw bx bz ca
 bs ce) ∧ ∃ (n' : Nat), n' < d1 ∧ I [slice a' (ch + (1 : Nat)) c', int i64 (IntKind.wrap i64 (dj + (1 : Int)))] [] [slice a' (ch + (1 : Nat)) c'] m' n')))) (∃ (I : IT), (∃ (n : Nat), I [int i64 (0 : Int)] [] [] cl n) ∧ ∀
 (dk : Int) (m' : Mem) (d2 : Nat), Mem.le cl m' → I [int i64 dk] [] [] m' d2 → br (decide (dk < (↑ch : Int))) (∃ (ct : Nat), ∃ (o : Nat), di = some (Addr.mk ct o none) ∧ inRange dk ch ∧ ∃ (v : Value), ∃ (an : Value), ∃
 (ao : Value), ∃ (al : Value), Mem.reads m' ct (o + Int.toNat dk * (4 : Nat)) [v, an, ao, al] ∧ ∀ (cy : Nat), chk (Value.oneCell' v && (Value.oneCell' an && (Value.oneCell' ao && (Value.oneCell' al && true)))) (∃ (R_13 :
 RT), True ∧ CX Try.prog (26 : Nat) (Array.mk [agg (Array.mk [int u8 n, int u64 ab, int u64 ac, int u64 ad, int u64 ae, int i64 af, int i64 ag, slice a aj c]), agg (Array.mk [v, an, ao, al])]) m' [] R_13 ∧ Fits
 (Shape.tup [shT, Shape.int i64]) R_13 ∧ ∀ (cu da db dc dd de df : Int) (dg : Option Addr) (cv dh : Nat) (d3 : Int) (du : Mem), Mem.le m' du → R_13 (Value.tuple (Array.mk [agg (Array.mk [int u8 cu, int u64 da, int u64
 db, int u64 dc, int u64 dd, int i64 de, int i64 df, slice dg cv dh]), int i64 d3])) du [] → ∀ (cz : Nat), ∃ (R_14 : RT), True ∧ CX Try.prog (25 : Nat) (Array.mk [agg (Array.mk [int u8 n, int u64 ab, int u64 ac, int u64
 ad, int u64 ae, int i64 af, int i64 ag, slice a aj c]), agg (Array.mk [v, an, ao, al])]) du [] R_14 ∧ Fits (Shape.tup [Shape.int i64, Shape.int i64]) R_14 ∧ ∀ (d4 d5 : Int) (m' : Mem), Mem.le du m' → R_14 (Value.tuple
 (Array.mk [int i64 d4, int i64 d5])) m' [] → ∃ (cf : Bool), br (!d3 == (150 : Int)) (sameBx (X12_law15_FactorWrong p1 p2 n ab ac ad ae af ag a aj c b av aw ax ay az a0 a1 a2 a3 a4 ak am ah ai aa a5 bt a6 a7 a8 a9 ba bb
 bc ci bd be ap bu aq bf bg bh bi ar bv au bj bk bl bm bn bo bp cj bq ck bw bx bz ca bs ce v an ao al cy cu da db dc dd de df dg cv dh cz) ∧ [some (Tok.mk (slice cb cc cd) (4 : Nat))] = [some (Tok.mk (slice cb cc cd) (4
 : Nat))] ∧ [Value.bool true] = [Value.bool cf]) (br (!d5 == (150 : Int)) (sameBx (X12_law15_FactorWrong p1 p2 n ab ac ad ae af ag a aj c b av aw ax ay az a0 a1 a2 a3 a4 ak am ah ai aa a5 bt a6 a7 a8 a9 ba bb bc ci bd be
 ap bu aq bf bg bh bi ar bv au bj bk bl bm bn bo bp cj bq ck bw bx bz ca bs ce v an ao al cy cu da db dc dd de df dg cv dh cz) ∧ [some (Tok.mk (slice cb cc cd) (4 : Nat))] = [some (Tok.mk (slice cb cc cd) (4 : Nat))] ∧
 [Value.bool true] = [Value.bool cf]) (br (!d4 == (0 : Int)) (sameBx (X12_law15_FactorWrong p1 p2 n ab ac ad ae af ag a aj c b av aw ax ay az a0 a1 a2 a3 a4 ak am ah ai aa a5 bt a6 a7 a8 a9 ba bb bc ci bd be ap bu aq bf
 bg bh bi ar bv au bj bk bl bm bn bo bp cj bq ck bw bx bz ca bs ce v an ao al cy cu da db dc dd de df dg cv dh cz) ∧ [some (Tok.mk (slice cb cc cd) (4 : Nat))] = [some (Tok.mk (slice cb cc cd) (4 : Nat))] ∧ [Value.bool
 true] = [Value.bool cf]) (br (!cu == (0 : Int)) (sameBx (X12_law15_FactorWrong p1 p2 n ab ac ad ae af ag a aj c b av aw ax ay az a0 a1 a2 a3 a4 ak am ah ai aa a5 bt a6 a7 a8 a9 ba bb bc ci bd be ap bu aq bf bg bh bi ar
 bv au bj bk bl bm bn bo bp cj bq ck bw bx bz ca bs ce v an ao al cy cu da db dc dd de df dg cv dh cz) ∧ [some (Tok.mk (slice cb cc cd) (4 : Nat))] = [some (Tok.mk (slice cb cc cd) (4 : Nat))] ∧ [Value.bool true] =
 [Value.bool cf]) (sameBx (X12_law15_FactorWrong p1 p2 n ab ac ad ae af ag a aj c b av aw ax ay az a0 a1 a2 a3 a4 ak am ah ai aa a5 bt a6 a7 a8 a9 ba bb bc ci bd be ap bu aq bf bg bh bi ar bv au bj bk bl bm bn bo bp cj
 bq ck bw bx bz ca bs ce v an ao al cy cu da db dc dd de df dg cv dh cz) ∧ [some (Tok.mk (slice cb cc cd) (4 : Nat))] = [some (Tok.mk (slice cb cc cd) (4 : Nat))] ∧ [Value.bool !(↑cv : Int) == (0 : Int)] = [Value.bool
 cf])))) ∧ br cf (∃ (m'' : Mem), Mem.le m m'' ∧ Mem.le m'' m' ∧ R (Value.bool false) m'' []) (sameBx (X10_law15_FactorWrong p1 p2 n ab ac ad ae af ag a aj c b av aw ax ay az a0 a1 a2 a3 a4 ak am ah ai aa a5 bt a6 a7 a8
 a9 ba bb bc ci bd be ap bu aq bf bg bh bi ar bv au bj bk bl bm bn bo bp cj bq ck bw bx bz ca bs ce) ∧ [some (Tok.mk (slice cb cc cd) (4 : Nat))] = [some (Tok.mk (slice cb cc cd) (4 : Nat))] ∧ ∃ (n' : Nat), n' < d2 ∧ I
 [int i64 (IntKind.wrap i64 (dk + (1 : Int)))] [] [] m' n'))) (∃ (m'' : Mem), Mem.le m m'' ∧ Mem.le m'' m' ∧ R (Value.bool true) m'' [])))))))
theorem VC_law15_FactorWrong_eq (p0a : Option Addr) (p0n p0c : Nat) (p1 : Int) (p2 : Int) (m : Mem) (R : Value → Mem → List (List Value) → Prop) : VC_law15_FactorWrong p0a p0n p0c p1 p2 m R = FW E_law15_FactorWrong Try.f7 [.v (.slice p0a p0n p0c), .v (.int .u8 p1), .v (.int .i64 p2)] [] m R := by kernel_rfl
theorem cx_law15_FactorWrong (p0a : Option Addr) (p0n p0c : Nat) (p1 : Int) (p2 : Int) (m : Mem) (R : Value → Mem → List (List Value) → Prop) (h : VC_law15_FactorWrong p0a p0n p0c p1 p2 m R) : CX Try.prog 7 #[.slice p0a p0n p0c, .int .u8 p1, .int .i64 p2] m [] R :=
  CX_of_FW (E := E_law15_FactorWrong) (fun t i h => EB_ok t i h) mix Try.func7 [.v (.slice p0a p0n p0c), .v (.int .u8 p1), .v (.int .i64 p2)] [] (by kernel_rfl) ((VC_law15_FactorWrong_eq p0a p0n p0c p1 p2 m R).mp h)
end Go.Proofs.Ytmggihkjgbnhbaa

