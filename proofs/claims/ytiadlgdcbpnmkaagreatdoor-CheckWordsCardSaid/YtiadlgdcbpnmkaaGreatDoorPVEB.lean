/- Part of the proof: conditions and contracts of functions of this program. No condition of its own. -/
import Derived.Test.YtiadlgdcbpnmkaaGreatDoorPEnv
set_option linter.unusedVariables false
namespace Go.Proofs.YtiadlgdcbpnmkaaGreatDoor
open Go Go.Eng Go.Proofs Go.RowKit
open Go.Value (int slice agg bool string tuple func)
open Go.IntKind (u8 u64 i64)
set_option maxRecDepth 100000
noncomputable def E_ast_nodes : Env := { EB with
 frzNew := [1] }
def VC_ast_nodes (p0_0 : Int) (p0_1 : Value) (p0_2 : ByteArray) (p0_3 : Int) (p0_4a : Option Addr) (p0_4n p0_4c : Nat) (m : Mem) (R : RT) : Prop :=
 ∀ (b : Nat) (m' : Mem), Mem.le m m' → Mem.reads m' b 0 [int u8 p0_0, p0_1, string p0_2, int i64 p0_3, slice p0_4a p0_4n p0_4c] → ∃ (R_1 : RT), True ∧ CX Tryz.prog 45 (Array.mk [agg (Array.mk [int u8 p0_0, p0_1, string
 p0_2, int i64 p0_3, slice p0_4a p0_4n p0_4c])]) m' [] R_1 ∧ Fits Shape.bool R_1 ∧ ∀ (b : Bool) (m'_1 : Mem), Mem.le m' m'_1 → R_1 (bool b) m'_1 [] → br (!b) (∃ (m'' : Mem), Mem.le m m'' ∧ Mem.le m'' m'_1 ∧ R (int i64
 20001) m'' []) (∃ (R_2 : RT), True ∧ CX Tryz.prog 46 (Array.mk [agg (Array.mk [int u8 p0_0, p0_1, string p0_2, int i64 p0_3, slice p0_4a p0_4n p0_4c])]) m'_1 [] R_2 ∧ Fits (Shape.int i64) R_2 ∧ ∀ (n : Int) (m' : Mem),
 Mem.le m'_1 m' → R_2 (int i64 n) m' [] → ∃ (m'' : Mem), Mem.le m m'' ∧ Mem.le m'' m' ∧ R (int i64 n) m'' [])
theorem cx_ast_nodes (p0_0 : Int) (p0_1 : Value) (p0_2 : ByteArray) (p0_3 : Int) (p0_4a : Option Addr) (p0_4n p0_4c : Nat) (m : Mem) (R : RT) (h : VC_ast_nodes p0_0 p0_1 p0_2 p0_3 p0_4a p0_4n p0_4c m R) : CX Tryz.prog 34 #[.agg #[.int .u8 p0_0, p0_1, .string p0_2, .int .i64 p0_3, .slice p0_4a p0_4n p0_4c]] m [] R :=
 CX_of_FW (E := E_ast_nodes) EB_ok mix Tryz.func34 [.v (.agg #[.int .u8 p0_0, p0_1, .string p0_2, .int .i64 p0_3, .slice p0_4a p0_4n p0_4c])] [] (by kernel_rfl) (Eq.mp (by kernel_rfl) h)
noncomputable def E_ast_Light : Env := { EB with
 loops := (fun i => bif Nat.beq i 3 then ⟨[(3, .int .i64), (22, .int .i64)], [], [], false⟩ else bif Nat.beq i 6 then ⟨[(3, .int .i64), (29, .int .i64)], [], [], false⟩ else bif Nat.beq i 12 then ⟨[(3, .int .i64), (49, .int .i64)], [], [], false⟩ else bif Nat.beq i 16 then ⟨[(3, .int .i64), (66, .int .i64)], [], [], false⟩ else ⟨[], [], [], false⟩)
 dr := (fun i => bif Nat.beq i 14 then [⟨0, [], [], none, [], []⟩, ⟨1, [9], [], none, [], []⟩, ⟨2, [9], [], none, [1], []⟩, ⟨3, [], [], none, [1, 2], []⟩, ⟨4, [], [], none, [1, 2, 3], []⟩, ⟨5, [9], [], none, [], []⟩, ⟨6, [9], [], none, [5], []⟩, ⟨7, [], [], none, [5, 6], []⟩, ⟨8, [], [], none, [1, 2, 3, 4, 5, 6, 7], []⟩, ⟨9, [], [], none, [0, 1, 2, 3, 4, 5, 6, 7, 8], []⟩, ⟨10, [], [], none, [0, 1, 2, 3, 4, 5, 6, 7, 8, 9], []⟩] else [])
 frzNew := [1]
 cuts := (fun i => bif Nat.beq i 11 then some ⟨[(3, .int .i64)], [], [], false⟩ else none) }
def VC_ast_Light (p0_0 : Int) (p0_1a : Option Addr) (p0_1n p0_1c : Nat) (p0_2a : Option Addr) (p0_2n p0_2c : Nat) (m : Mem) (R : RT) : Prop :=
 ∀ (b : Nat) (m' : Mem), Mem.le m m' → Mem.reads m' b 0 [int i64 p0_0, slice p0_1a p0_1n p0_1c, slice p0_2a p0_2n p0_2c] → ∃ (I : IT), (∃ (n : Nat), I [int i64 (IntKind.wrap i64 ((↑p0_1n : Int) + (↑p0_2n : Int))), int
 i64 0] [] [] m' n) ∧ ∀ (n a6 : Int) (a0 : Mem) (bk : Nat), Mem.le m' a0 → I [int i64 n, int i64 a6] [] [] a0 bk → br (decide (a6 < (↑p0_2n : Int))) (∃ (bl : Nat), ∃ (o : Nat), p0_2a = some (Addr.mk bl o none) ∧ inRange
 a6 p0_2n ∧ ∃ (v : Value), ∃ (aa : Value), Mem.reads a0 bl (o + Int.toNat a6 * 2) [v, aa] ∧ ∀ (al : Nat), chk (Value.oneCell' v && (Value.oneCell' aa && true)) (chk (isSl aa) (∃ (bb : IT), (∃ (ax : Nat), bb [int i64 n,
 int i64 0] [] [] a0 ax) ∧ ∀ (n ax : Int) (m' : Mem) (bm : Nat), Mem.le a0 m' → bb [int i64 n, int i64 ax] [] [] m' bm → br (decide (ax < (↑(slN aa) : Int))) (chk (isSl aa) (∃ (bn : Nat), ∃ (o : Nat), slA aa = some
 (Addr.mk bn o none) ∧ inRange ax (slN aa) ∧ ∃ (am : Value), ∃ (an : Value), ∃ (ao : Value), ∃ (ac : Value), ∃ (ad : Value), ∃ (ae : Value), ∃ (af : Value), ∃ (ag : Value), ∃ (ah : Value), ∃ (ai : Value), ∃ (aj : Value),
 ∃ (ap : Value), ∃ (aq : Value), ∃ (ab : Value), ∃ (ar : Value), ∃ (au : Value), Mem.reads m' bn (o + Int.toNat ax * 16) [am, an, ao, ac, ad, ae, af, ag, ah, ai, aj, ap, aq, ab, ar, au] ∧ ∀ (aw : Nat), chk
 (Value.oneCell' am && (Value.oneCell' an && (Value.oneCell' ao && (Value.oneCell' ac && (Value.oneCell' ad && (Value.oneCell' ae && (Value.oneCell' af && (Value.oneCell' ag && (Value.oneCell' ah && (Value.oneCell' ai &&
 (Value.oneCell' aj && (Value.oneCell' ap && (Value.oneCell' aq && (Value.oneCell' ab && (Value.oneCell' ar && (Value.oneCell' au && true)))))))))))))))) (∃ (R_1 : RT), True ∧ CX Tryz.prog 32 (Array.mk [agg (Array.mk
 [ac, ad, ae, af, ag, ah, ai, aj])]) m' [] R_1 ∧ Fits (Shape.int i64) R_1 ∧ ∀ (bc : Int) (a7 : Mem), Mem.le m' a7 → R_1 (int i64 bc) a7 [] → ∃ (J : JT), (∃ (R : RT), True ∧ CX Tryz.prog 33 (Array.mk [agg (Array.mk [ac,
 ad, ae, af, ag, ah, ai, aj])]) a7 [] R ∧ Fits Shape.bool R ∧ ∀ (a8 : Bool) (m' : Mem), Mem.le a7 m' → R (bool a8) m' [] → br (!a8) ([some (Box.mk aw [am, an, ao, ac, ad, ae, af, ag, ah, ai, aj, ap, aq, ab, ar, au] 67 16
 false true), some (Box.mk al [v, aa] 70 2 false true), some (Box.mk b [int i64 p0_0, slice p0_1a p0_1n p0_1c, slice p0_2a p0_2n p0_2c] 27 3 true true)] = [some (Box.mk aw [am, an, ao, ac, ad, ae, af, ag, ah, ai, aj, ap,
 aq, ab, ar, au] 67 16 false true), some (Box.mk al [v, aa] 70 2 false true), some (Box.mk b [int i64 p0_0, slice p0_1a p0_1n p0_1c, slice p0_2a p0_2n p0_2c] 27 3 true true)] ∧ J [int i64 20001] [] [] m') ([some (Box.mk
 aw [am, an, ao, ac, ad, ae, af, ag, ah, ai, aj, ap, aq, ab, ar, au] 67 16 false true), some (Box.mk al [v, aa] 70 2 false true), some (Box.mk b [int i64 p0_0, slice p0_1a p0_1n p0_1c, slice p0_2a p0_2n p0_2c] 27 3 true
 true)] = [some (Box.mk aw [am, an, ao, ac, ad, ae, af, ag, ah, ai, aj, ap, aq, ab, ar, au] 67 16 false true), some (Box.mk al [v, aa] 70 2 false true), some (Box.mk b [int i64 p0_0, slice p0_1a p0_1n p0_1c, slice p0_2a
 p0_2n p0_2c] 27 3 true true)] ∧ J [int i64 (IntKind.wrap i64 (n + IntKind.wrap i64 ((1 : Int) + if (20000 : Int) < bc then (20000 : Int) else bc)))] [] [] m')) ∧ ∀ (n : Int) (m' : Mem), Mem.le a7 m' → J [int i64 n] []
 [] m' → chk (isSl ab) (∃ (I : IT), (∃ (ay : Nat), I [int i64 n, int i64 0] [] [] m' ay) ∧ ∀ (n ay : Int) (av : Mem) (bo : Nat), Mem.le m' av → I [int i64 n, int i64 ay] [] [] av bo → br (decide (ay < (↑(slN ab) : Int)))
 (chk (isSl ab) (∃ (a8 : Nat), ∃ (o : Nat), slA ab = some (Addr.mk a8 o none) ∧ inRange ay (slN ab) ∧ ∃ (a9 : Value), ∃ (ba : Value), ∃ (ak : Value), ∃ (a1 : Value), ∃ (a2 : Value), ∃ (a3 : Value), ∃ (a4 : Value), ∃ (a5
 : Value), Mem.reads av a8 (o + Int.toNat ay * 8) [a9, ba, ak, a1, a2, a3, a4, a5] ∧ ∀ (bp : Nat), chk (Value.oneCell' a9 && (Value.oneCell' ba && (Value.oneCell' ak && (Value.oneCell' a1 && (Value.oneCell' a2 &&
 (Value.oneCell' a3 && (Value.oneCell' a4 && (Value.oneCell' a5 && true)))))))) (∃ (f : Fx), ∃ (R_2 : RT), R_2 = f 3 [agg (Array.mk [a1, a2, a3, a4, a5])] av ∧ CX Tryz.prog 34 (Array.mk [agg (Array.mk [a1, a2, a3, a4,
 a5])]) av [] R_2 ∧ Fits (Shape.int i64) R_2 ∧ ∀ (bq : Int) (m' : Mem), Mem.le av m' → R_2 (int i64 bq) m' [] → chk (isSl ak) (∀ (M : Mem), Mem.le av M → Mem.le m' M → chk (isSl ak) (∃ (bd : IT), (∃ (az : Nat), bd [int
 i64 (IntKind.wrap i64 (n + IntKind.wrap i64 (IntKind.wrap i64 ((1 : Int) + bq) + (↑(slN ak) : Int)))), int i64 0] [] [] M az) ∧ ∀ (n az : Int) (m' : Mem) (bs : Nat), Mem.le M m' → bd [int i64 n, int i64 az] [] [] m' bs
 → br (decide (az < (↑(slN ak) : Int))) (chk (isSl ak) (∃ (bt : Nat), ∃ (o : Nat), slA ak = some (Addr.mk bt o none) ∧ inRange az (slN ak) ∧ ∃ (bu : Value), ∃ (bv : Value), ∃ (bw : Value), ∃ (be : Value), ∃ (bf : Value),
 ∃ (bg : Value), ∃ (bh : Value), ∃ (bi : Value), Mem.reads m' bt (o + Int.toNat az * 8) [bu, bv, bw, be, bf, bg, bh, bi] ∧ ∀ (bz : Nat), chk (Value.oneCell' bu && (Value.oneCell' bv && (Value.oneCell' bw &&
 (Value.oneCell' be && (Value.oneCell' bf && (Value.oneCell' bg && (Value.oneCell' bh && (Value.oneCell' bi && true)))))))) (br (decide (n > (20000 : Int))) (∃ (m'' : Mem), Mem.le m m'' ∧ Mem.le m'' m' ∧ R (bool (decide
 (n ≤ (20000 : Int)))) m'' []) (∃ (R : RT), True ∧ CX Tryz.prog 34 (Array.mk [agg (Array.mk [be, bf, bg, bh, bi])]) m' [] R ∧ Fits (Shape.int i64) R ∧ ∀ (bx : Int) (bj : Mem), Mem.le m' bj → R (int i64 bx) bj [] → [some
 (Box.mk bp [a9, ba, ak, a1, a2, a3, a4, a5] 53 8 false true), some (Box.mk aw [am, an, ao, ac, ad, ae, af, ag, ah, ai, aj, ap, aq, ab, ar, au] 67 16 false true), some (Box.mk al [v, aa] 70 2 false true), some (Box.mk b
 [int i64 p0_0, slice p0_1a p0_1n p0_1c, slice p0_2a p0_2n p0_2c] 27 3 true true)] = [some (Box.mk bp [a9, ba, ak, a1, a2, a3, a4, a5] 53 8 false true), some (Box.mk aw [am, an, ao, ac, ad, ae, af, ag, ah, ai, aj, ap,
 aq, ab, ar, au] 67 16 false true), some (Box.mk al [v, aa] 70 2 false true), some (Box.mk b [int i64 p0_0, slice p0_1a p0_1n p0_1c, slice p0_2a p0_2n p0_2c] 27 3 true true)] ∧ ∃ (n' : Nat), n' < bs ∧ bd [int i64
 (IntKind.wrap i64 (n + bx)), int i64 (IntKind.wrap i64 (az + (1 : Int)))] [] [] bj n')))) ([some (Box.mk aw [am, an, ao, ac, ad, ae, af, ag, ah, ai, aj, ap, aq, ab, ar, au] 67 16 false true), some (Box.mk al [v, aa] 70
 2 false true), some (Box.mk b [int i64 p0_0, slice p0_1a p0_1n p0_1c, slice p0_2a p0_2n p0_2c] 27 3 true true)] = [some (Box.mk aw [am, an, ao, ac, ad, ae, af, ag, ah, ai, aj, ap, aq, ab, ar, au] 67 16 false true), some
 (Box.mk al [v, aa] 70 2 false true), some (Box.mk b [int i64 p0_0, slice p0_1a p0_1n p0_1c, slice p0_2a p0_2n p0_2c] 27 3 true true)] ∧ ∃ (n' : Nat), n' < bo ∧ I [int i64 n, int i64 (IntKind.wrap i64 (ay + (1 : Int)))]
 [] [] m' n')))))) (br (decide (n > (20000 : Int))) (∃ (m'' : Mem), Mem.le m m'' ∧ Mem.le m'' av ∧ R (bool (decide (n ≤ (20000 : Int)))) m'' []) ([some (Box.mk al [v, aa] 70 2 false true), some (Box.mk b [int i64 p0_0,
 slice p0_1a p0_1n p0_1c, slice p0_2a p0_2n p0_2c] 27 3 true true)] = [some (Box.mk al [v, aa] 70 2 false true), some (Box.mk b [int i64 p0_0, slice p0_1a p0_1n p0_1c, slice p0_2a p0_2n p0_2c] 27 3 true true)] ∧ ∃ (n' :
 Nat), n' < bm ∧ bb [int i64 n, int i64 (IntKind.wrap i64 (ax + (1 : Int)))] [] [] av n')))))) ([some (Box.mk b [int i64 p0_0, slice p0_1a p0_1n p0_1c, slice p0_2a p0_2n p0_2c] 27 3 true true)] = [some (Box.mk b [int i64
 p0_0, slice p0_1a p0_1n p0_1c, slice p0_2a p0_2n p0_2c] 27 3 true true)] ∧ ∃ (n' : Nat), n' < bk ∧ I [int i64 n, int i64 (IntKind.wrap i64 (a6 + (1 : Int)))] [] [] m' n')))) (∃ (m'' : Mem), Mem.le m m'' ∧ Mem.le m'' a0
 ∧ R (bool (decide (n ≤ (20000 : Int)))) m'' [])
theorem cx_ast_Light (p0_0 : Int) (p0_1a : Option Addr) (p0_1n p0_1c : Nat) (p0_2a : Option Addr) (p0_2n p0_2c : Nat) (m : Mem) (R : RT) (h : VC_ast_Light p0_0 p0_1a p0_1n p0_1c p0_2a p0_2n p0_2c m R) : CX Tryz.prog 21 #[.agg #[.int .i64 p0_0, .slice p0_1a p0_1n p0_1c, .slice p0_2a p0_2n p0_2c]] m [] R :=
 CX_of_FW (E := E_ast_Light) EB_ok mix Tryz.func21 [.v (.agg #[.int .i64 p0_0, .slice p0_1a p0_1n p0_1c, .slice p0_2a p0_2n p0_2c])] [] (by kernel_rfl) (Eq.mp (by kernel_rfl) h)
noncomputable def E_ast_Find_1 : Env := { EB with
 frzNew := [2] }
def VC_ast_Find_1 (p0_0 : ByteArray) (p0_1a : Option Addr) (p0_1n p0_1c c0b c0o : Nat) (m : Mem) (R : RT) : Prop :=
 ∀ (b : Nat) (m' : Mem), Mem.le m m' → Mem.reads m' b 0 [string p0_0, slice p0_1a p0_1n p0_1c] → ∃ (v : Value), m' c0b c0o = some v ∧ chk (isStr v) (∃ (m'' : Mem), Mem.le m m'' ∧ Mem.le m'' m' ∧ R (bool (ByteArray.toList
 p0_0 == ByteArray.toList (strOf v))) m'' [])
theorem cx_ast_Find_1 (p0_0 : ByteArray) (p0_1a : Option Addr) (p0_1n p0_1c c0b c0o : Nat) (m : Mem) (R : RT) (h : VC_ast_Find_1 p0_0 p0_1a p0_1n p0_1c c0b c0o m R) : CX Tryz.prog 91 #[.agg #[.string p0_0, .slice p0_1a p0_1n p0_1c], .pointer (some ⟨c0b, c0o, none⟩)] m [] R :=
 CX_of_FW (E := E_ast_Find_1) EB_ok mix Tryz.func91 [.v (.agg #[.string p0_0, .slice p0_1a p0_1n p0_1c]), .v (.pointer (some ⟨c0b, c0o, none⟩))] [] (by kernel_rfl) (Eq.mp (by kernel_rfl) h)
noncomputable def E_slices_IndexFunc_ast_State_ast_State : Env := { EB with
 loops := (fun i => bif Nat.beq i 2 then ⟨[(8, .int .i64)], [], [], false⟩ else ⟨[], [], [], false⟩) }
def VC_slices_IndexFunc_ast_State_ast_State (p0a : Option Addr) (p0n p0c p1g : Nat) (p1fi p1ca : List Value) (m : Mem) (R : RT) : Prop :=
 ∃ (I : IT), (∃ (n : Nat), I [int i64 0] [] [] m n) ∧ ∀ (n : Int) (m' : Mem) (n_1 : Nat), Mem.le m m' → I [int i64 n] [] [] m' n_1 → br (decide (n < (↑p0n : Int))) (∃ (b : Nat), ∃ (o : Nat), p0a = some (Addr.mk b o none)
 ∧ inRange n p0n ∧ ∃ (v : Value), ∃ (v_1 : Value), Mem.reads m' b (o + Int.toNat n * 2) [v, v_1] ∧ ∃ (R_1 : RT), True ∧ CX Tryz.prog p1g (Array.mk (List.append (List.append p1fi [agg (Array.mk [v, v_1])]) p1ca)) m' []
 R_1 ∧ Fits Shape.bool R_1 ∧ ∀ (b : Bool) (m'_1 : Mem), Mem.le m' m'_1 → R_1 (bool b) m'_1 [] → br b (∃ (m'' : Mem), Mem.le m m'' ∧ Mem.le m'' m'_1 ∧ R (int i64 n) m'' []) (∃ (n' : Nat), n' < n_1 ∧ I [int i64
 (IntKind.wrap i64 (n + (1 : Int)))] [] [] m'_1 n')) (∃ (m'' : Mem), Mem.le m m'' ∧ Mem.le m'' m' ∧ R (int i64 (-1 : Int)) m'' [])
theorem cx_slices_IndexFunc_ast_State_ast_State (p0a : Option Addr) (p0n p0c p1g : Nat) (p1fi p1ca : List Value) (m : Mem) (R : RT) (h : VC_slices_IndexFunc_ast_State_ast_State p0a p0n p0c p1g p1fi p1ca m R) : CX Tryz.prog 86 #[.slice p0a p0n p0c, .func (.func p1g) p1fi.toArray p1ca.toArray] m [] R :=
 CX_of_FW (E := E_slices_IndexFunc_ast_State_ast_State) EB_ok mix Tryz.func86 [.v (.slice p0a p0n p0c), .v (.func (.func p1g) p1fi.toArray p1ca.toArray)] [] (by kernel_rfl) (Eq.mp (by kernel_rfl) h)
noncomputable def E_slices_ContainsFunc_ast_State_ast_State : Env := EB
def VC_slices_ContainsFunc_ast_State_ast_State (p0a : Option Addr) (p0n p0c p1g : Nat) (p1fi p1ca : List Value) (m : Mem) (R : RT) : Prop :=
 ∃ (R_1 : RT), True ∧ CX Tryz.prog 86 (Array.mk [slice p0a p0n p0c, func (Fn.func p1g) (Array.mk p1fi) (Array.mk p1ca)]) m [] R_1 ∧ Fits (Shape.int i64) R_1 ∧ ∀ (n : Int) (m' : Mem), Mem.le m m' → R_1 (int i64 n) m' [] →
 ∃ (m'' : Mem), Mem.le m m'' ∧ Mem.le m'' m' ∧ R (bool (decide (n ≥ (0 : Int)))) m'' []
theorem cx_slices_ContainsFunc_ast_State_ast_State (p0a : Option Addr) (p0n p0c p1g : Nat) (p1fi p1ca : List Value) (m : Mem) (R : RT) (h : VC_slices_ContainsFunc_ast_State_ast_State p0a p0n p0c p1g p1fi p1ca m R) : CX Tryz.prog 58 #[.slice p0a p0n p0c, .func (.func p1g) p1fi.toArray p1ca.toArray] m [] R :=
 CX_of_FW (E := E_slices_ContainsFunc_ast_State_ast_State) EB_ok mix Tryz.func58 [.v (.slice p0a p0n p0c), .v (.func (.func p1g) p1fi.toArray p1ca.toArray)] [] (by kernel_rfl) (Eq.mp (by kernel_rfl) h)
noncomputable def E_slices_IndexFunc_ast_Var_ast_Var : Env := { EB with
 loops := (fun i => bif Nat.beq i 2 then ⟨[(8, .int .i64)], [], [], false⟩ else ⟨[], [], [], false⟩) }
def VC_slices_IndexFunc_ast_Var_ast_Var (p0a : Option Addr) (p0n p0c p1g : Nat) (p1fi p1ca : List Value) (m : Mem) (R : RT) : Prop :=
 ∃ (I : IT), (∃ (n : Nat), I [int i64 0] [] [] m n) ∧ ∀ (n : Int) (m' : Mem) (n_1 : Nat), Mem.le m m' → I [int i64 n] [] [] m' n_1 → br (decide (n < (↑p0n : Int))) (∃ (b : Nat), ∃ (o : Nat), p0a = some (Addr.mk b o none)
 ∧ inRange n p0n ∧ ∃ (v : Value), ∃ (v_1 : Value), ∃ (v_2 : Value), ∃ (v_3 : Value), Mem.reads m' b (o + Int.toNat n * 4) [v, v_1, v_2, v_3] ∧ ∃ (R_1 : RT), True ∧ CX Tryz.prog p1g (Array.mk (List.append (List.append
 p1fi [agg (Array.mk [v, v_1, v_2, v_3])]) p1ca)) m' [] R_1 ∧ Fits Shape.bool R_1 ∧ ∀ (b : Bool) (m'_1 : Mem), Mem.le m' m'_1 → R_1 (bool b) m'_1 [] → br b (∃ (m'' : Mem), Mem.le m m'' ∧ Mem.le m'' m'_1 ∧ R (int i64 n)
 m'' []) (∃ (n' : Nat), n' < n_1 ∧ I [int i64 (IntKind.wrap i64 (n + (1 : Int)))] [] [] m'_1 n')) (∃ (m'' : Mem), Mem.le m m'' ∧ Mem.le m'' m' ∧ R (int i64 (-1 : Int)) m'' [])
theorem cx_slices_IndexFunc_ast_Var_ast_Var (p0a : Option Addr) (p0n p0c p1g : Nat) (p1fi p1ca : List Value) (m : Mem) (R : RT) (h : VC_slices_IndexFunc_ast_Var_ast_Var p0a p0n p0c p1g p1fi p1ca m R) : CX Tryz.prog 85 #[.slice p0a p0n p0c, .func (.func p1g) p1fi.toArray p1ca.toArray] m [] R :=
 CX_of_FW (E := E_slices_IndexFunc_ast_Var_ast_Var) EB_ok mix Tryz.func85 [.v (.slice p0a p0n p0c), .v (.func (.func p1g) p1fi.toArray p1ca.toArray)] [] (by kernel_rfl) (Eq.mp (by kernel_rfl) h)
noncomputable def E_slices_ContainsFunc_ast_Var_ast_Var : Env := EB
def VC_slices_ContainsFunc_ast_Var_ast_Var (p0a : Option Addr) (p0n p0c p1g : Nat) (p1fi p1ca : List Value) (m : Mem) (R : RT) : Prop :=
 ∃ (R_1 : RT), True ∧ CX Tryz.prog 85 (Array.mk [slice p0a p0n p0c, func (Fn.func p1g) (Array.mk p1fi) (Array.mk p1ca)]) m [] R_1 ∧ Fits (Shape.int i64) R_1 ∧ ∀ (n : Int) (m' : Mem), Mem.le m m' → R_1 (int i64 n) m' [] →
 ∃ (m'' : Mem), Mem.le m m'' ∧ Mem.le m'' m' ∧ R (bool (decide (n ≥ (0 : Int)))) m'' []
theorem cx_slices_ContainsFunc_ast_Var_ast_Var (p0a : Option Addr) (p0n p0c p1g : Nat) (p1fi p1ca : List Value) (m : Mem) (R : RT) (h : VC_slices_ContainsFunc_ast_Var_ast_Var p0a p0n p0c p1g p1fi p1ca m R) : CX Tryz.prog 52 #[.slice p0a p0n p0c, .func (.func p1g) p1fi.toArray p1ca.toArray] m [] R :=
 CX_of_FW (E := E_slices_ContainsFunc_ast_Var_ast_Var) EB_ok mix Tryz.func52 [.v (.slice p0a p0n p0c), .v (.func (.func p1g) p1fi.toArray p1ca.toArray)] [] (by kernel_rfl) (Eq.mp (by kernel_rfl) h)
noncomputable def E_ast_Find : Env := { EB with
 joins := (fun i => bif Nat.beq i 2 then some [(17, .bool)] else none)
 frzNew := [2, 3] }
def VC_ast_Find (p0_0 : Int) (p0_1a : Option Addr) (p0_1n p0_1c : Nat) (p0_2a : Option Addr) (p0_2n p0_2c : Nat) (p1 : ByteArray) (m : Mem) (R : RT) : Prop :=
 ∀ (b : Nat) (m' : Mem), Mem.le m m' → Mem.reads m' b 0 [int i64 p0_0, slice p0_1a p0_1n p0_1c, slice p0_2a p0_2n p0_2c] → ∀ (b_1 : Nat) (m'_1 : Mem), Mem.le m' m'_1 → Mem.reads m'_1 b_1 0 [string p1] → ∃ (R_1 : RT),
 True ∧ CX Tryz.prog 86 (Array.mk [slice p0_2a p0_2n p0_2c, func (Fn.func 91) (Array.mk []) (Array.mk [Value.pointer (some (Addr.mk b_1 0 none))])]) m'_1 [] R_1 ∧ Fits (Shape.int i64) R_1 ∧ ∀ (n : Int) (m' : Mem), Mem.le
 m'_1 m' → R_1 (int i64 n) m' [] → ∃ (b_2 : Bool), br (decide (n < (0 : Int))) ([some (Box.mk b_1 [string p1] 9 1 true true), some (Box.mk b [int i64 p0_0, slice p0_1a p0_1n p0_1c, slice p0_2a p0_2n p0_2c] 27 3 true
 true)] = [some (Box.mk b_1 [string p1] 9 1 true true), some (Box.mk b [int i64 p0_0, slice p0_1a p0_1n p0_1c, slice p0_2a p0_2n p0_2c] 27 3 true true)] ∧ [bool true] = [bool b_2]) (∃ (R : RT), True ∧ CX Tryz.prog 21
 (Array.mk [agg (Array.mk [int i64 p0_0, slice p0_1a p0_1n p0_1c, slice p0_2a p0_2n p0_2c])]) m' [] R ∧ Fits Shape.bool R ∧ ∀ (b_3 : Bool) (m'_2 : Mem), Mem.le m' m'_2 → R (bool b_3) m'_2 [] → [some (Box.mk b_1 [string
 p1] 9 1 true true), some (Box.mk b [int i64 p0_0, slice p0_1a p0_1n p0_1c, slice p0_2a p0_2n p0_2c] 27 3 true true)] = [some (Box.mk b_1 [string p1] 9 1 true true), some (Box.mk b [int i64 p0_0, slice p0_1a p0_1n p0_1c,
 slice p0_2a p0_2n p0_2c] 27 3 true true)] ∧ [bool !b_3] = [bool b_2]) ∧ br b_2 (∃ (m'' : Mem), Mem.le m m'' ∧ Mem.le m'' m' ∧ R (tuple (Array.mk [int i64 0, bool false])) m'' []) (∃ (m'' : Mem), Mem.le m m'' ∧ Mem.le
 m'' m' ∧ R (tuple (Array.mk [int i64 n, bool true])) m'' [])
theorem cx_ast_Find (p0_0 : Int) (p0_1a : Option Addr) (p0_1n p0_1c : Nat) (p0_2a : Option Addr) (p0_2n p0_2c : Nat) (p1 : ByteArray) (m : Mem) (R : RT) (h : VC_ast_Find p0_0 p0_1a p0_1n p0_1c p0_2a p0_2n p0_2c p1 m R) : CX Tryz.prog 65 #[.agg #[.int .i64 p0_0, .slice p0_1a p0_1n p0_1c, .slice p0_2a p0_2n p0_2c], .string p1] m [] R :=
 CX_of_FW (E := E_ast_Find) EB_ok mix Tryz.func65 [.v (.agg #[.int .i64 p0_0, .slice p0_1a p0_1n p0_1c, .slice p0_2a p0_2n p0_2c]), .v (.string p1)] [] (by kernel_rfl) (Eq.mp (by kernel_rfl) h)
noncomputable def E_ast_Places : Env := { EB with
 loops := (fun i => bif Nat.beq i 5 then ⟨[(3, .slice), (20, .int .i64)], [], [(27, 5)], false⟩ else bif Nat.beq i 10 then ⟨[(3, .slice), (32, .int .i64)], [], [(27, 5)], false⟩ else bif Nat.beq i 14 then ⟨[(3, .slice), (45, .int .i64)], [], [(27, 5)], false⟩ else bif Nat.beq i 18 then ⟨[(3, .slice), (59, .int .i64)], [], [(27, 5)], false⟩ else bif Nat.beq i 22 then ⟨[(3, .slice), (74, .int .i64)], [], [(27, 5)], false⟩ else ⟨[], [], [], false⟩)
 tokOf := (fun i => bif Nat.beq i 27 then 27 else bif Nat.beq i 41 then 27 else bif Nat.beq i 55 then 27 else bif Nat.beq i 70 then 27 else bif Nat.beq i 84 then 27 else 0)
 frzNew := [1] }
def VC_ast_Places (p0_0 : Int) (p0_1a : Option Addr) (p0_1n p0_1c : Nat) (p0_2a : Option Addr) (p0_2n p0_2c : Nat) (m : Mem) (R : RT) : Prop :=
 ∀ (b : Nat) (m' : Mem), Mem.le m m' → Mem.reads m' b 0 [int i64 p0_0, slice p0_1a p0_1n p0_1c, slice p0_2a p0_2n p0_2c] → ∃ (R_1 : RT), True ∧ CX Tryz.prog 21 (Array.mk [agg (Array.mk [int i64 p0_0, slice p0_1a p0_1n
 p0_1c, slice p0_2a p0_2n p0_2c])]) m' [] R_1 ∧ Fits Shape.bool R_1 ∧ ∀ (bz : Bool) (ap : Mem), Mem.le m' ap → R_1 (bool bz) ap [] → br (!bz) (∃ (m'' : Mem), Mem.le m m'' ∧ Mem.le m'' ap ∧ R (slice none 0 0) m'' []) (∀
 (ad : Nat), Mem.free ap ad → ∃ (I : IT), (∃ (n : Nat), I [slice (some (Addr.mk ad 0 none)) 1 1, int i64 0] [] [slice none 0 0] (Mem.add ap ad [int i64 (-1 : Int), int i64 (-1 : Int), int i64 (-1 : Int), int i64 (-1 :
 Int), int i64 (-1 : Int)]) n) ∧ ∀ (a : Option Addr) (n c : Nat) (aq : Int) (bj : Option Addr) (bk bl : Nat) (m' : Mem) (ca : Nat), Mem.le (Mem.add ap ad [int i64 (-1 : Int), int i64 (-1 : Int), int i64 (-1 : Int), int
 i64 (-1 : Int), int i64 (-1 : Int)]) m' → I [slice a n c, int i64 aq] [] [slice bj bk bl] m' ca → br (decide (aq < (↑p0_1n : Int))) (∀ (aj : Nat), Mem.free m' aj → (Tok.mk (slice bj bk bl) 5 = Tok.mk (slice a n c) 5 ∨
 slice a n c = slice none 0 0 ∨ c < n + 1) ∧ ∃ (xs : List Value), ∃ (ys : List Value), List.length xs = n * 5 ∧ List.length ys = 1 * 5 ∧ rowRd (Mem.add m' aj [int i64 aq, int i64 (-1 : Int), int i64 (-1 : Int), int i64
 (-1 : Int), int i64 (-1 : Int)]) a xs ∧ rowRd (Mem.add m' aj [int i64 aq, int i64 (-1 : Int), int i64 (-1 : Int), int i64 (-1 : Int), int i64 (-1 : Int)]) (some (Addr.mk aj 0 none)) ys ∧ (∀ (u : Value), u ∈ ys →
 Value.oneCell' u = true) ∧ (n + 1) * 40 ≤ 140737488355328 ∧ n + 1 ≤ 9223372036854775807 ∧ ∀ (a' : Option Addr) (c' : Nat) (af : Mem), Mem.le (Mem.add m' aj [int i64 aq, int i64 (-1 : Int), int i64 (-1 : Int), int i64
 (-1 : Int), int i64 (-1 : Int)]) af → rowRd af a' (List.append xs ys) → [some (Box.mk ad [int i64 (-1 : Int), int i64 (-1 : Int), int i64 (-1 : Int), int i64 (-1 : Int), int i64 (-1 : Int)] 34 5 true true), some (Box.mk
 b [int i64 p0_0, slice p0_1a p0_1n p0_1c, slice p0_2a p0_2n p0_2c] 27 3 true true)] = [some (Box.mk ad [int i64 (-1 : Int), int i64 (-1 : Int), int i64 (-1 : Int), int i64 (-1 : Int), int i64 (-1 : Int)] 34 5 true
 true), some (Box.mk b [int i64 p0_0, slice p0_1a p0_1n p0_1c, slice p0_2a p0_2n p0_2c] 27 3 true true)] ∧ ∃ (n' : Nat), n' < ca ∧ I [slice a' (n + 1) c', int i64 (IntKind.wrap i64 (aq + (1 : Int)))] [] [slice a' (n + 1)
 c'] af n') (∃ (I : IT), (∃ (aa : Nat), I [slice a n c, int i64 0] [] [slice bj bk bl] m' aa) ∧ ∀ (a : Option Addr) (n c : Nat) (aa : Int) (cb : Option Addr) (cc cd : Nat) (af : Mem) (ce : Nat), Mem.le m' af → I [slice a
 n c, int i64 aa] [] [slice cb cc cd] af ce → br (decide (aa < (↑p0_2n : Int))) (∃ (aj : Nat), ∃ (o : Nat), p0_2a = some (Addr.mk aj o none) ∧ inRange aa p0_2n ∧ ∃ (v : Value), ∃ (ae : Value), Mem.reads af aj (o +
 Int.toNat aa * 2) [v, ae] ∧ ∀ (ar : Nat), chk (Value.oneCell' v && (Value.oneCell' ae && true)) (∀ (ag : Nat), Mem.free af ag → (Tok.mk (slice cb cc cd) 5 = Tok.mk (slice a n c) 5 ∨ slice a n c = slice none 0 0 ∨ c < n
 + 1) ∧ ∃ (xs : List Value), ∃ (ys : List Value), List.length xs = n * 5 ∧ List.length ys = 1 * 5 ∧ rowRd (Mem.add af ag [int i64 (-1 : Int), int i64 aa, int i64 (-1 : Int), int i64 (-1 : Int), int i64 (-1 : Int)]) a xs
 ∧ rowRd (Mem.add af ag [int i64 (-1 : Int), int i64 aa, int i64 (-1 : Int), int i64 (-1 : Int), int i64 (-1 : Int)]) (some (Addr.mk ag 0 none)) ys ∧ (∀ (u : Value), u ∈ ys → Value.oneCell' u = true) ∧ (n + 1) * 40 ≤
 140737488355328 ∧ n + 1 ≤ 9223372036854775807 ∧ ∀ (a' : Option Addr) (c' : Nat) (m' : Mem), Mem.le (Mem.add af ag [int i64 (-1 : Int), int i64 aa, int i64 (-1 : Int), int i64 (-1 : Int), int i64 (-1 : Int)]) m' → rowRd
 m' a' (List.append xs ys) → chk (isSl ae) (∃ (bm : IT), (∃ (ab : Nat), bm [slice a' (n + 1) c', int i64 0] [] [slice a' (n + 1) c'] m' ab) ∧ ∀ (a : Option Addr) (n c : Nat) (ab : Int) (bn : Option Addr) (bo bp : Nat)
 (ak : Mem) (cf : Nat), Mem.le m' ak → bm [slice a n c, int i64 ab] [] [slice bn bo bp] ak cf → br (decide (ab < (↑(slN ae) : Int))) (chk (isSl ae) (∃ (cg : Nat), ∃ (o : Nat), slA ae = some (Addr.mk cg o none) ∧ inRange
 ab (slN ae) ∧ ∃ (au : Value), ∃ (av : Value), ∃ (aw : Value), ∃ (ax : Value), ∃ (ay : Value), ∃ (az : Value), ∃ (a0 : Value), ∃ (a1 : Value), ∃ (a2 : Value), ∃ (a3 : Value), ∃ (a4 : Value), ∃ (a5 : Value), ∃ (a6 :
 Value), ∃ (ah : Value), ∃ (a7 : Value), ∃ (a8 : Value), Mem.reads ak cg (o + Int.toNat ab * 16) [au, av, aw, ax, ay, az, a0, a1, a2, a3, a4, a5, a6, ah, a7, a8] ∧ ∀ (bb : Nat), chk (Value.oneCell' au && (Value.oneCell'
 av && (Value.oneCell' aw && (Value.oneCell' ax && (Value.oneCell' ay && (Value.oneCell' az && (Value.oneCell' a0 && (Value.oneCell' a1 && (Value.oneCell' a2 && (Value.oneCell' a3 && (Value.oneCell' a4 && (Value.oneCell'
 a5 && (Value.oneCell' a6 && (Value.oneCell' ah && (Value.oneCell' a7 && (Value.oneCell' a8 && true)))))))))))))))) (∀ (ai : Nat), Mem.free ak ai → (Tok.mk (slice bn bo bp) 5 = Tok.mk (slice a n c) 5 ∨ slice a n c =
 slice none 0 0 ∨ c < n + 1) ∧ ∃ (xs : List Value), ∃ (ys : List Value), List.length xs = n * 5 ∧ List.length ys = 1 * 5 ∧ rowRd (Mem.add ak ai [int i64 (-1 : Int), int i64 aa, int i64 ab, int i64 (-1 : Int), int i64 (-1
 : Int)]) a xs ∧ rowRd (Mem.add ak ai [int i64 (-1 : Int), int i64 aa, int i64 ab, int i64 (-1 : Int), int i64 (-1 : Int)]) (some (Addr.mk ai 0 none)) ys ∧ (∀ (u : Value), u ∈ ys → Value.oneCell' u = true) ∧ (n + 1) * 40
 ≤ 140737488355328 ∧ n + 1 ≤ 9223372036854775807 ∧ ∀ (a' : Option Addr) (c' : Nat) (m' : Mem), Mem.le (Mem.add ak ai [int i64 (-1 : Int), int i64 aa, int i64 ab, int i64 (-1 : Int), int i64 (-1 : Int)]) m' → rowRd m' a'
 (List.append xs ys) → chk (isSl ah) (∃ (I : IT), (∃ (ac : Nat), I [slice a' (n + 1) c', int i64 0] [] [slice a' (n + 1) c'] m' ac) ∧ ∀ (a : Option Addr) (n c : Nat) (ac : Int) (bq : Option Addr) (bs bt : Nat) (al : Mem)
 (ch : Nat), Mem.le m' al → I [slice a n c, int i64 ac] [] [slice bq bs bt] al ch → br (decide (ac < (↑(slN ah) : Int))) (chk (isSl ah) (∃ (ci : Nat), ∃ (o : Nat), slA ah = some (Addr.mk ci o none) ∧ inRange ac (slN ah)
 ∧ ∃ (bc : Value), ∃ (bd : Value), ∃ (a9 : Value), ∃ (be : Value), ∃ (bf : Value), ∃ (bg : Value), ∃ (bh : Value), ∃ (bi : Value), Mem.reads al ci (o + Int.toNat ac * 8) [bc, bd, a9, be, bf, bg, bh, bi] ∧ ∀ (cj : Nat),
 chk (Value.oneCell' bc && (Value.oneCell' bd && (Value.oneCell' a9 && (Value.oneCell' be && (Value.oneCell' bf && (Value.oneCell' bg && (Value.oneCell' bh && (Value.oneCell' bi && true)))))))) (∀ (an : Nat), Mem.free al
 an → (Tok.mk (slice bq bs bt) 5 = Tok.mk (slice a n c) 5 ∨ slice a n c = slice none 0 0 ∨ c < n + 1) ∧ ∃ (xs : List Value), ∃ (ys : List Value), List.length xs = n * 5 ∧ List.length ys = 1 * 5 ∧ rowRd (Mem.add al an
 [int i64 (-1 : Int), int i64 aa, int i64 ab, int i64 ac, int i64 (-1 : Int)]) a xs ∧ rowRd (Mem.add al an [int i64 (-1 : Int), int i64 aa, int i64 ab, int i64 ac, int i64 (-1 : Int)]) (some (Addr.mk an 0 none)) ys ∧ (∀
 (u : Value), u ∈ ys → Value.oneCell' u = true) ∧ (n + 1) * 40 ≤ 140737488355328 ∧ n + 1 ≤ 9223372036854775807 ∧ ∀ (a' : Option Addr) (c' : Nat) (m' : Mem), Mem.le (Mem.add al an [int i64 (-1 : Int), int i64 aa, int i64
 ab, int i64 ac, int i64 (-1 : Int)]) m' → rowRd m' a' (List.append xs ys) → chk (isSl a9) (∃ (bu : IT), (∃ (am : Nat), bu [slice a' (n + 1) c', int i64 0] [] [slice a' (n + 1) c'] m' am) ∧ ∀ (a : Option Addr) (n c :
 Nat) (am : Int) (bv : Option Addr) (bw bx : Nat) (ao : Mem) (ck : Nat), Mem.le m' ao → bu [slice a n c, int i64 am] [] [slice bv bw bx] ao ck → br (decide (am < (↑(slN a9) : Int))) (∀ (ba : Nat), Mem.free ao ba →
 (Tok.mk (slice bv bw bx) 5 = Tok.mk (slice a n c) 5 ∨ slice a n c = slice none 0 0 ∨ c < n + 1) ∧ ∃ (xs : List Value), ∃ (ys : List Value), List.length xs = n * 5 ∧ List.length ys = 1 * 5 ∧ rowRd (Mem.add ao ba [int i64
 (-1 : Int), int i64 aa, int i64 ab, int i64 ac, int i64 am]) a xs ∧ rowRd (Mem.add ao ba [int i64 (-1 : Int), int i64 aa, int i64 ab, int i64 ac, int i64 am]) (some (Addr.mk ba 0 none)) ys ∧ (∀ (u : Value), u ∈ ys →
 Value.oneCell' u = true) ∧ (n + 1) * 40 ≤ 140737488355328 ∧ n + 1 ≤ 9223372036854775807 ∧ ∀ (a' : Option Addr) (c' : Nat) (m' : Mem), Mem.le (Mem.add ao ba [int i64 (-1 : Int), int i64 aa, int i64 ab, int i64 ac, int
 i64 am]) m' → rowRd m' a' (List.append xs ys) → [some (Box.mk an [int i64 (-1 : Int), int i64 aa, int i64 ab, int i64 ac, int i64 (-1 : Int)] 34 5 true true), some (Box.mk cj [bc, bd, a9, be, bf, bg, bh, bi] 53 8 false
 true), some (Box.mk ai [int i64 (-1 : Int), int i64 aa, int i64 ab, int i64 (-1 : Int), int i64 (-1 : Int)] 34 5 true true), some (Box.mk bb [au, av, aw, ax, ay, az, a0, a1, a2, a3, a4, a5, a6, ah, a7, a8] 67 16 false
 true), some (Box.mk ag [int i64 (-1 : Int), int i64 aa, int i64 (-1 : Int), int i64 (-1 : Int), int i64 (-1 : Int)] 34 5 true true), some (Box.mk ar [v, ae] 70 2 false true), some (Box.mk ad [int i64 (-1 : Int), int i64
 (-1 : Int), int i64 (-1 : Int), int i64 (-1 : Int), int i64 (-1 : Int)] 34 5 true true), some (Box.mk b [int i64 p0_0, slice p0_1a p0_1n p0_1c, slice p0_2a p0_2n p0_2c] 27 3 true true)] = [some (Box.mk an [int i64 (-1 :
 Int), int i64 aa, int i64 ab, int i64 ac, int i64 (-1 : Int)] 34 5 true true), some (Box.mk cj [bc, bd, a9, be, bf, bg, bh, bi] 53 8 false true), some (Box.mk ai [int i64 (-1 : Int), int i64 aa, int i64 ab, int i64 (-1
 : Int), int i64 (-1 : Int)] 34 5 true true), some (Box.mk bb [au, av, aw, ax, ay, az, a0, a1, a2, a3, a4, a5, a6, ah, a7, a8] 67 16 false true), some (Box.mk ag [int i64 (-1 : Int), int i64 aa, int i64 (-1 : Int), int
 i64 (-1 : Int), int i64 (-1 : Int)] 34 5 true true), some (Box.mk ar [v, ae] 70 2 false true), some (Box.mk ad [int i64 (-1 : Int), int i64 (-1 : Int), int i64 (-1 : Int), int i64 (-1 : Int), int i64 (-1 : Int)] 34 5
 true true), some (Box.mk b [int i64 p0_0, slice p0_1a p0_1n p0_1c, slice p0_2a p0_2n p0_2c] 27 3 true true)] ∧ ([none, none, none, none, none, none, none] : List (Option Tok)) = [none, none, none, none, none, none,
 none] ∧ ∃ (n' : Nat), n' < ck ∧ bu [slice a' (n + 1) c', int i64 (IntKind.wrap i64 (am + (1 : Int)))] [] [slice a' (n + 1) c'] m' n') ([some (Box.mk ai [int i64 (-1 : Int), int i64 aa, int i64 ab, int i64 (-1 : Int),
 int i64 (-1 : Int)] 34 5 true true), some (Box.mk bb [au, av, aw, ax, ay, az, a0, a1, a2, a3, a4, a5, a6, ah, a7, a8] 67 16 false true), some (Box.mk ag [int i64 (-1 : Int), int i64 aa, int i64 (-1 : Int), int i64 (-1 :
 Int), int i64 (-1 : Int)] 34 5 true true), some (Box.mk ar [v, ae] 70 2 false true), some (Box.mk ad [int i64 (-1 : Int), int i64 (-1 : Int), int i64 (-1 : Int), int i64 (-1 : Int), int i64 (-1 : Int)] 34 5 true true),
 some (Box.mk b [int i64 p0_0, slice p0_1a p0_1n p0_1c, slice p0_2a p0_2n p0_2c] 27 3 true true)] = [some (Box.mk ai [int i64 (-1 : Int), int i64 aa, int i64 ab, int i64 (-1 : Int), int i64 (-1 : Int)] 34 5 true true),
 some (Box.mk bb [au, av, aw, ax, ay, az, a0, a1, a2, a3, a4, a5, a6, ah, a7, a8] 67 16 false true), some (Box.mk ag [int i64 (-1 : Int), int i64 aa, int i64 (-1 : Int), int i64 (-1 : Int), int i64 (-1 : Int)] 34 5 true
 true), some (Box.mk ar [v, ae] 70 2 false true), some (Box.mk ad [int i64 (-1 : Int), int i64 (-1 : Int), int i64 (-1 : Int), int i64 (-1 : Int), int i64 (-1 : Int)] 34 5 true true), some (Box.mk b [int i64 p0_0, slice
 p0_1a p0_1n p0_1c, slice p0_2a p0_2n p0_2c] 27 3 true true)] ∧ ([none, none, none, none, none] : List (Option Tok)) = [none, none, none, none, none] ∧ ∃ (n' : Nat), n' < ch ∧ I [slice a n c, int i64 (IntKind.wrap i64
 (ac + (1 : Int)))] [] [slice bv bw bx] ao n'))))) ([some (Box.mk ag [int i64 (-1 : Int), int i64 aa, int i64 (-1 : Int), int i64 (-1 : Int), int i64 (-1 : Int)] 34 5 true true), some (Box.mk ar [v, ae] 70 2 false true),
 some (Box.mk ad [int i64 (-1 : Int), int i64 (-1 : Int), int i64 (-1 : Int), int i64 (-1 : Int), int i64 (-1 : Int)] 34 5 true true), some (Box.mk b [int i64 p0_0, slice p0_1a p0_1n p0_1c, slice p0_2a p0_2n p0_2c] 27 3
 true true)] = [some (Box.mk ag [int i64 (-1 : Int), int i64 aa, int i64 (-1 : Int), int i64 (-1 : Int), int i64 (-1 : Int)] 34 5 true true), some (Box.mk ar [v, ae] 70 2 false true), some (Box.mk ad [int i64 (-1 : Int),
 int i64 (-1 : Int), int i64 (-1 : Int), int i64 (-1 : Int), int i64 (-1 : Int)] 34 5 true true), some (Box.mk b [int i64 p0_0, slice p0_1a p0_1n p0_1c, slice p0_2a p0_2n p0_2c] 27 3 true true)] ∧ ([none, none, none] :
 List (Option Tok)) = [none, none, none] ∧ ∃ (n' : Nat), n' < cf ∧ bm [slice a n c, int i64 (IntKind.wrap i64 (ab + (1 : Int)))] [] [slice bq bs bt] al n'))))) ([some (Box.mk ad [int i64 (-1 : Int), int i64 (-1 : Int),
 int i64 (-1 : Int), int i64 (-1 : Int), int i64 (-1 : Int)] 34 5 true true), some (Box.mk b [int i64 p0_0, slice p0_1a p0_1n p0_1c, slice p0_2a p0_2n p0_2c] 27 3 true true)] = [some (Box.mk ad [int i64 (-1 : Int), int
 i64 (-1 : Int), int i64 (-1 : Int), int i64 (-1 : Int), int i64 (-1 : Int)] 34 5 true true), some (Box.mk b [int i64 p0_0, slice p0_1a p0_1n p0_1c, slice p0_2a p0_2n p0_2c] 27 3 true true)] ∧ ([none] : List (Option
 Tok)) = [none] ∧ ∃ (n' : Nat), n' < ce ∧ I [slice a n c, int i64 (IntKind.wrap i64 (aa + (1 : Int)))] [] [slice bn bo bp] ak n')))) (∃ (m'' : Mem), Mem.le m m'' ∧ Mem.le m'' af ∧ R (slice a n c) m'' [])))
theorem cx_ast_Places (p0_0 : Int) (p0_1a : Option Addr) (p0_1n p0_1c : Nat) (p0_2a : Option Addr) (p0_2n p0_2c : Nat) (m : Mem) (R : RT) (h : VC_ast_Places p0_0 p0_1a p0_1n p0_1c p0_2a p0_2n p0_2c m R) : CX Tryz.prog 9 #[.agg #[.int .i64 p0_0, .slice p0_1a p0_1n p0_1c, .slice p0_2a p0_2n p0_2c]] m [] R :=
 CX_of_FW (E := E_ast_Places) EB_ok mix Tryz.func9 [.v (.agg #[.int .i64 p0_0, .slice p0_1a p0_1n p0_1c, .slice p0_2a p0_2n p0_2c])] [] (by kernel_rfl) (Eq.mp (by kernel_rfl) h)
noncomputable def E_vars_Right : Env := { EB with
 joins := (fun i => bif Nat.beq i 2 then some [(2, .bool)] else bif Nat.beq i 3 then some [(2, .bool)] else none)
 frzNew := [1]
 exv := (fun i => bif Nat.beq i 15 then true else false) }
def VC_vars_Right (p0_0 : Bool) (p0_1 : ByteArray) (p0_2 : Value) (m : Mem) (R : RT) : Prop :=
 ∀ (b : Nat) (m' : Mem), Mem.le m m' → Mem.reads m' b 0 [bool p0_0, string p0_1, p0_2] → br p0_0 (∃ (b_1 : Bool), (∃ (R : RT), True ∧ CX Tryz.prog 83 (Array.mk [p0_2]) m' [] R ∧ Fits Shape.bool R ∧ ∀ (b_2 : Bool) (m'_1 :
 Mem), Mem.le m' m'_1 → R (bool b_2) m'_1 [] → br b_2 ([some (Box.mk b [bool p0_0, string p0_1, p0_2] 76 3 true true)] = [some (Box.mk b [bool p0_0, string p0_1, p0_2] 76 3 true true)] ∧ [bool (ByteArray.toList p0_1 ==
 ByteArray.toList (ByteArray.mk (Array.mk [])))] = [bool b_1]) ([some (Box.mk b [bool p0_0, string p0_1, p0_2] 76 3 true true)] = [some (Box.mk b [bool p0_0, string p0_1, p0_2] 76 3 true true)] ∧ [bool false] = [bool
 b_1])) ∧ ∃ (m'' : Mem), Mem.le m m'' ∧ Mem.le m'' m' ∧ R (bool b_1) m'' []) (∃ (b_1 : Bool), (∃ (v : Value), PureF Tryz.prog 84 [p0_2] v ∧ chk (isInt u64 v && decide (u64 = u64)) (br (RowKit.intOf v == (0 : Int)) ([some
 (Box.mk b [bool p0_0, string p0_1, p0_2] 76 3 true true)] = [some (Box.mk b [bool p0_0, string p0_1, p0_2] 76 3 true true)] ∧ [bool (decide ((↑(ByteArray.size p0_1) : Int) ≤ (512 : Int)))] = [bool b_1]) ([some (Box.mk b
 [bool p0_0, string p0_1, p0_2] 76 3 true true)] = [some (Box.mk b [bool p0_0, string p0_1, p0_2] 76 3 true true)] ∧ [bool false] = [bool b_1]))) ∧ ∃ (m'' : Mem), Mem.le m m'' ∧ Mem.le m'' m' ∧ R (bool b_1) m'' [])
theorem cx_vars_Right (p0_0 : Bool) (p0_1 : ByteArray) (p0_2 : Value) (m : Mem) (R : RT) (h : VC_vars_Right p0_0 p0_1 p0_2 m R) : CX Tryz.prog 51 #[.agg #[.bool p0_0, .string p0_1, p0_2]] m [] R :=
 CX_of_FW (E := E_vars_Right) EB_ok mix Tryz.func51 [.v (.agg #[.bool p0_0, .string p0_1, p0_2])] [] (by kernel_rfl) (Eq.mp (by kernel_rfl) h)
noncomputable def E_template_CleanPart_1 : Env := { EB with
 joins := (fun i => bif Nat.beq i 1 then some [(3, .bool)] else none)
 frzNew := [2] }
def VC_template_CleanPart_1 (p0_0 : Int) (p0_1 : ByteArray) (p0_2 p0_3 : Int) (p0_4 : Value) (p0_5 : ByteArray) (p0_6 : Int) (p0_7a : Option Addr) (p0_7n p0_7c c0b c0o : Nat) (m : Mem) (R : RT) : Prop :=
 ∀ (b : Nat) (m' : Mem), Mem.le m m' → Mem.reads m' b 0 [int u8 p0_0, string p0_1, int i64 p0_2, int u8 p0_3, p0_4, string p0_5, int i64 p0_6, slice p0_7a p0_7n p0_7c] → ∃ (b_1 : Bool), (∃ (v : Value), m' c0b (c0o + 1) =
 some v ∧ chk (isStr v && true) (br (ByteArray.toList (strOf v) == ByteArray.toList p0_1) (∃ (v : Value), m' c0b (c0o + 2) = some v ∧ chk (isInt i64 v && decide (i64 = i64)) (br (RowKit.intOf v == p0_2) (br (p0_0 == (4 :
 Int)) ([some (Box.mk b [int u8 p0_0, string p0_1, int i64 p0_2, int u8 p0_3, p0_4, string p0_5, int i64 p0_6, slice p0_7a p0_7n p0_7c] 56 8 true true)] = [some (Box.mk b [int u8 p0_0, string p0_1, int i64 p0_2, int u8
 p0_3, p0_4, string p0_5, int i64 p0_6, slice p0_7a p0_7n p0_7c] 56 8 true true)] ∧ [bool true] = [bool b_1]) (∃ (v : Value), ∃ (v_1 : Value), ∃ (v_2 : Value), ∃ (v_3 : Value), ∃ (v_4 : Value), Mem.reads m' c0b (c0o + 3)
 [v, v_1, v_2, v_3, v_4] ∧ ∃ (R : RT), True ∧ CX Tryz.prog 93 (Array.mk [agg (Array.mk [v, v_1, v_2, v_3, v_4]), agg (Array.mk [int u8 0, Value.float FloatKind.f64 0, string (ByteArray.mk (Array.mk [])), int i64 0, slice
 none 0 0])]) m' [] R ∧ Fits Shape.bool R ∧ ∀ (b_2 : Bool) (m'_1 : Mem), Mem.le m' m'_1 → R (bool b_2) m'_1 [] → [some (Box.mk b [int u8 p0_0, string p0_1, int i64 p0_2, int u8 p0_3, p0_4, string p0_5, int i64 p0_6,
 slice p0_7a p0_7n p0_7c] 56 8 true true)] = [some (Box.mk b [int u8 p0_0, string p0_1, int i64 p0_2, int u8 p0_3, p0_4, string p0_5, int i64 p0_6, slice p0_7a p0_7n p0_7c] 56 8 true true)] ∧ [bool b_2] = [bool b_1]))
 ([some (Box.mk b [int u8 p0_0, string p0_1, int i64 p0_2, int u8 p0_3, p0_4, string p0_5, int i64 p0_6, slice p0_7a p0_7n p0_7c] 56 8 true true)] = [some (Box.mk b [int u8 p0_0, string p0_1, int i64 p0_2, int u8 p0_3,
 p0_4, string p0_5, int i64 p0_6, slice p0_7a p0_7n p0_7c] 56 8 true true)] ∧ [bool false] = [bool b_1]))) ([some (Box.mk b [int u8 p0_0, string p0_1, int i64 p0_2, int u8 p0_3, p0_4, string p0_5, int i64 p0_6, slice
 p0_7a p0_7n p0_7c] 56 8 true true)] = [some (Box.mk b [int u8 p0_0, string p0_1, int i64 p0_2, int u8 p0_3, p0_4, string p0_5, int i64 p0_6, slice p0_7a p0_7n p0_7c] 56 8 true true)] ∧ [bool false] = [bool b_1]))) ∧ ∃
 (m'' : Mem), Mem.le m m'' ∧ Mem.le m'' m' ∧ R (bool b_1) m'' []
theorem cx_template_CleanPart_1 (p0_0 : Int) (p0_1 : ByteArray) (p0_2 p0_3 : Int) (p0_4 : Value) (p0_5 : ByteArray) (p0_6 : Int) (p0_7a : Option Addr) (p0_7n p0_7c c0b c0o : Nat) (m : Mem) (R : RT) (h : VC_template_CleanPart_1 p0_0 p0_1 p0_2 p0_3 p0_4 p0_5 p0_6 p0_7a p0_7n p0_7c c0b c0o m R) : CX Tryz.prog 98 #[.agg #[.int .u8 p0_0, .string p0_1, .int .i64 p0_2, .int .u8 p0_3, p0_4, .string p0_5, .int .i64 p0_6, .slice p0_7a p0_7n p0_7c], .pointer (some ⟨c0b, c0o, none⟩)] m [] R :=
 CX_of_FW (E := E_template_CleanPart_1) EB_ok mix Tryz.func98 [.v (.agg #[.int .u8 p0_0, .string p0_1, .int .i64 p0_2, .int .u8 p0_3, p0_4, .string p0_5, .int .i64 p0_6, .slice p0_7a p0_7n p0_7c]), .v (.pointer (some ⟨c0b, c0o, none⟩))] [] (by kernel_rfl) (Eq.mp (by kernel_rfl) h)
noncomputable def E_template_CleanPart : Env := { EB with
 joins := (fun i => bif Nat.beq i 4 then some [(2, .bool)] else bif Nat.beq i 6 then some [(2, .bool)] else bif Nat.beq i 8 then some [(2, .bool)] else bif Nat.beq i 10 then some [(2, .bool)] else none)
 frzNew := [1] }
def VC_template_CleanPart (p0_0 : Int) (p0_1 : ByteArray) (p0_2 p0_3 : Int) (p0_4 : Value) (p0_5 : ByteArray) (p0_6 : Int) (p0_7a : Option Addr) (p0_7n p0_7c : Nat) (m : Mem) (R : RT) : Prop :=
 ∀ (b : Nat) (m' : Mem), Mem.le m m' → Mem.reads m' b 0 [int u8 p0_0, string p0_1, int i64 p0_2, int u8 p0_3, p0_4, string p0_5, int i64 p0_6, slice p0_7a p0_7n p0_7c] → br (p0_0 == (1 : Int)) (∃ (aa : Bool), br (decide
 ((↑(ByteArray.size p0_1) : Int) > (0 : Int))) (br (decide ((↑(ByteArray.size p0_1) : Int) ≤ (512 : Int))) (∃ (R : RT), True ∧ CX Tryz.prog 98 (Array.mk [agg (Array.mk [int u8 p0_0, string p0_1, int i64 0, int u8 0,
 Value.float FloatKind.f64 0, string (ByteArray.mk (Array.mk [])), int i64 0, slice none 0 0]), Value.pointer (some (Addr.mk b 0 none))]) m' [] R ∧ Fits Shape.bool R ∧ ∀ (ac : Bool) (ab : Mem), Mem.le m' ab → R (bool ac)
 ab [] → [some (Box.mk b [int u8 p0_0, string p0_1, int i64 p0_2, int u8 p0_3, p0_4, string p0_5, int i64 p0_6, slice p0_7a p0_7n p0_7c] 56 8 true true)] = [some (Box.mk b [int u8 p0_0, string p0_1, int i64 p0_2, int u8
 p0_3, p0_4, string p0_5, int i64 p0_6, slice p0_7a p0_7n p0_7c] 56 8 true true)] ∧ [bool ac] = [bool aa]) ([some (Box.mk b [int u8 p0_0, string p0_1, int i64 p0_2, int u8 p0_3, p0_4, string p0_5, int i64 p0_6, slice
 p0_7a p0_7n p0_7c] 56 8 true true)] = [some (Box.mk b [int u8 p0_0, string p0_1, int i64 p0_2, int u8 p0_3, p0_4, string p0_5, int i64 p0_6, slice p0_7a p0_7n p0_7c] 56 8 true true)] ∧ [bool false] = [bool aa])) ([some
 (Box.mk b [int u8 p0_0, string p0_1, int i64 p0_2, int u8 p0_3, p0_4, string p0_5, int i64 p0_6, slice p0_7a p0_7n p0_7c] 56 8 true true)] = [some (Box.mk b [int u8 p0_0, string p0_1, int i64 p0_2, int u8 p0_3, p0_4,
 string p0_5, int i64 p0_6, slice p0_7a p0_7n p0_7c] 56 8 true true)] ∧ [bool false] = [bool aa]) ∧ ∃ (m'' : Mem), Mem.le m m'' ∧ Mem.le m'' m' ∧ R (bool aa) m'' []) (br (p0_0 == (2 : Int)) (∃ (aa : Bool), (∃ (R : RT),
 True ∧ CX Tryz.prog 50 (Array.mk [string p0_1]) m' [] R ∧ Fits Shape.bool R ∧ ∀ (ac : Bool) (ab : Mem), Mem.le m' ab → R (bool ac) ab [] → br ac (∃ (R : RT), True ∧ CX Tryz.prog 98 (Array.mk [agg (Array.mk [int u8 p0_0,
 string p0_1, int i64 0, int u8 0, Value.float FloatKind.f64 0, string (ByteArray.mk (Array.mk [])), int i64 0, slice none 0 0]), Value.pointer (some (Addr.mk b 0 none))]) ab [] R ∧ Fits Shape.bool R ∧ ∀ (ad : Bool) (m'
 : Mem), Mem.le ab m' → R (bool ad) m' [] → [some (Box.mk b [int u8 p0_0, string p0_1, int i64 p0_2, int u8 p0_3, p0_4, string p0_5, int i64 p0_6, slice p0_7a p0_7n p0_7c] 56 8 true true)] = [some (Box.mk b [int u8 p0_0,
 string p0_1, int i64 p0_2, int u8 p0_3, p0_4, string p0_5, int i64 p0_6, slice p0_7a p0_7n p0_7c] 56 8 true true)] ∧ [bool ad] = [bool aa]) ([some (Box.mk b [int u8 p0_0, string p0_1, int i64 p0_2, int u8 p0_3, p0_4,
 string p0_5, int i64 p0_6, slice p0_7a p0_7n p0_7c] 56 8 true true)] = [some (Box.mk b [int u8 p0_0, string p0_1, int i64 p0_2, int u8 p0_3, p0_4, string p0_5, int i64 p0_6, slice p0_7a p0_7n p0_7c] 56 8 true true)] ∧
 [bool false] = [bool aa])) ∧ ∃ (m'' : Mem), Mem.le m m'' ∧ Mem.le m'' m' ∧ R (bool aa) m'' []) (br (p0_0 == (3 : Int)) (∃ (aa : Bool), br (decide (p0_2 ≥ (0 : Int))) (br (decide (p0_2 ≤ (9 : Int))) (∃ (R : RT), True ∧
 CX Tryz.prog 98 (Array.mk [agg (Array.mk [int u8 p0_0, string (ByteArray.mk (Array.mk [])), int i64 p0_2, int u8 0, Value.float FloatKind.f64 0, string (ByteArray.mk (Array.mk [])), int i64 0, slice none 0 0]),
 Value.pointer (some (Addr.mk b 0 none))]) m' [] R ∧ Fits Shape.bool R ∧ ∀ (ac : Bool) (ab : Mem), Mem.le m' ab → R (bool ac) ab [] → [some (Box.mk b [int u8 p0_0, string p0_1, int i64 p0_2, int u8 p0_3, p0_4, string
 p0_5, int i64 p0_6, slice p0_7a p0_7n p0_7c] 56 8 true true)] = [some (Box.mk b [int u8 p0_0, string p0_1, int i64 p0_2, int u8 p0_3, p0_4, string p0_5, int i64 p0_6, slice p0_7a p0_7n p0_7c] 56 8 true true)] ∧ [bool
 ac] = [bool aa]) ([some (Box.mk b [int u8 p0_0, string p0_1, int i64 p0_2, int u8 p0_3, p0_4, string p0_5, int i64 p0_6, slice p0_7a p0_7n p0_7c] 56 8 true true)] = [some (Box.mk b [int u8 p0_0, string p0_1, int i64
 p0_2, int u8 p0_3, p0_4, string p0_5, int i64 p0_6, slice p0_7a p0_7n p0_7c] 56 8 true true)] ∧ [bool false] = [bool aa])) ([some (Box.mk b [int u8 p0_0, string p0_1, int i64 p0_2, int u8 p0_3, p0_4, string p0_5, int
 i64 p0_6, slice p0_7a p0_7n p0_7c] 56 8 true true)] = [some (Box.mk b [int u8 p0_0, string p0_1, int i64 p0_2, int u8 p0_3, p0_4, string p0_5, int i64 p0_6, slice p0_7a p0_7n p0_7c] 56 8 true true)] ∧ [bool false] =
 [bool aa]) ∧ ∃ (m'' : Mem), Mem.le m m'' ∧ Mem.le m'' m' ∧ R (bool aa) m'' []) (br (p0_0 == (4 : Int)) (∃ (aa : Bool), (∃ (R : RT), True ∧ CX Tryz.prog 67 (Array.mk [agg (Array.mk [int u8 p0_3, p0_4, string p0_5, int
 i64 p0_6, slice p0_7a p0_7n p0_7c])]) m' [] R ∧ Fits Shape.bool R ∧ ∀ (ac : Bool) (ab : Mem), Mem.le m' ab → R (bool ac) ab [] → br ac (∃ (R : RT), True ∧ CX Tryz.prog 98 (Array.mk [agg (Array.mk [int u8 p0_0, string
 (ByteArray.mk (Array.mk [])), int i64 0, int u8 0, Value.float FloatKind.f64 0, string (ByteArray.mk (Array.mk [])), int i64 0, slice none 0 0]), Value.pointer (some (Addr.mk b 0 none))]) ab [] R ∧ Fits Shape.bool R ∧ ∀
 (ad : Bool) (m' : Mem), Mem.le ab m' → R (bool ad) m' [] → [some (Box.mk b [int u8 p0_0, string p0_1, int i64 p0_2, int u8 p0_3, p0_4, string p0_5, int i64 p0_6, slice p0_7a p0_7n p0_7c] 56 8 true true)] = [some (Box.mk
 b [int u8 p0_0, string p0_1, int i64 p0_2, int u8 p0_3, p0_4, string p0_5, int i64 p0_6, slice p0_7a p0_7n p0_7c] 56 8 true true)] ∧ [bool ad] = [bool aa]) ([some (Box.mk b [int u8 p0_0, string p0_1, int i64 p0_2, int
 u8 p0_3, p0_4, string p0_5, int i64 p0_6, slice p0_7a p0_7n p0_7c] 56 8 true true)] = [some (Box.mk b [int u8 p0_0, string p0_1, int i64 p0_2, int u8 p0_3, p0_4, string p0_5, int i64 p0_6, slice p0_7a p0_7n p0_7c] 56 8
 true true)] ∧ [bool false] = [bool aa])) ∧ ∃ (m'' : Mem), Mem.le m m'' ∧ Mem.le m'' m' ∧ R (bool aa) m'' []) (∃ (m'' : Mem), Mem.le m m'' ∧ Mem.le m'' m' ∧ R (bool false) m'' []))))
theorem cx_template_CleanPart (p0_0 : Int) (p0_1 : ByteArray) (p0_2 p0_3 : Int) (p0_4 : Value) (p0_5 : ByteArray) (p0_6 : Int) (p0_7a : Option Addr) (p0_7n p0_7c : Nat) (m : Mem) (R : RT) (h : VC_template_CleanPart p0_0 p0_1 p0_2 p0_3 p0_4 p0_5 p0_6 p0_7a p0_7n p0_7c m R) : CX Tryz.prog 76 #[.agg #[.int .u8 p0_0, .string p0_1, .int .i64 p0_2, .int .u8 p0_3, p0_4, .string p0_5, .int .i64 p0_6, .slice p0_7a p0_7n p0_7c]] m [] R :=
 CX_of_FW (E := E_template_CleanPart) EB_ok mix Tryz.func76 [.v (.agg #[.int .u8 p0_0, .string p0_1, .int .i64 p0_2, .int .u8 p0_3, p0_4, .string p0_5, .int .i64 p0_6, .slice p0_7a p0_7n p0_7c])] [] (by kernel_rfl) (Eq.mp (by kernel_rfl) h)
noncomputable def E_check_first : Env := { EB with
 loops := (fun i => bif Nat.beq i 3 then ⟨[(3, .int .i64), (8, .int .i64)], [], [], false⟩ else ⟨[], [], [], false⟩)
 ldF := (fun i => bif Nat.beq i 13 then some (.fn) else none) }
def VC_check_first (p0a : Option Addr) (p0n p0c : Nat) (m : Mem) (R : RT) : Prop :=
 ∃ (I : IT), (∃ (n : Nat), I [int i64 0, int i64 0] [] [] m n) ∧ ∀ (n n_1 : Int) (m' : Mem) (n_2 : Nat), Mem.le m m' → I [int i64 n, int i64 n_1] [] [] m' n_2 → br (decide (n_1 < (↑p0n : Int))) (∃ (b : Nat), ∃ (o : Nat),
 p0a = some (Addr.mk b o none) ∧ inRange n_1 p0n ∧ ∃ (v : Value), ∃ (v_1 : Value), Mem.reads m' b (o + Int.toNat n_1 * 2) [v, v_1] ∧ ∀ (b : Nat), chk (Value.oneCell' v && (Value.oneCell' v_1 && true)) (∃ (g : Nat), ∃ (fi
 : List Value), ∃ (ca : List Value), v_1 = func (Fn.func g) (Array.mk fi) (Array.mk ca) ∧ ∃ (R_1 : RT), True ∧ CX Tryz.prog g (Array.mk (List.append (List.append fi []) ca)) m' [] R_1 ∧ Fits Shape.bool R_1 ∧ ∀ (b : Bool)
 (m'_1 : Mem), Mem.le m' m'_1 → R_1 (bool b) m'_1 [] → br b (∃ (m'' : Mem), Mem.le m m'' ∧ Mem.le m'' m'_1 ∧ R v m'' []) (∃ (n' : Nat), n' < n_2 ∧ I [int i64 n, int i64 (IntKind.wrap i64 (n_1 + (1 : Int)))] [] [] m'_1
 n'))) (∃ (m'' : Mem), Mem.le m m'' ∧ Mem.le m'' m' ∧ R (int i64 n) m'' [])
theorem cx_check_first (p0a : Option Addr) (p0n p0c : Nat) (m : Mem) (R : RT) (h : VC_check_first p0a p0n p0c m R) : CX Tryz.prog 48 #[.slice p0a p0n p0c] m [] R :=
 CX_of_FW (E := E_check_first) EB_ok mix Tryz.func48 [.v (.slice p0a p0n p0c)] [] (by kernel_rfl) (Eq.mp (by kernel_rfl) h)
noncomputable def E_check_within : Env := { EB with
 joins := (fun i => bif Nat.beq i 1 then some [(6, .bool)] else none) }
def VC_check_within (p0 p1 p2 : Int) (m : Mem) (R : RT) : Prop :=
 ∃ (b : Bool), br (decide (p0 ≥ p1)) ([bool (decide (p0 ≤ p2))] = [bool b]) ([bool false] = [bool b]) ∧ ∃ (m'' : Mem), Mem.le m m'' ∧ Mem.le m'' m ∧ R (bool b) m'' []
theorem cx_check_within (p0 p1 p2 : Int) (m : Mem) (R : RT) (h : VC_check_within p0 p1 p2 m R) : CX Tryz.prog 55 #[.int .i64 p0, .int .i64 p1, .int .i64 p2] m [] R :=
 CX_of_FW (E := E_check_within) EB_ok mix Tryz.func55 [.v (.int .i64 p0), .v (.int .i64 p1), .v (.int .i64 p2)] [] (by kernel_rfl) (Eq.mp (by kernel_rfl) h)
noncomputable def E_check_kind_1 : Env := { EB with
 frzNew := [2] }
def VC_check_kind_1 (p0_0 : ByteArray) (p0_1 : Bool) (p0_2 : ByteArray) (p0_3 : Value) (c0b c0o : Nat) (m : Mem) (R : RT) : Prop :=
 ∀ (b : Nat) (m' : Mem), Mem.le m m' → Mem.reads m' b 0 [string p0_0, bool p0_1, string p0_2, p0_3] → ∃ (v : Value), m' c0b c0o = some v ∧ chk (isStr v) (∃ (m'' : Mem), Mem.le m m'' ∧ Mem.le m'' m' ∧ R (bool
 (ByteArray.toList p0_0 == ByteArray.toList (strOf v))) m'' [])
theorem cx_check_kind_1 (p0_0 : ByteArray) (p0_1 : Bool) (p0_2 : ByteArray) (p0_3 : Value) (c0b c0o : Nat) (m : Mem) (R : RT) (h : VC_check_kind_1 p0_0 p0_1 p0_2 p0_3 c0b c0o m R) : CX Tryz.prog 94 #[.agg #[.string p0_0, .bool p0_1, .string p0_2, p0_3], .pointer (some ⟨c0b, c0o, none⟩)] m [] R :=
 CX_of_FW (E := E_check_kind_1) EB_ok mix Tryz.func94 [.v (.agg #[.string p0_0, .bool p0_1, .string p0_2, p0_3]), .v (.pointer (some ⟨c0b, c0o, none⟩))] [] (by kernel_rfl) (Eq.mp (by kernel_rfl) h)
noncomputable def E_check_kind : Env := { EB with
 joins := (fun i => bif Nat.beq i 2 then some [(4, .bool), (5, .bool)] else none)
 frzNew := [2, 3] }
def VC_check_kind (p0_0 : Int) (p0_1a : Option Addr) (p0_1n p0_1c : Nat) (p0_2a : Option Addr) (p0_2n p0_2c : Nat) (p1 : ByteArray) (m : Mem) (R : RT) : Prop :=
 ∀ (b : Nat) (m' : Mem), Mem.le m m' → Mem.reads m' b 0 [int i64 p0_0, slice p0_1a p0_1n p0_1c, slice p0_2a p0_2n p0_2c] → ∀ (b_1 : Nat) (m'_1 : Mem), Mem.le m' m'_1 → Mem.reads m'_1 b_1 0 [string p1] → ∃ (R_1 : RT),
 True ∧ CX Tryz.prog 85 (Array.mk [slice p0_1a p0_1n p0_1c, func (Fn.func 94) (Array.mk []) (Array.mk [Value.pointer (some (Addr.mk b_1 0 none))])]) m'_1 [] R_1 ∧ Fits (Shape.int i64) R_1 ∧ ∀ (n : Int) (m' : Mem), Mem.le
 m'_1 m' → R_1 (int i64 n) m' [] → ∃ (b_2 : Bool), ∃ (b_3 : Bool), br (decide (n ≥ (0 : Int))) (∃ (b_4 : Nat), ∃ (o : Nat), p0_1a = some (Addr.mk b_4 o none) ∧ inRange n p0_1n ∧ ∃ (v : Value), m' b_4 (o + Int.toNat n * 4
 + 1 + 0) = some v ∧ [some (Box.mk b_1 [string p1] 9 1 true true), some (Box.mk b [int i64 p0_0, slice p0_1a p0_1n p0_1c, slice p0_2a p0_2n p0_2c] 27 3 true true)] = [some (Box.mk b_1 [string p1] 9 1 true true), some
 (Box.mk b [int i64 p0_0, slice p0_1a p0_1n p0_1c, slice p0_2a p0_2n p0_2c] 27 3 true true)] ∧ chk (Shape.fits Shape.bool v) ([v, bool (decide (n ≥ (0 : Int)))] = [bool b_2, bool b_3])) ([some (Box.mk b_1 [string p1] 9 1
 true true), some (Box.mk b [int i64 p0_0, slice p0_1a p0_1n p0_1c, slice p0_2a p0_2n p0_2c] 27 3 true true)] = [some (Box.mk b_1 [string p1] 9 1 true true), some (Box.mk b [int i64 p0_0, slice p0_1a p0_1n p0_1c, slice
 p0_2a p0_2n p0_2c] 27 3 true true)] ∧ [bool false, bool (decide (n ≥ (0 : Int)))] = [bool b_2, bool b_3]) ∧ ∃ (m'' : Mem), Mem.le m m'' ∧ Mem.le m'' m' ∧ R (tuple (Array.mk [bool b_2, bool b_3])) m'' []
theorem cx_check_kind (p0_0 : Int) (p0_1a : Option Addr) (p0_1n p0_1c : Nat) (p0_2a : Option Addr) (p0_2n p0_2c : Nat) (p1 : ByteArray) (m : Mem) (R : RT) (h : VC_check_kind p0_0 p0_1a p0_1n p0_1c p0_2a p0_2n p0_2c p1 m R) : CX Tryz.prog 70 #[.agg #[.int .i64 p0_0, .slice p0_1a p0_1n p0_1c, .slice p0_2a p0_2n p0_2c], .string p1] m [] R :=
 CX_of_FW (E := E_check_kind) EB_ok mix Tryz.func70 [.v (.agg #[.int .i64 p0_0, .slice p0_1a p0_1n p0_1c, .slice p0_2a p0_2n p0_2c]), .v (.string p1)] [] (by kernel_rfl) (Eq.mp (by kernel_rfl) h)
noncomputable def E_check_numbers_1 : Env := EB
def VC_check_numbers_1 (p0 : ByteArray) (c0b c0o : Nat) (m : Mem) (R : RT) : Prop :=
 ∃ (v : Value), ∃ (v_1 : Value), ∃ (v_2 : Value), Mem.reads m c0b c0o [v, v_1, v_2] ∧ ∃ (R_1 : RT), True ∧ CX Tryz.prog 70 (Array.mk [agg (Array.mk [v, v_1, v_2]), string p0]) m [] R_1 ∧ Fits (Shape.tup [Shape.bool,
 Shape.bool]) R_1 ∧ ∀ (b b_1 : Bool) (m' : Mem), Mem.le m m' → R_1 (tuple (Array.mk [bool b, bool b_1])) m' [] → ∃ (m'' : Mem), Mem.le m m'' ∧ Mem.le m'' m' ∧ R (bool !b) m'' []
theorem cx_check_numbers_1 (p0 : ByteArray) (c0b c0o : Nat) (m : Mem) (R : RT) (h : VC_check_numbers_1 p0 c0b c0o m R) : CX Tryz.prog 97 #[.string p0, .pointer (some ⟨c0b, c0o, none⟩)] m [] R :=
 CX_of_FW (E := E_check_numbers_1) EB_ok mix Tryz.func97 [.v (.string p0), .v (.pointer (some ⟨c0b, c0o, none⟩))] [] (by kernel_rfl) (Eq.mp (by kernel_rfl) h)
noncomputable def E_check_numbers : Env := { EB with
 frzNew := [2, 3] }
def VC_check_numbers (p0_0 : Int) (p0_1a : Option Addr) (p0_1n p0_1c : Nat) (p0_2a : Option Addr) (p0_2n p0_2c : Nat) (p1_0 : Int) (p1_1 : Value) (p1_2 : ByteArray) (p1_3 : Int) (p1_4a : Option Addr) (p1_4n p1_4c : Nat) (m : Mem) (R : RT) : Prop :=
 ∀ (b : Nat) (m' : Mem), Mem.le m m' → Mem.reads m' b 0 [int i64 p0_0, slice p0_1a p0_1n p0_1c, slice p0_2a p0_2n p0_2c] → ∀ (b_1 : Nat) (m'_1 : Mem), Mem.le m' m'_1 → Mem.reads m'_1 b_1 0 [int u8 p1_0, p1_1, string
 p1_2, int i64 p1_3, slice p1_4a p1_4n p1_4c] → ∃ (R_1 : RT), True ∧ CX Tryz.prog 96 (Array.mk [agg (Array.mk [int u8 p1_0, p1_1, string p1_2, int i64 p1_3, slice p1_4a p1_4n p1_4c])]) m'_1 [] R_1 ∧ Fits Shape.slice R_1
 ∧ ∀ (a : Option Addr) (n c : Nat) (m' : Mem), Mem.le m'_1 m' → R_1 (slice a n c) m' [] → ∃ (R_2 : RT), True ∧ CX Tryz.prog 95 (Array.mk [slice a n c, func (Fn.func 97) (Array.mk []) (Array.mk [Value.pointer (some
 (Addr.mk b 0 none))])]) m' [] R_2 ∧ Fits Shape.bool R_2 ∧ ∀ (b : Bool) (m'_2 : Mem), Mem.le m' m'_2 → R_2 (bool b) m'_2 [] → ∃ (m'' : Mem), Mem.le m m'' ∧ Mem.le m'' m'_2 ∧ R (bool !b) m'' []
theorem cx_check_numbers (p0_0 : Int) (p0_1a : Option Addr) (p0_1n p0_1c : Nat) (p0_2a : Option Addr) (p0_2n p0_2c : Nat) (p1_0 : Int) (p1_1 : Value) (p1_2 : ByteArray) (p1_3 : Int) (p1_4a : Option Addr) (p1_4n p1_4c : Nat) (m : Mem) (R : RT) (h : VC_check_numbers p0_0 p0_1a p0_1n p0_1c p0_2a p0_2n p0_2c p1_0 p1_1 p1_2 p1_3 p1_4a p1_4n p1_4c m R) : CX Tryz.prog 71 #[.agg #[.int .i64 p0_0, .slice p0_1a p0_1n p0_1c, .slice p0_2a p0_2n p0_2c], .agg #[.int .u8 p1_0, p1_1, .string p1_2, .int .i64 p1_3, .slice p1_4a p1_4n p1_4c]] m [] R :=
 CX_of_FW (E := E_check_numbers) EB_ok mix Tryz.func71 [.v (.agg #[.int .i64 p0_0, .slice p0_1a p0_1n p0_1c, .slice p0_2a p0_2n p0_2c]), .v (.agg #[.int .u8 p1_0, p1_1, .string p1_2, .int .i64 p1_3, .slice p1_4a p1_4n p1_4c])] [] (by kernel_rfl) (Eq.mp (by kernel_rfl) h)
noncomputable def E_check_none : Env := { EB with
 frzNew := [1] }
def VC_check_none (p0_0 : Int) (p0_1 : Value) (p0_2 : ByteArray) (p0_3 : Int) (p0_4a : Option Addr) (p0_4n p0_4c : Nat) (m : Mem) (R : RT) : Prop :=
 ∀ (b : Nat) (m' : Mem), Mem.le m m' → Mem.reads m' b 0 [int u8 p0_0, p0_1, string p0_2, int i64 p0_3, slice p0_4a p0_4n p0_4c] → ∃ (R_1 : RT), True ∧ CX Tryz.prog 93 (Array.mk [agg (Array.mk [int u8 p0_0, p0_1, string
 p0_2, int i64 p0_3, slice p0_4a p0_4n p0_4c]), agg (Array.mk [int u8 0, Value.float FloatKind.f64 0, string (ByteArray.mk (Array.mk [])), int i64 0, slice none 0 0])]) m' [] R_1 ∧ Fits Shape.bool R_1 ∧ ∀ (b : Bool)
 (m'_1 : Mem), Mem.le m' m'_1 → R_1 (bool b) m'_1 [] → ∃ (m'' : Mem), Mem.le m m'' ∧ Mem.le m'' m'_1 ∧ R (bool b) m'' []
theorem cx_check_none (p0_0 : Int) (p0_1 : Value) (p0_2 : ByteArray) (p0_3 : Int) (p0_4a : Option Addr) (p0_4n p0_4c : Nat) (m : Mem) (R : RT) (h : VC_check_none p0_0 p0_1 p0_2 p0_3 p0_4a p0_4n p0_4c m R) : CX Tryz.prog 68 #[.agg #[.int .u8 p0_0, p0_1, .string p0_2, .int .i64 p0_3, .slice p0_4a p0_4n p0_4c]] m [] R :=
 CX_of_FW (E := E_check_none) EB_ok mix Tryz.func68 [.v (.agg #[.int .u8 p0_0, p0_1, .string p0_2, .int .i64 p0_3, .slice p0_4a p0_4n p0_4c])] [] (by kernel_rfl) (Eq.mp (by kernel_rfl) h)
noncomputable def E_check_Captures : Env := { EB with
 frzNew := [1] }
def VC_check_Captures (p0_0 : Int) (p0_1 p0_2 : Bool) (p0_3 p0_4 p0_5 p0_6 p0_7 p0_8 p0_9 : Int) (p0_10a : Option Addr) (p0_10n p0_10c : Nat) (p0_11 : ByteArray) (p0_12 : Int) (p0_13a : Option Addr) (p0_13n p0_13c : Nat) (p0_14 : ByteArray) (p0_15 : Int) (m : Mem) (R : RT) : Prop :=
 ∀ (b : Nat) (m' : Mem), Mem.le m m' → Mem.reads m' b 0 [int u8 p0_0, bool p0_1, bool p0_2, int u8 p0_3, int u64 p0_4, int u64 p0_5, int u64 p0_6, int u64 p0_7, int i64 p0_8, int i64 p0_9, slice p0_10a p0_10n p0_10c,
 string p0_11, int i64 p0_12, slice p0_13a p0_13n p0_13c, string p0_14, int i64 p0_15] → br (p0_0 == (1 : Int)) (∃ (R_1 : RT), True ∧ CX Tryz.prog 90 (Array.mk [agg (Array.mk [int u8 p0_3, int u64 p0_4, int u64 p0_5, int
 u64 p0_6, int u64 p0_7, int i64 p0_8, int i64 p0_9, slice p0_10a p0_10n p0_10c])]) m' [] R_1 ∧ Fits (Shape.int i64) R_1 ∧ ∀ (n : Int) (m'_1 : Mem), Mem.le m' m'_1 → R_1 (int i64 n) m'_1 [] → ∃ (m'' : Mem), Mem.le m m''
 ∧ Mem.le m'' m'_1 ∧ R (int i64 n) m'' []) (br (p0_0 == (2 : Int)) (∃ (m'' : Mem), Mem.le m m'' ∧ Mem.le m'' m' ∧ R (int i64 0) m'' []) (∃ (m'' : Mem), Mem.le m m'' ∧ Mem.le m'' m' ∧ R (int i64 (-1 : Int)) m'' []))
theorem cx_check_Captures (p0_0 : Int) (p0_1 p0_2 : Bool) (p0_3 p0_4 p0_5 p0_6 p0_7 p0_8 p0_9 : Int) (p0_10a : Option Addr) (p0_10n p0_10c : Nat) (p0_11 : ByteArray) (p0_12 : Int) (p0_13a : Option Addr) (p0_13n p0_13c : Nat) (p0_14 : ByteArray) (p0_15 : Int) (m : Mem) (R : RT) (h : VC_check_Captures p0_0 p0_1 p0_2 p0_3 p0_4 p0_5 p0_6 p0_7 p0_8 p0_9 p0_10a p0_10n p0_10c p0_11 p0_12 p0_13a p0_13n p0_13c p0_14 p0_15 m R) : CX Tryz.prog 74 #[.agg #[.int .u8 p0_0, .bool p0_1, .bool p0_2, .int .u8 p0_3, .int .u64 p0_4, .int .u64 p0_5, .int .u64 p0_6, .int .u64 p0_7, .int .i64 p0_8, .int .i64 p0_9, .slice p0_10a p0_10n p0_10c, .string p0_11, .int .i64 p0_12, .slice p0_13a p0_13n p0_13c, .string p0_14, .int .i64 p0_15]] m [] R :=
 CX_of_FW (E := E_check_Captures) EB_ok mix Tryz.func74 [.v (.agg #[.int .u8 p0_0, .bool p0_1, .bool p0_2, .int .u8 p0_3, .int .u64 p0_4, .int .u64 p0_5, .int .u64 p0_6, .int .u64 p0_7, .int .i64 p0_8, .int .i64 p0_9, .slice p0_10a p0_10n p0_10c, .string p0_11, .int .i64 p0_12, .slice p0_13a p0_13n p0_13c, .string p0_14, .int .i64 p0_15])] [] (by kernel_rfl) (Eq.mp (by kernel_rfl) h)
noncomputable def E_check_fields : Env := { EB with
 joins := (fun i => bif Nat.beq i 1 then some [(3, .bool)] else bif Nat.beq i 7 then some [(2, .bool)] else bif Nat.beq i 8 then some [(2, .bool)] else bif Nat.beq i 11 then some [(2, .bool)] else none)
 frzNew := [1] }
def VC_check_fields (p0_0 : Int) (p0_1 p0_2 : Bool) (p0_3 p0_4 p0_5 p0_6 p0_7 p0_8 p0_9 : Int) (p0_10a : Option Addr) (p0_10n p0_10c : Nat) (p0_11 : ByteArray) (p0_12 : Int) (p0_13a : Option Addr) (p0_13n p0_13c : Nat) (p0_14 : ByteArray) (p0_15 : Int) (m : Mem) (R : RT) : Prop :=
 ∀ (b : Nat) (m' : Mem), Mem.le m m' → Mem.reads m' b 0 [int u8 p0_0, bool p0_1, bool p0_2, int u8 p0_3, int u64 p0_4, int u64 p0_5, int u64 p0_6, int u64 p0_7, int i64 p0_8, int i64 p0_9, slice p0_10a p0_10n p0_10c,
 string p0_11, int i64 p0_12, slice p0_13a p0_13n p0_13c, string p0_14, int i64 p0_15] → ∃ (ac : Bool), br p0_1 ([some (Box.mk b [int u8 p0_0, bool p0_1, bool p0_2, int u8 p0_3, int u64 p0_4, int u64 p0_5, int u64 p0_6,
 int u64 p0_7, int i64 p0_8, int i64 p0_9, slice p0_10a p0_10n p0_10c, string p0_11, int i64 p0_12, slice p0_13a p0_13n p0_13c, string p0_14, int i64 p0_15] 67 16 true true)] = [some (Box.mk b [int u8 p0_0, bool p0_1,
 bool p0_2, int u8 p0_3, int u64 p0_4, int u64 p0_5, int u64 p0_6, int u64 p0_7, int i64 p0_8, int i64 p0_9, slice p0_10a p0_10n p0_10c, string p0_11, int i64 p0_12, slice p0_13a p0_13n p0_13c, string p0_14, int i64
 p0_15] 67 16 true true)] ∧ [bool true] = [bool ac]) (br p0_2 ([some (Box.mk b [int u8 p0_0, bool p0_1, bool p0_2, int u8 p0_3, int u64 p0_4, int u64 p0_5, int u64 p0_6, int u64 p0_7, int i64 p0_8, int i64 p0_9, slice
 p0_10a p0_10n p0_10c, string p0_11, int i64 p0_12, slice p0_13a p0_13n p0_13c, string p0_14, int i64 p0_15] 67 16 true true)] = [some (Box.mk b [int u8 p0_0, bool p0_1, bool p0_2, int u8 p0_3, int u64 p0_4, int u64
 p0_5, int u64 p0_6, int u64 p0_7, int i64 p0_8, int i64 p0_9, slice p0_10a p0_10n p0_10c, string p0_11, int i64 p0_12, slice p0_13a p0_13n p0_13c, string p0_14, int i64 p0_15] 67 16 true true)] ∧ [bool true] = [bool
 ac]) (∃ (R : RT), True ∧ CX Tryz.prog 87 (Array.mk [agg (Array.mk [int u8 p0_3, int u64 p0_4, int u64 p0_5, int u64 p0_6, int u64 p0_7, int i64 p0_8, int i64 p0_9, slice p0_10a p0_10n p0_10c]), agg (Array.mk [int u8 0,
 int u64 0, int u64 0, int u64 0, int u64 0, int i64 0, int i64 0, slice none 0 0])]) m' [] R ∧ Fits Shape.bool R ∧ ∀ (aa : Bool) (ab : Mem), Mem.le m' ab → R (bool aa) ab [] → [some (Box.mk b [int u8 p0_0, bool p0_1,
 bool p0_2, int u8 p0_3, int u64 p0_4, int u64 p0_5, int u64 p0_6, int u64 p0_7, int i64 p0_8, int i64 p0_9, slice p0_10a p0_10n p0_10c, string p0_11, int i64 p0_12, slice p0_13a p0_13n p0_13c, string p0_14, int i64
 p0_15] 67 16 true true)] = [some (Box.mk b [int u8 p0_0, bool p0_1, bool p0_2, int u8 p0_3, int u64 p0_4, int u64 p0_5, int u64 p0_6, int u64 p0_7, int i64 p0_8, int i64 p0_9, slice p0_10a p0_10n p0_10c, string p0_11,
 int i64 p0_12, slice p0_13a p0_13n p0_13c, string p0_14, int i64 p0_15] 67 16 true true)] ∧ [bool !aa] = [bool ac])) ∧ br (p0_0 == (2 : Int)) (∃ (aa : Bool), br (!ac) (br (p0_12 == (0 : Int)) (∃ (R : RT), True ∧ CX
 Tryz.prog 55 (Array.mk [int i64 (↑(ByteArray.size p0_11) : Int), int i64 1, int i64 64]) m' [] R ∧ Fits Shape.bool R ∧ ∀ (ad : Bool) (ab : Mem), Mem.le m' ab → R (bool ad) ab [] → [some (Box.mk b [int u8 p0_0, bool
 p0_1, bool p0_2, int u8 p0_3, int u64 p0_4, int u64 p0_5, int u64 p0_6, int u64 p0_7, int i64 p0_8, int i64 p0_9, slice p0_10a p0_10n p0_10c, string p0_11, int i64 p0_12, slice p0_13a p0_13n p0_13c, string p0_14, int
 i64 p0_15] 67 16 true true)] = [some (Box.mk b [int u8 p0_0, bool p0_1, bool p0_2, int u8 p0_3, int u64 p0_4, int u64 p0_5, int u64 p0_6, int u64 p0_7, int i64 p0_8, int i64 p0_9, slice p0_10a p0_10n p0_10c, string
 p0_11, int i64 p0_12, slice p0_13a p0_13n p0_13c, string p0_14, int i64 p0_15] 67 16 true true)] ∧ [bool ad] = [bool aa]) ([some (Box.mk b [int u8 p0_0, bool p0_1, bool p0_2, int u8 p0_3, int u64 p0_4, int u64 p0_5, int
 u64 p0_6, int u64 p0_7, int i64 p0_8, int i64 p0_9, slice p0_10a p0_10n p0_10c, string p0_11, int i64 p0_12, slice p0_13a p0_13n p0_13c, string p0_14, int i64 p0_15] 67 16 true true)] = [some (Box.mk b [int u8 p0_0,
 bool p0_1, bool p0_2, int u8 p0_3, int u64 p0_4, int u64 p0_5, int u64 p0_6, int u64 p0_7, int i64 p0_8, int i64 p0_9, slice p0_10a p0_10n p0_10c, string p0_11, int i64 p0_12, slice p0_13a p0_13n p0_13c, string p0_14,
 int i64 p0_15] 67 16 true true)] ∧ [bool false] = [bool aa])) ([some (Box.mk b [int u8 p0_0, bool p0_1, bool p0_2, int u8 p0_3, int u64 p0_4, int u64 p0_5, int u64 p0_6, int u64 p0_7, int i64 p0_8, int i64 p0_9, slice
 p0_10a p0_10n p0_10c, string p0_11, int i64 p0_12, slice p0_13a p0_13n p0_13c, string p0_14, int i64 p0_15] 67 16 true true)] = [some (Box.mk b [int u8 p0_0, bool p0_1, bool p0_2, int u8 p0_3, int u64 p0_4, int u64
 p0_5, int u64 p0_6, int u64 p0_7, int i64 p0_8, int i64 p0_9, slice p0_10a p0_10n p0_10c, string p0_11, int i64 p0_12, slice p0_13a p0_13n p0_13c, string p0_14, int i64 p0_15] 67 16 true true)] ∧ [bool false] = [bool
 aa]) ∧ ∃ (m'' : Mem), Mem.le m m'' ∧ Mem.le m'' m' ∧ R (bool aa) m'' []) (br (p0_0 == (4 : Int)) (∃ (aa : Bool), br (!ac) (br (ByteArray.toList p0_11 == ByteArray.toList (ByteArray.mk (Array.mk []))) (∃ (R : RT), True ∧
 CX Tryz.prog 55 (Array.mk [int i64 p0_12, int i64 1, int i64 1000]) m' [] R ∧ Fits Shape.bool R ∧ ∀ (ad : Bool) (ab : Mem), Mem.le m' ab → R (bool ad) ab [] → [some (Box.mk b [int u8 p0_0, bool p0_1, bool p0_2, int u8
 p0_3, int u64 p0_4, int u64 p0_5, int u64 p0_6, int u64 p0_7, int i64 p0_8, int i64 p0_9, slice p0_10a p0_10n p0_10c, string p0_11, int i64 p0_12, slice p0_13a p0_13n p0_13c, string p0_14, int i64 p0_15] 67 16 true
 true)] = [some (Box.mk b [int u8 p0_0, bool p0_1, bool p0_2, int u8 p0_3, int u64 p0_4, int u64 p0_5, int u64 p0_6, int u64 p0_7, int i64 p0_8, int i64 p0_9, slice p0_10a p0_10n p0_10c, string p0_11, int i64 p0_12,
 slice p0_13a p0_13n p0_13c, string p0_14, int i64 p0_15] 67 16 true true)] ∧ [bool ad] = [bool aa]) ([some (Box.mk b [int u8 p0_0, bool p0_1, bool p0_2, int u8 p0_3, int u64 p0_4, int u64 p0_5, int u64 p0_6, int u64
 p0_7, int i64 p0_8, int i64 p0_9, slice p0_10a p0_10n p0_10c, string p0_11, int i64 p0_12, slice p0_13a p0_13n p0_13c, string p0_14, int i64 p0_15] 67 16 true true)] = [some (Box.mk b [int u8 p0_0, bool p0_1, bool p0_2,
 int u8 p0_3, int u64 p0_4, int u64 p0_5, int u64 p0_6, int u64 p0_7, int i64 p0_8, int i64 p0_9, slice p0_10a p0_10n p0_10c, string p0_11, int i64 p0_12, slice p0_13a p0_13n p0_13c, string p0_14, int i64 p0_15] 67 16
 true true)] ∧ [bool false] = [bool aa])) ([some (Box.mk b [int u8 p0_0, bool p0_1, bool p0_2, int u8 p0_3, int u64 p0_4, int u64 p0_5, int u64 p0_6, int u64 p0_7, int i64 p0_8, int i64 p0_9, slice p0_10a p0_10n p0_10c,
 string p0_11, int i64 p0_12, slice p0_13a p0_13n p0_13c, string p0_14, int i64 p0_15] 67 16 true true)] = [some (Box.mk b [int u8 p0_0, bool p0_1, bool p0_2, int u8 p0_3, int u64 p0_4, int u64 p0_5, int u64 p0_6, int
 u64 p0_7, int i64 p0_8, int i64 p0_9, slice p0_10a p0_10n p0_10c, string p0_11, int i64 p0_12, slice p0_13a p0_13n p0_13c, string p0_14, int i64 p0_15] 67 16 true true)] ∧ [bool false] = [bool aa]) ∧ ∃ (m'' : Mem),
 Mem.le m m'' ∧ Mem.le m'' m' ∧ R (bool aa) m'' []) (br (p0_0 == (3 : Int)) (br ac (∃ (m'' : Mem), Mem.le m m'' ∧ Mem.le m'' m' ∧ R (bool false) m'' []) (∃ (aa : Bool), br (ByteArray.toList p0_11 == ByteArray.toList
 (ByteArray.mk (Array.mk []))) ([some (Box.mk b [int u8 p0_0, bool p0_1, bool p0_2, int u8 p0_3, int u64 p0_4, int u64 p0_5, int u64 p0_6, int u64 p0_7, int i64 p0_8, int i64 p0_9, slice p0_10a p0_10n p0_10c, string
 p0_11, int i64 p0_12, slice p0_13a p0_13n p0_13c, string p0_14, int i64 p0_15] 67 16 true true)] = [some (Box.mk b [int u8 p0_0, bool p0_1, bool p0_2, int u8 p0_3, int u64 p0_4, int u64 p0_5, int u64 p0_6, int u64 p0_7,
 int i64 p0_8, int i64 p0_9, slice p0_10a p0_10n p0_10c, string p0_11, int i64 p0_12, slice p0_13a p0_13n p0_13c, string p0_14, int i64 p0_15] 67 16 true true)] ∧ [bool (p0_12 == (0 : Int))] = [bool aa]) ([some (Box.mk b
 [int u8 p0_0, bool p0_1, bool p0_2, int u8 p0_3, int u64 p0_4, int u64 p0_5, int u64 p0_6, int u64 p0_7, int i64 p0_8, int i64 p0_9, slice p0_10a p0_10n p0_10c, string p0_11, int i64 p0_12, slice p0_13a p0_13n p0_13c,
 string p0_14, int i64 p0_15] 67 16 true true)] = [some (Box.mk b [int u8 p0_0, bool p0_1, bool p0_2, int u8 p0_3, int u64 p0_4, int u64 p0_5, int u64 p0_6, int u64 p0_7, int i64 p0_8, int i64 p0_9, slice p0_10a p0_10n
 p0_10c, string p0_11, int i64 p0_12, slice p0_13a p0_13n p0_13c, string p0_14, int i64 p0_15] 67 16 true true)] ∧ [bool false] = [bool aa]) ∧ ∃ (m'' : Mem), Mem.le m m'' ∧ Mem.le m'' m' ∧ R (bool aa) m'' [])) (br (p0_0
 == (1 : Int)) (∃ (aa : Bool), br (ByteArray.toList p0_11 == ByteArray.toList (ByteArray.mk (Array.mk []))) ([some (Box.mk b [int u8 p0_0, bool p0_1, bool p0_2, int u8 p0_3, int u64 p0_4, int u64 p0_5, int u64 p0_6, int
 u64 p0_7, int i64 p0_8, int i64 p0_9, slice p0_10a p0_10n p0_10c, string p0_11, int i64 p0_12, slice p0_13a p0_13n p0_13c, string p0_14, int i64 p0_15] 67 16 true true)] = [some (Box.mk b [int u8 p0_0, bool p0_1, bool
 p0_2, int u8 p0_3, int u64 p0_4, int u64 p0_5, int u64 p0_6, int u64 p0_7, int i64 p0_8, int i64 p0_9, slice p0_10a p0_10n p0_10c, string p0_11, int i64 p0_12, slice p0_13a p0_13n p0_13c, string p0_14, int i64 p0_15] 67
 16 true true)] ∧ [bool (p0_12 == (0 : Int))] = [bool aa]) ([some (Box.mk b [int u8 p0_0, bool p0_1, bool p0_2, int u8 p0_3, int u64 p0_4, int u64 p0_5, int u64 p0_6, int u64 p0_7, int i64 p0_8, int i64 p0_9, slice
 p0_10a p0_10n p0_10c, string p0_11, int i64 p0_12, slice p0_13a p0_13n p0_13c, string p0_14, int i64 p0_15] 67 16 true true)] = [some (Box.mk b [int u8 p0_0, bool p0_1, bool p0_2, int u8 p0_3, int u64 p0_4, int u64
 p0_5, int u64 p0_6, int u64 p0_7, int i64 p0_8, int i64 p0_9, slice p0_10a p0_10n p0_10c, string p0_11, int i64 p0_12, slice p0_13a p0_13n p0_13c, string p0_14, int i64 p0_15] 67 16 true true)] ∧ [bool false] = [bool
 aa]) ∧ ∃ (m'' : Mem), Mem.le m m'' ∧ Mem.le m'' m' ∧ R (bool aa) m'' []) (∃ (m'' : Mem), Mem.le m m'' ∧ Mem.le m'' m' ∧ R (bool false) m'' []))))
theorem cx_check_fields (p0_0 : Int) (p0_1 p0_2 : Bool) (p0_3 p0_4 p0_5 p0_6 p0_7 p0_8 p0_9 : Int) (p0_10a : Option Addr) (p0_10n p0_10c : Nat) (p0_11 : ByteArray) (p0_12 : Int) (p0_13a : Option Addr) (p0_13n p0_13c : Nat) (p0_14 : ByteArray) (p0_15 : Int) (m : Mem) (R : RT) (h : VC_check_fields p0_0 p0_1 p0_2 p0_3 p0_4 p0_5 p0_6 p0_7 p0_8 p0_9 p0_10a p0_10n p0_10c p0_11 p0_12 p0_13a p0_13n p0_13c p0_14 p0_15 m R) : CX Tryz.prog 61 #[.agg #[.int .u8 p0_0, .bool p0_1, .bool p0_2, .int .u8 p0_3, .int .u64 p0_4, .int .u64 p0_5, .int .u64 p0_6, .int .u64 p0_7, .int .i64 p0_8, .int .i64 p0_9, .slice p0_10a p0_10n p0_10c, .string p0_11, .int .i64 p0_12, .slice p0_13a p0_13n p0_13c, .string p0_14, .int .i64 p0_15]] m [] R :=
 CX_of_FW (E := E_check_fields) EB_ok mix Tryz.func61 [.v (.agg #[.int .u8 p0_0, .bool p0_1, .bool p0_2, .int .u8 p0_3, .int .u64 p0_4, .int .u64 p0_5, .int .u64 p0_6, .int .u64 p0_7, .int .i64 p0_8, .int .i64 p0_9, .slice p0_10a p0_10n p0_10c, .string p0_11, .int .i64 p0_12, .slice p0_13a p0_13n p0_13c, .string p0_14, .int .i64 p0_15])] [] (by kernel_rfl) (Eq.mp (by kernel_rfl) h)
noncomputable def E_check_whole_1 : Env := EB
def VC_check_whole_1 (c0b c0o : Nat) (m : Mem) (R : RT) : Prop :=
 ∃ (v : Value), m c0b (c0o + 0) = some v ∧ ∃ (R_1 : RT), True ∧ CX Tryz.prog 55 (Array.mk [v, int i64 2, int i64 256]) m [] R_1 ∧ Fits Shape.bool R_1 ∧ ∀ (b : Bool) (m' : Mem), Mem.le m m' → R_1 (bool b) m' [] → ∃ (m'' :
 Mem), Mem.le m m'' ∧ Mem.le m'' m' ∧ R (bool !b) m'' []
theorem cx_check_whole_1 (c0b c0o : Nat) (m : Mem) (R : RT) (h : VC_check_whole_1 c0b c0o m R) : CX Tryz.prog 54 #[.pointer (some ⟨c0b, c0o, none⟩)] m [] R :=
 CX_of_FW (E := E_check_whole_1) EB_ok mix Tryz.func54 [.v (.pointer (some ⟨c0b, c0o, none⟩))] [] (by kernel_rfl) (Eq.mp (by kernel_rfl) h)
noncomputable def E_check_whole_2 : Env := { EB with
 joins := (fun i => bif Nat.beq i 1 then some [(1, .bool)] else none) }
def VC_check_whole_2 (c0b c0o : Nat) (m : Mem) (R : RT) : Prop :=
 ∃ (b : Bool), (∃ (v : Value), m c0b (c0o + 2) = some v ∧ chk (isSl v) (∃ (R : RT), True ∧ CX Tryz.prog 55 (Array.mk [int i64 (↑(slN v) : Int), int i64 1, int i64 24]) m [] R ∧ Fits Shape.bool R ∧ ∀ (b_1 : Bool) (m' :
 Mem), Mem.le m m' → R (bool b_1) m' [] → br (!b_1) ([bool true] = [bool b]) (∃ (v : Value), m' c0b (c0o + 1) = some v ∧ chk (isSl v) ([bool (decide ((↑(slN v) : Int) > (12 : Int)))] = [bool b])))) ∧ ∃ (m'' : Mem),
 Mem.le m m'' ∧ Mem.le m'' m ∧ R (bool b) m'' []
theorem cx_check_whole_2 (c0b c0o : Nat) (m : Mem) (R : RT) (h : VC_check_whole_2 c0b c0o m R) : CX Tryz.prog 56 #[.pointer (some ⟨c0b, c0o, none⟩)] m [] R :=
 CX_of_FW (E := E_check_whole_2) EB_ok mix Tryz.func56 [.v (.pointer (some ⟨c0b, c0o, none⟩))] [] (by kernel_rfl) (Eq.mp (by kernel_rfl) h)
noncomputable def E_check_whole : Env := { EB with
 frzNew := [1] }
def VC_check_whole (p0_0 : Int) (p0_1a : Option Addr) (p0_1n p0_1c : Nat) (p0_2a : Option Addr) (p0_2n p0_2c : Nat) (m : Mem) (R : RT) : Prop :=
 ∀ (b : Nat) (m' : Mem), Mem.le m m' → Mem.reads m' b 0 [int i64 p0_0, slice p0_1a p0_1n p0_1c, slice p0_2a p0_2n p0_2c] → ∀ (b_1 : Nat), Mem.free m' b_1 → ∃ (R_1 : RT), True ∧ CX Tryz.prog 48 (Array.mk [slice (some
 (Addr.mk b_1 0 none)) 2 2]) (Mem.add m' b_1 [int i64 300, func (Fn.func 54) (Array.mk []) (Array.mk [Value.pointer (some (Addr.mk b 0 none))]), int i64 302, func (Fn.func 56) (Array.mk []) (Array.mk [Value.pointer (some
 (Addr.mk b 0 none))])]) [] R_1 ∧ Fits (Shape.int i64) R_1 ∧ ∀ (n : Int) (m'_1 : Mem), Mem.le (Mem.add m' b_1 [int i64 300, func (Fn.func 54) (Array.mk []) (Array.mk [Value.pointer (some (Addr.mk b 0 none))]), int i64
 302, func (Fn.func 56) (Array.mk []) (Array.mk [Value.pointer (some (Addr.mk b 0 none))])]) m'_1 → R_1 (int i64 n) m'_1 [] → ∃ (m'' : Mem), Mem.le m m'' ∧ Mem.le m'' m'_1 ∧ R (int i64 n) m'' []
theorem cx_check_whole (p0_0 : Int) (p0_1a : Option Addr) (p0_1n p0_1c : Nat) (p0_2a : Option Addr) (p0_2n p0_2c : Nat) (m : Mem) (R : RT) (h : VC_check_whole p0_0 p0_1a p0_1n p0_1c p0_2a p0_2n p0_2c m R) : CX Tryz.prog 39 #[.agg #[.int .i64 p0_0, .slice p0_1a p0_1n p0_1c, .slice p0_2a p0_2n p0_2c]] m [] R :=
 CX_of_FW (E := E_check_whole) EB_ok mix Tryz.func39 [.v (.agg #[.int .i64 p0_0, .slice p0_1a p0_1n p0_1c, .slice p0_2a p0_2n p0_2c])] [] (by kernel_rfl) (Eq.mp (by kernel_rfl) h)
noncomputable def E_check_variable_1_1 : Env := { EB with
 frzNew := [2] }
def VC_check_variable_1_1 (p0_0 : ByteArray) (p0_1 : Bool) (p0_2 : ByteArray) (p0_3 : Value) (c0b c0o : Nat) (m : Mem) (R : RT) : Prop :=
 ∀ (b : Nat) (m' : Mem), Mem.le m m' → Mem.reads m' b 0 [string p0_0, bool p0_1, string p0_2, p0_3] → ∃ (v : Value), m' c0b (c0o + 0) = some v ∧ chk (isStr v) (∃ (m'' : Mem), Mem.le m m'' ∧ Mem.le m'' m' ∧ R (bool
 (ByteArray.toList p0_0 == ByteArray.toList (strOf v))) m'' [])
theorem cx_check_variable_1_1 (p0_0 : ByteArray) (p0_1 : Bool) (p0_2 : ByteArray) (p0_3 : Value) (c0b c0o : Nat) (m : Mem) (R : RT) (h : VC_check_variable_1_1 p0_0 p0_1 p0_2 p0_3 c0b c0o m R) : CX Tryz.prog 53 #[.agg #[.string p0_0, .bool p0_1, .string p0_2, p0_3], .pointer (some ⟨c0b, c0o, none⟩)] m [] R :=
 CX_of_FW (E := E_check_variable_1_1) EB_ok mix Tryz.func53 [.v (.agg #[.string p0_0, .bool p0_1, .string p0_2, p0_3]), .v (.pointer (some ⟨c0b, c0o, none⟩))] [] (by kernel_rfl) (Eq.mp (by kernel_rfl) h)
noncomputable def E_check_variable_1 : Env := EB
def VC_check_variable_1 (c0b c0o c1b c1o c2b c2o : Nat) (m : Mem) (R : RT) : Prop :=
 ∃ (v : Value), m c0b (c0o + 0) = some v ∧ ∃ (R_1 : RT), True ∧ CX Tryz.prog 50 (Array.mk [v]) m [] R_1 ∧ Fits Shape.bool R_1 ∧ ∀ (b : Bool) (m' : Mem), Mem.le m m' → R_1 (bool b) m' [] → br (!b) (∃ (m'' : Mem), Mem.le m
 m'' ∧ Mem.le m'' m' ∧ R (bool true) m'' []) (∃ (v : Value), ∃ (v_1 : Value), ∃ (v_2 : Value), Mem.reads m' c0b (c0o + 1) [v, v_1, v_2] ∧ ∃ (R_2 : RT), True ∧ CX Tryz.prog 51 (Array.mk [agg (Array.mk [v, v_1, v_2])]) m'
 [] R_2 ∧ Fits Shape.bool R_2 ∧ ∀ (b : Bool) (m'_1 : Mem), Mem.le m' m'_1 → R_2 (bool b) m'_1 [] → br (!b) (∃ (m'' : Mem), Mem.le m m'' ∧ Mem.le m'' m'_1 ∧ R (bool true) m'' []) (∃ (v : Value), m'_1 c1b (c1o + 1) = some
 v ∧ ∃ (v_3 : Value), m'_1 c2b c2o = some v_3 ∧ chk (isSl v) (chk (isAnyInt v_3) (((0 : Int) ≤ RowKit.intOf v_3 ∧ RowKit.intOf v_3 ≤ (↑(slC v) : Int)) ∧ ∃ (R_3 : RT), True ∧ CX Tryz.prog 52 (Array.mk [slice (slBase (slA
 v) 0 (slC v) 4) (Int.toNat (RowKit.intOf v_3) - 0) (slC v - 0), func (Fn.func 53) (Array.mk []) (Array.mk [Value.pointer (some (Addr.mk c0b c0o none))])]) m'_1 [] R_3 ∧ Fits Shape.bool R_3 ∧ ∀ (b : Bool) (m' : Mem),
 Mem.le m'_1 m' → R_3 (bool b) m' [] → ∃ (m'' : Mem), Mem.le m m'' ∧ Mem.le m'' m' ∧ R (bool b) m'' []))))
theorem cx_check_variable_1 (c0b c0o c1b c1o c2b c2o : Nat) (m : Mem) (R : RT) (h : VC_check_variable_1 c0b c0o c1b c1o c2b c2o m R) : CX Tryz.prog 49 #[.pointer (some ⟨c0b, c0o, none⟩), .pointer (some ⟨c1b, c1o, none⟩), .pointer (some ⟨c2b, c2o, none⟩)] m [] R :=
 CX_of_FW (E := E_check_variable_1) EB_ok mix Tryz.func49 [.v (.pointer (some ⟨c0b, c0o, none⟩)), .v (.pointer (some ⟨c1b, c1o, none⟩)), .v (.pointer (some ⟨c2b, c2o, none⟩))] [] (by kernel_rfl) (Eq.mp (by kernel_rfl) h)
noncomputable def E_check_variable : Env := { EB with
 frzNew := [2, 3]
 frzAt := (fun i => bif Nat.beq i 14 then [5] else []) }
def VC_check_variable (p0_0 : Int) (p0_1a : Option Addr) (p0_1n p0_1c : Nat) (p0_2a : Option Addr) (p0_2n p0_2c : Nat) (p1 : Int) (m : Mem) (R : RT) : Prop :=
 ∀ (b : Nat) (m' : Mem), Mem.le m m' → Mem.reads m' b 0 [int i64 p0_0, slice p0_1a p0_1n p0_1c, slice p0_2a p0_2n p0_2c] → ∀ (b_1 : Nat) (m'_1 : Mem), Mem.le m' m'_1 → Mem.reads m'_1 b_1 0 [int i64 p1] → ∃ (b_2 : Nat), ∃
 (o : Nat), p0_1a = some (Addr.mk b_2 o none) ∧ inRange p1 p0_1n ∧ ∃ (v : Value), ∃ (v_1 : Value), ∃ (v_2 : Value), ∃ (v_3 : Value), Mem.reads m'_1 b_2 (o + Int.toNat p1 * 4) [v, v_1, v_2, v_3] ∧ ∀ (b_3 : Nat), chk
 (Value.oneCell' v && (Value.oneCell' v_1 && (Value.oneCell' v_2 && (Value.oneCell' v_3 && true)))) (∀ (b_4 : Nat), Mem.free m'_1 b_4 → ∀ (m' : Mem), Mem.le (Mem.add m'_1 b_4 [int i64 301, func (Fn.func 49) (Array.mk [])
 (Array.mk [Value.pointer (some (Addr.mk b_3 0 none)), Value.pointer (some (Addr.mk b 0 none)), Value.pointer (some (Addr.mk b_1 0 none))])]) m' → Mem.reads m' b_3 0 [v, v_1, v_2, v_3] → ∃ (R_1 : RT), True ∧ CX Tryz.prog
 48 (Array.mk [slice (some (Addr.mk b_4 0 none)) 1 1]) m' [] R_1 ∧ Fits (Shape.int i64) R_1 ∧ ∀ (n : Int) (m'_2 : Mem), Mem.le m' m'_2 → R_1 (int i64 n) m'_2 [] → ∃ (m'' : Mem), Mem.le m m'' ∧ Mem.le m'' m'_2 ∧ R (int
 i64 n) m'' [])
theorem cx_check_variable (p0_0 : Int) (p0_1a : Option Addr) (p0_1n p0_1c : Nat) (p0_2a : Option Addr) (p0_2n p0_2c : Nat) (p1 : Int) (m : Mem) (R : RT) (h : VC_check_variable p0_0 p0_1a p0_1n p0_1c p0_2a p0_2n p0_2c p1 m R) : CX Tryz.prog 38 #[.agg #[.int .i64 p0_0, .slice p0_1a p0_1n p0_1c, .slice p0_2a p0_2n p0_2c], .int .i64 p1] m [] R :=
 CX_of_FW (E := E_check_variable) EB_ok mix Tryz.func38 [.v (.agg #[.int .i64 p0_0, .slice p0_1a p0_1n p0_1c, .slice p0_2a p0_2n p0_2c]), .v (.int .i64 p1)] [] (by kernel_rfl) (Eq.mp (by kernel_rfl) h)
noncomputable def E_check_state_1_1 : Env := { EB with
 frzNew := [2] }
def VC_check_state_1_1 (p0_0 : ByteArray) (p0_1a : Option Addr) (p0_1n p0_1c c0b c0o : Nat) (m : Mem) (R : RT) : Prop :=
 ∀ (b : Nat) (m' : Mem), Mem.le m m' → Mem.reads m' b 0 [string p0_0, slice p0_1a p0_1n p0_1c] → ∃ (v : Value), m' c0b (c0o + 0) = some v ∧ chk (isStr v) (∃ (m'' : Mem), Mem.le m m'' ∧ Mem.le m'' m' ∧ R (bool
 (ByteArray.toList p0_0 == ByteArray.toList (strOf v))) m'' [])
theorem cx_check_state_1_1 (p0_0 : ByteArray) (p0_1a : Option Addr) (p0_1n p0_1c c0b c0o : Nat) (m : Mem) (R : RT) (h : VC_check_state_1_1 p0_0 p0_1a p0_1n p0_1c c0b c0o m R) : CX Tryz.prog 59 #[.agg #[.string p0_0, .slice p0_1a p0_1n p0_1c], .pointer (some ⟨c0b, c0o, none⟩)] m [] R :=
 CX_of_FW (E := E_check_state_1_1) EB_ok mix Tryz.func59 [.v (.agg #[.string p0_0, .slice p0_1a p0_1n p0_1c]), .v (.pointer (some ⟨c0b, c0o, none⟩))] [] (by kernel_rfl) (Eq.mp (by kernel_rfl) h)
noncomputable def E_check_state_1 : Env := EB
def VC_check_state_1 (c0b c0o c1b c1o c2b c2o : Nat) (m : Mem) (R : RT) : Prop :=
 ∃ (v : Value), m c0b (c0o + 0) = some v ∧ ∃ (R_1 : RT), True ∧ CX Tryz.prog 50 (Array.mk [v]) m [] R_1 ∧ Fits Shape.bool R_1 ∧ ∀ (b : Bool) (m' : Mem), Mem.le m m' → R_1 (bool b) m' [] → br (!b) (∃ (m'' : Mem), Mem.le m
 m'' ∧ Mem.le m'' m' ∧ R (bool true) m'' []) (∃ (v : Value), m' c0b (c0o + 1) = some v ∧ chk (isSl v) (br (decide ((↑(slN v) : Int) > (12 : Int))) (∃ (m'' : Mem), Mem.le m m'' ∧ Mem.le m'' m' ∧ R (bool true) m'' []) (∃
 (v : Value), m' c1b (c1o + 2) = some v ∧ ∃ (v_1 : Value), m' c2b c2o = some v_1 ∧ chk (isSl v) (chk (isAnyInt v_1) (((0 : Int) ≤ RowKit.intOf v_1 ∧ RowKit.intOf v_1 ≤ (↑(slC v) : Int)) ∧ ∃ (R_2 : RT), True ∧ CX
 Tryz.prog 58 (Array.mk [slice (slBase (slA v) 0 (slC v) 2) (Int.toNat (RowKit.intOf v_1) - 0) (slC v - 0), func (Fn.func 59) (Array.mk []) (Array.mk [Value.pointer (some (Addr.mk c0b c0o none))])]) m' [] R_2 ∧ Fits
 Shape.bool R_2 ∧ ∀ (b : Bool) (m'_1 : Mem), Mem.le m' m'_1 → R_2 (bool b) m'_1 [] → ∃ (m'' : Mem), Mem.le m m'' ∧ Mem.le m'' m'_1 ∧ R (bool b) m'' [])))))
theorem cx_check_state_1 (c0b c0o c1b c1o c2b c2o : Nat) (m : Mem) (R : RT) (h : VC_check_state_1 c0b c0o c1b c1o c2b c2o m R) : CX Tryz.prog 57 #[.pointer (some ⟨c0b, c0o, none⟩), .pointer (some ⟨c1b, c1o, none⟩), .pointer (some ⟨c2b, c2o, none⟩)] m [] R :=
 CX_of_FW (E := E_check_state_1) EB_ok mix Tryz.func57 [.v (.pointer (some ⟨c0b, c0o, none⟩)), .v (.pointer (some ⟨c1b, c1o, none⟩)), .v (.pointer (some ⟨c2b, c2o, none⟩))] [] (by kernel_rfl) (Eq.mp (by kernel_rfl) h)
noncomputable def E_check_state : Env := { EB with
 frzNew := [2, 3]
 frzAt := (fun i => bif Nat.beq i 14 then [5] else []) }
def VC_check_state (p0_0 : Int) (p0_1a : Option Addr) (p0_1n p0_1c : Nat) (p0_2a : Option Addr) (p0_2n p0_2c : Nat) (p1 : Int) (m : Mem) (R : RT) : Prop :=
 ∀ (b : Nat) (m' : Mem), Mem.le m m' → Mem.reads m' b 0 [int i64 p0_0, slice p0_1a p0_1n p0_1c, slice p0_2a p0_2n p0_2c] → ∀ (b_1 : Nat) (m'_1 : Mem), Mem.le m' m'_1 → Mem.reads m'_1 b_1 0 [int i64 p1] → ∃ (b_2 : Nat), ∃
 (o : Nat), p0_2a = some (Addr.mk b_2 o none) ∧ inRange p1 p0_2n ∧ ∃ (v : Value), ∃ (v_1 : Value), Mem.reads m'_1 b_2 (o + Int.toNat p1 * 2) [v, v_1] ∧ ∀ (b_3 : Nat), chk (Value.oneCell' v && (Value.oneCell' v_1 &&
 true)) (∀ (b_4 : Nat), Mem.free m'_1 b_4 → ∀ (m' : Mem), Mem.le (Mem.add m'_1 b_4 [int i64 303, func (Fn.func 57) (Array.mk []) (Array.mk [Value.pointer (some (Addr.mk b_3 0 none)), Value.pointer (some (Addr.mk b 0
 none)), Value.pointer (some (Addr.mk b_1 0 none))])]) m' → Mem.reads m' b_3 0 [v, v_1] → ∃ (R_1 : RT), True ∧ CX Tryz.prog 48 (Array.mk [slice (some (Addr.mk b_4 0 none)) 1 1]) m' [] R_1 ∧ Fits (Shape.int i64) R_1 ∧ ∀
 (n : Int) (m'_2 : Mem), Mem.le m' m'_2 → R_1 (int i64 n) m'_2 [] → ∃ (m'' : Mem), Mem.le m m'' ∧ Mem.le m'' m'_2 ∧ R (int i64 n) m'' [])
theorem cx_check_state (p0_0 : Int) (p0_1a : Option Addr) (p0_1n p0_1c : Nat) (p0_2a : Option Addr) (p0_2n p0_2c : Nat) (p1 : Int) (m : Mem) (R : RT) (h : VC_check_state p0_0 p0_1a p0_1n p0_1c p0_2a p0_2n p0_2c p1 m R) : CX Tryz.prog 40 #[.agg #[.int .i64 p0_0, .slice p0_1a p0_1n p0_1c, .slice p0_2a p0_2n p0_2c], .int .i64 p1] m [] R :=
 CX_of_FW (E := E_check_state) EB_ok mix Tryz.func40 [.v (.agg #[.int .i64 p0_0, .slice p0_1a p0_1n p0_1c, .slice p0_2a p0_2n p0_2c]), .v (.int .i64 p1)] [] (by kernel_rfl) (Eq.mp (by kernel_rfl) h)
noncomputable def E_check_rule_1 : Env := { EB with
 joins := (fun i => bif Nat.beq i 1 then some [(1, .bool)] else none) }
def VC_check_rule_1 (c0b c0o : Nat) (m : Mem) (R : RT) : Prop :=
 ∃ (b : Bool), (∃ (v : Value), ∃ (v_1 : Value), ∃ (v_2 : Value), ∃ (v_3 : Value), ∃ (v_4 : Value), ∃ (v_5 : Value), ∃ (v_6 : Value), ∃ (v_7 : Value), ∃ (v_8 : Value), ∃ (v_9 : Value), ∃ (v_10 : Value), ∃ (v_11 : Value),
 ∃ (v_12 : Value), ∃ (v_13 : Value), ∃ (v_14 : Value), ∃ (v_15 : Value), Mem.reads m c0b c0o [v, v_1, v_2, v_3, v_4, v_5, v_6, v_7, v_8, v_9, v_10, v_11, v_12, v_13, v_14, v_15] ∧ ∃ (R : RT), True ∧ CX Tryz.prog 61
 (Array.mk [agg (Array.mk [v, v_1, v_2, v_3, v_4, v_5, v_6, v_7, v_8, v_9, v_10, v_11, v_12, v_13, v_14, v_15])]) m [] R ∧ Fits Shape.bool R ∧ ∀ (b_1 : Bool) (m' : Mem), Mem.le m m' → R (bool b_1) m' [] → br (!b_1)
 ([bool true] = [bool b]) (∃ (v : Value), m' c0b (c0o + 13) = some v ∧ chk (isSl v) ([bool (decide ((↑(slN v) : Int) > (8 : Int)))] = [bool b]))) ∧ ∃ (m'' : Mem), Mem.le m m'' ∧ Mem.le m'' m ∧ R (bool b) m'' []
theorem cx_check_rule_1 (c0b c0o : Nat) (m : Mem) (R : RT) (h : VC_check_rule_1 c0b c0o m R) : CX Tryz.prog 60 #[.pointer (some ⟨c0b, c0o, none⟩)] m [] R :=
 CX_of_FW (E := E_check_rule_1) EB_ok mix Tryz.func60 [.v (.pointer (some ⟨c0b, c0o, none⟩))] [] (by kernel_rfl) (Eq.mp (by kernel_rfl) h)
noncomputable def E_check_rule_2 : Env := { EB with
 joins := (fun i => bif Nat.beq i 1 then some [(2, .bool)] else none) }
def VC_check_rule_2 (c0b c0o c1b c1o : Nat) (m : Mem) (R : RT) : Prop :=
 ∃ (b : Bool), (∃ (v : Value), m c0b (c0o + 0) = some v ∧ chk (isInt u8 v && decide (u8 = u8)) (br (RowKit.intOf v == (1 : Int)) (∃ (v : Value), ∃ (v_1 : Value), ∃ (v_2 : Value), ∃ (v_3 : Value), ∃ (v_4 : Value), ∃ (v_5
 : Value), ∃ (v_6 : Value), ∃ (v_7 : Value), ∃ (v_8 : Value), ∃ (v_9 : Value), Mem.reads m c0b (c0o + 1) [v, v_1, v_2, v_3, v_4, v_5, v_6, v_7, v_8, v_9] ∧ ∃ (R : RT), True ∧ CX Tryz.prog 63 (Array.mk [agg (Array.mk [v,
 v_1, v_2, v_3, v_4, v_5, v_6, v_7, v_8, v_9])]) m [] R ∧ Fits (Shape.int i64) R ∧ ∀ (n : Int) (m' : Mem), Mem.le m m' → R (int i64 n) m' [] → br (!n == (0 : Int)) ([bool true] = [bool b]) (∃ (v : Value), m' c1b c1o =
 some v ∧ chk (isInt i64 v && decide (i64 = i64)) ([bool (decide (RowKit.intOf v > (600 : Int)))] = [bool b]))) ([bool false] = [bool b]))) ∧ ∃ (m'' : Mem), Mem.le m m'' ∧ Mem.le m'' m ∧ R (bool b) m'' []
theorem cx_check_rule_2 (c0b c0o c1b c1o : Nat) (m : Mem) (R : RT) (h : VC_check_rule_2 c0b c0o c1b c1o m R) : CX Tryz.prog 62 #[.pointer (some ⟨c0b, c0o, none⟩), .pointer (some ⟨c1b, c1o, none⟩)] m [] R :=
 CX_of_FW (E := E_check_rule_2) EB_ok mix Tryz.func62 [.v (.pointer (some ⟨c0b, c0o, none⟩)), .v (.pointer (some ⟨c1b, c1o, none⟩))] [] (by kernel_rfl) (Eq.mp (by kernel_rfl) h)
noncomputable def E_check_rule_3 : Env := { EB with
 joins := (fun i => bif Nat.beq i 4 then some [(2, .bool)] else none) }
def VC_check_rule_3 (c0b c0o c1b c1o : Nat) (m : Mem) (R : RT) : Prop :=
 ∃ (v : Value), ∃ (v_1 : Value), ∃ (v_2 : Value), Mem.reads m c0b c0o [v, v_1, v_2] ∧ ∃ (v_3 : Value), m c1b (c1o + 14) = some v_3 ∧ ∃ (R_1 : RT), True ∧ CX Tryz.prog 65 (Array.mk [agg (Array.mk [v, v_1, v_2]), v_3]) m
 [] R_1 ∧ Fits (Shape.tup [Shape.int i64, Shape.bool]) R_1 ∧ ∀ (n : Int) (b : Bool) (m' : Mem), Mem.le m m' → R_1 (tuple (Array.mk [int i64 n, bool b])) m' [] → ∃ (v : Value), m' c1b (c1o + 14) = some v ∧ chk (isStr v &&
 true) (br (ByteArray.toList (strOf v) == ByteArray.toList (ByteArray.mk (Array.mk []))) (∃ (v : Value), m' c1b (c1o + 15) = some v ∧ ∃ (R_2 : RT), True ∧ CX Tryz.prog 55 (Array.mk [v, int i64 0, int i64 255]) m' [] R_2
 ∧ Fits Shape.bool R_2 ∧ ∀ (b : Bool) (m'_1 : Mem), Mem.le m' m'_1 → R_2 (bool b) m'_1 [] → ∃ (m'' : Mem), Mem.le m m'' ∧ Mem.le m'' m'_1 ∧ R (bool !b) m'' []) (∃ (b_1 : Bool), br (!b) ([bool true] = [bool b_1]) (∃ (v :
 Value), m' c1b (c1o + 15) = some v ∧ chk (isInt i64 v && decide (i64 = i64)) ([bool !RowKit.intOf v == (0 : Int)] = [bool b_1])) ∧ ∃ (m'' : Mem), Mem.le m m'' ∧ Mem.le m'' m' ∧ R (bool b_1) m'' []))
theorem cx_check_rule_3 (c0b c0o c1b c1o : Nat) (m : Mem) (R : RT) (h : VC_check_rule_3 c0b c0o c1b c1o m R) : CX Tryz.prog 64 #[.pointer (some ⟨c0b, c0o, none⟩), .pointer (some ⟨c1b, c1o, none⟩)] m [] R :=
 CX_of_FW (E := E_check_rule_3) EB_ok mix Tryz.func64 [.v (.pointer (some ⟨c0b, c0o, none⟩)), .v (.pointer (some ⟨c1b, c1o, none⟩))] [] (by kernel_rfl) (Eq.mp (by kernel_rfl) h)
noncomputable def E_check_rule : Env := { EB with
 frzNew := [3, 4, 5] }
def VC_check_rule (p0_0 : Int) (p0_1a : Option Addr) (p0_1n p0_1c : Nat) (p0_2a : Option Addr) (p0_2n p0_2c : Nat) (p1_0 : Int) (p1_1 p1_2 : Bool) (p1_3 p1_4 p1_5 p1_6 p1_7 p1_8 p1_9 : Int) (p1_10a : Option Addr) (p1_10n p1_10c : Nat) (p1_11 : ByteArray) (p1_12 : Int) (p1_13a : Option Addr) (p1_13n p1_13c : Nat) (p1_14 : ByteArray) (p1_15 p2 : Int) (m : Mem) (R : RT) : Prop :=
 ∀ (b : Nat) (m' : Mem), Mem.le m m' → Mem.reads m' b 0 [int i64 p0_0, slice p0_1a p0_1n p0_1c, slice p0_2a p0_2n p0_2c] → ∀ (b_1 : Nat) (m'_1 : Mem), Mem.le m' m'_1 → Mem.reads m'_1 b_1 0 [int u8 p1_0, bool p1_1, bool
 p1_2, int u8 p1_3, int u64 p1_4, int u64 p1_5, int u64 p1_6, int u64 p1_7, int i64 p1_8, int i64 p1_9, slice p1_10a p1_10n p1_10c, string p1_11, int i64 p1_12, slice p1_13a p1_13n p1_13c, string p1_14, int i64 p1_15] →
 ∀ (b_2 : Nat) (m' : Mem), Mem.le m'_1 m' → Mem.reads m' b_2 0 [int i64 p2] → ∀ (b_3 : Nat), Mem.free m' b_3 → ∃ (R_1 : RT), True ∧ CX Tryz.prog 48 (Array.mk [slice (some (Addr.mk b_3 0 none)) 3 3]) (Mem.add m' b_3 [int
 i64 304, func (Fn.func 60) (Array.mk []) (Array.mk [Value.pointer (some (Addr.mk b_1 0 none))]), int i64 305, func (Fn.func 62) (Array.mk []) (Array.mk [Value.pointer (some (Addr.mk b_1 0 none)), Value.pointer (some
 (Addr.mk b_2 0 none))]), int i64 306, func (Fn.func 64) (Array.mk []) (Array.mk [Value.pointer (some (Addr.mk b 0 none)), Value.pointer (some (Addr.mk b_1 0 none))])]) [] R_1 ∧ Fits (Shape.int i64) R_1 ∧ ∀ (n : Int)
 (m'_2 : Mem), Mem.le (Mem.add m' b_3 [int i64 304, func (Fn.func 60) (Array.mk []) (Array.mk [Value.pointer (some (Addr.mk b_1 0 none))]), int i64 305, func (Fn.func 62) (Array.mk []) (Array.mk [Value.pointer (some
 (Addr.mk b_1 0 none)), Value.pointer (some (Addr.mk b_2 0 none))]), int i64 306, func (Fn.func 64) (Array.mk []) (Array.mk [Value.pointer (some (Addr.mk b 0 none)), Value.pointer (some (Addr.mk b_1 0 none))])]) m'_2 →
 R_1 (int i64 n) m'_2 [] → ∃ (m'' : Mem), Mem.le m m'' ∧ Mem.le m'' m'_2 ∧ R (int i64 n) m'' []
theorem cx_check_rule (p0_0 : Int) (p0_1a : Option Addr) (p0_1n p0_1c : Nat) (p0_2a : Option Addr) (p0_2n p0_2c : Nat) (p1_0 : Int) (p1_1 p1_2 : Bool) (p1_3 p1_4 p1_5 p1_6 p1_7 p1_8 p1_9 : Int) (p1_10a : Option Addr) (p1_10n p1_10c : Nat) (p1_11 : ByteArray) (p1_12 : Int) (p1_13a : Option Addr) (p1_13n p1_13c : Nat) (p1_14 : ByteArray) (p1_15 p2 : Int) (m : Mem) (R : RT) (h : VC_check_rule p0_0 p0_1a p0_1n p0_1c p0_2a p0_2n p0_2c p1_0 p1_1 p1_2 p1_3 p1_4 p1_5 p1_6 p1_7 p1_8 p1_9 p1_10a p1_10n p1_10c p1_11 p1_12 p1_13a p1_13n p1_13c p1_14 p1_15 p2 m R) : CX Tryz.prog 41 #[.agg #[.int .i64 p0_0, .slice p0_1a p0_1n p0_1c, .slice p0_2a p0_2n p0_2c], .agg #[.int .u8 p1_0, .bool p1_1, .bool p1_2, .int .u8 p1_3, .int .u64 p1_4, .int .u64 p1_5, .int .u64 p1_6, .int .u64 p1_7, .int .i64 p1_8, .int .i64 p1_9, .slice p1_10a p1_10n p1_10c, .string p1_11, .int .i64 p1_12, .slice p1_13a p1_13n p1_13c, .string p1_14, .int .i64 p1_15], .int .i64 p2] m [] R :=
 CX_of_FW (E := E_check_rule) EB_ok mix Tryz.func41 [.v (.agg #[.int .i64 p0_0, .slice p0_1a p0_1n p0_1c, .slice p0_2a p0_2n p0_2c]), .v (.agg #[.int .u8 p1_0, .bool p1_1, .bool p1_2, .int .u8 p1_3, .int .u64 p1_4, .int .u64 p1_5, .int .u64 p1_6, .int .u64 p1_7, .int .i64 p1_8, .int .i64 p1_9, .slice p1_10a p1_10n p1_10c, .string p1_11, .int .i64 p1_12, .slice p1_13a p1_13n p1_13c, .string p1_14, .int .i64 p1_15]), .v (.int .i64 p2)] [] (by kernel_rfl) (Eq.mp (by kernel_rfl) h)
noncomputable def E_check_action_1 : Env := { EB with
 joins := (fun i => bif Nat.beq i 1 then some [(2, .bool)] else none)
 gb := true
 ldF := (fun i => bif Nat.beq i 19 then some (.bool) else bif Nat.beq i 28 then some (.bool) else bif Nat.beq i 37 then some (.bool) else none) }
def VC_check_action_1 (c0b c0o c1b c1o : Nat) (m : Mem) (R : RT) : Prop :=
 ∃ (b : Bool), (∃ (v : Value), m c0b (c0o + 0) = some v ∧ chk (isInt u8 v) (∃ (R : RT), True ∧ CX Tryz.prog 55 (Array.mk [int i64 (IntKind.wrap i64 (RowKit.intOf v)), int i64 1, int i64 3]) m [] R ∧ Fits Shape.bool R ∧ ∀
 (ao : Bool) (m' : Mem), Mem.le m m' → R (bool ao) m' [] → br (!ao) ([bool true] = [bool b]) (∃ (v : Value), m' c0b (c0o + 0) = some v ∧ chk (isInt u8 v && decide (u8 = u8)) (br (RowKit.intOf v == (1 : Int)) (∃ (v :
 Value), m' c0b (c0o + 1) = some v ∧ chk (isStr v && true) (br (!ByteArray.toList (strOf v) == ByteArray.toList (ByteArray.mk (Array.mk []))) ([bool true] = [bool b]) (∃ (v : Value), m' c1b c1o = some v ∧ ∃ (an : Bool),
 v = bool an ∧ br an (∃ (v : Value), m' c0b (c0o + 2) = some v ∧ chk (isSl v) (br (decide ((↑(slN v) : Int) > (0 : Int))) ([bool true] = [bool b]) (∃ (v : Value), m' c1b c1o = some v ∧ ∃ (ah : Bool), v = bool ah ∧ br ah
 (∃ (v : Value), ∃ (ab : Value), ∃ (ac : Value), ∃ (ad : Value), ∃ (ae : Value), Mem.reads m' c0b (c0o + 3) [v, ab, ac, ad, ae] ∧ ∃ (R : RT), True ∧ CX Tryz.prog 67 (Array.mk [agg (Array.mk [v, ab, ac, ad, ae])]) m' [] R
 ∧ Fits Shape.bool R ∧ ∀ (af : Bool) (aa : Mem), Mem.le m' aa → R (bool af) aa [] → br (!af) ([bool true] = [bool b]) (∃ (v : Value), aa c1b c1o = some v ∧ ∃ (ag : Bool), v = bool ag ∧ br (!ag) (∃ (v : Value), ∃ (ai :
 Value), ∃ (aj : Value), ∃ (ak : Value), ∃ (al : Value), Mem.reads aa c0b (c0o + 3) [v, ai, aj, ak, al] ∧ ∃ (R : RT), True ∧ CX Tryz.prog 68 (Array.mk [agg (Array.mk [v, ai, aj, ak, al])]) aa [] R ∧ Fits Shape.bool R ∧ ∀
 (am : Bool) (m' : Mem), Mem.le aa m' → R (bool am) m' [] → br (!am) ([bool true] = [bool b]) (∃ (v : Value), m' c0b (c0o + 2) = some v ∧ chk (isSl v) ([bool (decide ((↑(slN v) : Int) > (16 : Int)))] = [bool b]))) (∃ (v
 : Value), aa c0b (c0o + 2) = some v ∧ chk (isSl v) ([bool (decide ((↑(slN v) : Int) > (16 : Int)))] = [bool b])))) (∃ (v : Value), m' c1b c1o = some v ∧ ∃ (af : Bool), v = bool af ∧ br (!af) (∃ (v : Value), ∃ (ab :
 Value), ∃ (ac : Value), ∃ (ad : Value), ∃ (ae : Value), Mem.reads m' c0b (c0o + 3) [v, ab, ac, ad, ae] ∧ ∃ (R : RT), True ∧ CX Tryz.prog 68 (Array.mk [agg (Array.mk [v, ab, ac, ad, ae])]) m' [] R ∧ Fits Shape.bool R ∧ ∀
 (ag : Bool) (aa : Mem), Mem.le m' aa → R (bool ag) aa [] → br (!ag) ([bool true] = [bool b]) (∃ (v : Value), aa c0b (c0o + 2) = some v ∧ chk (isSl v) ([bool (decide ((↑(slN v) : Int) > (16 : Int)))] = [bool b]))) (∃ (v
 : Value), m' c0b (c0o + 2) = some v ∧ chk (isSl v) ([bool (decide ((↑(slN v) : Int) > (16 : Int)))] = [bool b])))))) (∃ (v : Value), m' c1b c1o = some v ∧ ∃ (ah : Bool), v = bool ah ∧ br ah (∃ (v : Value), ∃ (ab :
 Value), ∃ (ac : Value), ∃ (ad : Value), ∃ (ae : Value), Mem.reads m' c0b (c0o + 3) [v, ab, ac, ad, ae] ∧ ∃ (R : RT), True ∧ CX Tryz.prog 67 (Array.mk [agg (Array.mk [v, ab, ac, ad, ae])]) m' [] R ∧ Fits Shape.bool R ∧ ∀
 (af : Bool) (aa : Mem), Mem.le m' aa → R (bool af) aa [] → br (!af) ([bool true] = [bool b]) (∃ (v : Value), aa c1b c1o = some v ∧ ∃ (ag : Bool), v = bool ag ∧ br (!ag) (∃ (v : Value), ∃ (ai : Value), ∃ (aj : Value), ∃
 (ak : Value), ∃ (al : Value), Mem.reads aa c0b (c0o + 3) [v, ai, aj, ak, al] ∧ ∃ (R : RT), True ∧ CX Tryz.prog 68 (Array.mk [agg (Array.mk [v, ai, aj, ak, al])]) aa [] R ∧ Fits Shape.bool R ∧ ∀ (am : Bool) (m' : Mem),
 Mem.le aa m' → R (bool am) m' [] → br (!am) ([bool true] = [bool b]) (∃ (v : Value), m' c0b (c0o + 2) = some v ∧ chk (isSl v) ([bool (decide ((↑(slN v) : Int) > (16 : Int)))] = [bool b]))) (∃ (v : Value), aa c0b (c0o +
 2) = some v ∧ chk (isSl v) ([bool (decide ((↑(slN v) : Int) > (16 : Int)))] = [bool b])))) (∃ (v : Value), m' c1b c1o = some v ∧ ∃ (af : Bool), v = bool af ∧ br (!af) (∃ (v : Value), ∃ (ab : Value), ∃ (ac : Value), ∃
 (ad : Value), ∃ (ae : Value), Mem.reads m' c0b (c0o + 3) [v, ab, ac, ad, ae] ∧ ∃ (R : RT), True ∧ CX Tryz.prog 68 (Array.mk [agg (Array.mk [v, ab, ac, ad, ae])]) m' [] R ∧ Fits Shape.bool R ∧ ∀ (ag : Bool) (aa : Mem),
 Mem.le m' aa → R (bool ag) aa [] → br (!ag) ([bool true] = [bool b]) (∃ (v : Value), aa c0b (c0o + 2) = some v ∧ chk (isSl v) ([bool (decide ((↑(slN v) : Int) > (16 : Int)))] = [bool b]))) (∃ (v : Value), m' c0b (c0o +
 2) = some v ∧ chk (isSl v) ([bool (decide ((↑(slN v) : Int) > (16 : Int)))] = [bool b]))))))) (∃ (v : Value), m' c1b c1o = some v ∧ ∃ (an : Bool), v = bool an ∧ br an (∃ (v : Value), m' c0b (c0o + 2) = some v ∧ chk
 (isSl v) (br (decide ((↑(slN v) : Int) > (0 : Int))) ([bool true] = [bool b]) (∃ (v : Value), m' c1b c1o = some v ∧ ∃ (ah : Bool), v = bool ah ∧ br ah (∃ (v : Value), ∃ (ab : Value), ∃ (ac : Value), ∃ (ad : Value), ∃
 (ae : Value), Mem.reads m' c0b (c0o + 3) [v, ab, ac, ad, ae] ∧ ∃ (R : RT), True ∧ CX Tryz.prog 67 (Array.mk [agg (Array.mk [v, ab, ac, ad, ae])]) m' [] R ∧ Fits Shape.bool R ∧ ∀ (af : Bool) (aa : Mem), Mem.le m' aa → R
 (bool af) aa [] → br (!af) ([bool true] = [bool b]) (∃ (v : Value), aa c1b c1o = some v ∧ ∃ (ag : Bool), v = bool ag ∧ br (!ag) (∃ (v : Value), ∃ (ai : Value), ∃ (aj : Value), ∃ (ak : Value), ∃ (al : Value), Mem.reads
 aa c0b (c0o + 3) [v, ai, aj, ak, al] ∧ ∃ (R : RT), True ∧ CX Tryz.prog 68 (Array.mk [agg (Array.mk [v, ai, aj, ak, al])]) aa [] R ∧ Fits Shape.bool R ∧ ∀ (am : Bool) (m' : Mem), Mem.le aa m' → R (bool am) m' [] → br
 (!am) ([bool true] = [bool b]) (∃ (v : Value), m' c0b (c0o + 2) = some v ∧ chk (isSl v) ([bool (decide ((↑(slN v) : Int) > (16 : Int)))] = [bool b]))) (∃ (v : Value), aa c0b (c0o + 2) = some v ∧ chk (isSl v) ([bool
 (decide ((↑(slN v) : Int) > (16 : Int)))] = [bool b])))) (∃ (v : Value), m' c1b c1o = some v ∧ ∃ (af : Bool), v = bool af ∧ br (!af) (∃ (v : Value), ∃ (ab : Value), ∃ (ac : Value), ∃ (ad : Value), ∃ (ae : Value),
 Mem.reads m' c0b (c0o + 3) [v, ab, ac, ad, ae] ∧ ∃ (R : RT), True ∧ CX Tryz.prog 68 (Array.mk [agg (Array.mk [v, ab, ac, ad, ae])]) m' [] R ∧ Fits Shape.bool R ∧ ∀ (ag : Bool) (aa : Mem), Mem.le m' aa → R (bool ag) aa
 [] → br (!ag) ([bool true] = [bool b]) (∃ (v : Value), aa c0b (c0o + 2) = some v ∧ chk (isSl v) ([bool (decide ((↑(slN v) : Int) > (16 : Int)))] = [bool b]))) (∃ (v : Value), m' c0b (c0o + 2) = some v ∧ chk (isSl v)
 ([bool (decide ((↑(slN v) : Int) > (16 : Int)))] = [bool b])))))) (∃ (v : Value), m' c1b c1o = some v ∧ ∃ (ah : Bool), v = bool ah ∧ br ah (∃ (v : Value), ∃ (ab : Value), ∃ (ac : Value), ∃ (ad : Value), ∃ (ae : Value),
 Mem.reads m' c0b (c0o + 3) [v, ab, ac, ad, ae] ∧ ∃ (R : RT), True ∧ CX Tryz.prog 67 (Array.mk [agg (Array.mk [v, ab, ac, ad, ae])]) m' [] R ∧ Fits Shape.bool R ∧ ∀ (af : Bool) (aa : Mem), Mem.le m' aa → R (bool af) aa
 [] → br (!af) ([bool true] = [bool b]) (∃ (v : Value), aa c1b c1o = some v ∧ ∃ (ag : Bool), v = bool ag ∧ br (!ag) (∃ (v : Value), ∃ (ai : Value), ∃ (aj : Value), ∃ (ak : Value), ∃ (al : Value), Mem.reads aa c0b (c0o +
 3) [v, ai, aj, ak, al] ∧ ∃ (R : RT), True ∧ CX Tryz.prog 68 (Array.mk [agg (Array.mk [v, ai, aj, ak, al])]) aa [] R ∧ Fits Shape.bool R ∧ ∀ (am : Bool) (m' : Mem), Mem.le aa m' → R (bool am) m' [] → br (!am) ([bool
 true] = [bool b]) (∃ (v : Value), m' c0b (c0o + 2) = some v ∧ chk (isSl v) ([bool (decide ((↑(slN v) : Int) > (16 : Int)))] = [bool b]))) (∃ (v : Value), aa c0b (c0o + 2) = some v ∧ chk (isSl v) ([bool (decide ((↑(slN
 v) : Int) > (16 : Int)))] = [bool b])))) (∃ (v : Value), m' c1b c1o = some v ∧ ∃ (af : Bool), v = bool af ∧ br (!af) (∃ (v : Value), ∃ (ab : Value), ∃ (ac : Value), ∃ (ad : Value), ∃ (ae : Value), Mem.reads m' c0b (c0o
 + 3) [v, ab, ac, ad, ae] ∧ ∃ (R : RT), True ∧ CX Tryz.prog 68 (Array.mk [agg (Array.mk [v, ab, ac, ad, ae])]) m' [] R ∧ Fits Shape.bool R ∧ ∀ (ag : Bool) (aa : Mem), Mem.le m' aa → R (bool ag) aa [] → br (!ag) ([bool
 true] = [bool b]) (∃ (v : Value), aa c0b (c0o + 2) = some v ∧ chk (isSl v) ([bool (decide ((↑(slN v) : Int) > (16 : Int)))] = [bool b]))) (∃ (v : Value), m' c0b (c0o + 2) = some v ∧ chk (isSl v) ([bool (decide ((↑(slN
 v) : Int) > (16 : Int)))] = [bool b]))))))))) ∧ ∃ (m'' : Mem), Mem.le m m'' ∧ Mem.le m'' m ∧ R (bool b) m'' []
theorem cx_check_action_1 (c0b c0o c1b c1o : Nat) (m : Mem) (R : RT) (h : VC_check_action_1 c0b c0o c1b c1o m R) : CX Tryz.prog 66 #[.pointer (some ⟨c0b, c0o, none⟩), .pointer (some ⟨c1b, c1o, none⟩)] m [] R :=
 CX_of_FW (E := E_check_action_1) EB_ok mix Tryz.func66 [.v (.pointer (some ⟨c0b, c0o, none⟩)), .v (.pointer (some ⟨c1b, c1o, none⟩))] [] (by kernel_rfl) (Eq.mp (by kernel_rfl) h)
noncomputable def E_check_action_2 : Env := { EB with
 joins := (fun i => bif Nat.beq i 2 then some [(3, .bool)] else none)
 gb := true
 ldF := (fun i => bif Nat.beq i 21 then some (.bool) else bif Nat.beq i 26 then some (.bool) else none) }
def VC_check_action_2 (c0b c0o c1b c1o c2b c2o : Nat) (m : Mem) (R : RT) : Prop :=
 ∃ (v : Value), ∃ (v_1 : Value), ∃ (v_2 : Value), Mem.reads m c0b c0o [v, v_1, v_2] ∧ ∃ (v_3 : Value), m c1b (c1o + 1) = some v_3 ∧ ∃ (R_1 : RT), True ∧ CX Tryz.prog 70 (Array.mk [agg (Array.mk [v, v_1, v_2]), v_3]) m []
 R_1 ∧ Fits (Shape.tup [Shape.bool, Shape.bool]) R_1 ∧ ∀ (b b_1 : Bool) (m' : Mem), Mem.le m m' → R_1 (tuple (Array.mk [bool b, bool b_1])) m' [] → ∃ (b_2 : Bool), (∃ (v : Value), m' c1b (c1o + 0) = some v ∧ chk (isInt
 u8 v && decide (u8 = u8)) (br (!RowKit.intOf v == (1 : Int)) (br (!b_1) ([bool true] = [bool b_2]) (∃ (v : Value), m' c2b c2o = some v ∧ ∃ (b_3 : Bool), v = bool b_3 ∧ br (!b == b_3) ([bool true] = [bool b_2]) (∃ (v :
 Value), m' c2b c2o = some v ∧ ∃ (b : Bool), v = bool b ∧ br b (∃ (v : Value), ∃ (v_4 : Value), ∃ (v_5 : Value), Mem.reads m' c0b c0o [v, v_4, v_5] ∧ ∃ (v_6 : Value), ∃ (v_7 : Value), ∃ (v_8 : Value), ∃ (v_9 : Value), ∃
 (v_10 : Value), Mem.reads m' c1b (c1o + 3) [v_6, v_7, v_8, v_9, v_10] ∧ ∃ (R : RT), True ∧ CX Tryz.prog 71 (Array.mk [agg (Array.mk [v, v_4, v_5]), agg (Array.mk [v_6, v_7, v_8, v_9, v_10])]) m' [] R ∧ Fits Shape.bool R
 ∧ ∀ (b : Bool) (m'_1 : Mem), Mem.le m' m'_1 → R (bool b) m'_1 [] → [bool !b] = [bool b_2]) ([bool false] = [bool b_2])))) (∃ (v : Value), m' c2b c2o = some v ∧ ∃ (b : Bool), v = bool b ∧ br b (∃ (v : Value), ∃ (v_4 :
 Value), ∃ (v_5 : Value), Mem.reads m' c0b c0o [v, v_4, v_5] ∧ ∃ (v_6 : Value), ∃ (v_7 : Value), ∃ (v_8 : Value), ∃ (v_9 : Value), ∃ (v_10 : Value), Mem.reads m' c1b (c1o + 3) [v_6, v_7, v_8, v_9, v_10] ∧ ∃ (R : RT),
 True ∧ CX Tryz.prog 71 (Array.mk [agg (Array.mk [v, v_4, v_5]), agg (Array.mk [v_6, v_7, v_8, v_9, v_10])]) m' [] R ∧ Fits Shape.bool R ∧ ∀ (b : Bool) (m'_1 : Mem), Mem.le m' m'_1 → R (bool b) m'_1 [] → [bool !b] =
 [bool b_2]) ([bool false] = [bool b_2])))) ∧ ∃ (m'' : Mem), Mem.le m m'' ∧ Mem.le m'' m' ∧ R (bool b_2) m'' []
theorem cx_check_action_2 (c0b c0o c1b c1o c2b c2o : Nat) (m : Mem) (R : RT) (h : VC_check_action_2 c0b c0o c1b c1o c2b c2o m R) : CX Tryz.prog 69 #[.pointer (some ⟨c0b, c0o, none⟩), .pointer (some ⟨c1b, c1o, none⟩), .pointer (some ⟨c2b, c2o, none⟩)] m [] R :=
 CX_of_FW (E := E_check_action_2) EB_ok mix Tryz.func69 [.v (.pointer (some ⟨c0b, c0o, none⟩)), .v (.pointer (some ⟨c1b, c1o, none⟩)), .v (.pointer (some ⟨c2b, c2o, none⟩))] [] (by kernel_rfl) (Eq.mp (by kernel_rfl) h)
noncomputable def E_check_action_3 : Env := { EB with
 dr := (fun i => bif Nat.beq i 1 then [⟨0, [], [], none, [], []⟩, ⟨1, [], [], none, [0], []⟩, ⟨2, [], [], none, [0, 1], []⟩, ⟨3, [], [], none, [0, 1, 2], []⟩, ⟨4, [], [], none, [0, 1, 2, 3], []⟩, ⟨5, [], [], none, [0, 1], []⟩, ⟨6, [], [], none, [0, 1, 2, 3, 4, 5], [4]⟩, ⟨7, [], [], none, [0, 1, 2, 3, 4, 5, 6], []⟩, ⟨8, [], [], none, [0, 1, 2, 3, 4, 5, 6, 7], []⟩, ⟨9, [], [], none, [0, 1, 2, 3, 4, 5, 6, 7, 8], []⟩] else [])
 gb := true
 ldF := (fun i => bif Nat.beq i 4 then some (.bool) else none) }
def VC_check_action_3 (c0b c0o c1b c1o c2b c2o : Nat) (m : Mem) (R : RT) : Prop :=
 ∃ (f : Fx), ∃ (v : Value), m c0b c0o = some v ∧ ∃ (b : Bool), v = bool b ∧ br b (∃ (v : Value), ∃ (v_1 : Value), ∃ (v_2 : Value), ∃ (v_3 : Value), ∃ (v_4 : Value), Mem.reads m c1b (c1o + 3) [v, v_1, v_2, v_3, v_4] ∧ ∃
 (R_1 : RT), R_1 = f 4 [agg (Array.mk [v, v_1, v_2, v_3, v_4])] m ∧ CX Tryz.prog 73 (Array.mk [agg (Array.mk [v, v_1, v_2, v_3, v_4])]) m [] R_1 ∧ Fits (Shape.int i64) R_1 ∧ ∀ (n : Int) (m' : Mem), Mem.le m m' → R_1 (int
 i64 n) m' [] → ∃ (v : Value), ∃ (v_5 : Value), ∃ (v_6 : Value), ∃ (v_7 : Value), ∃ (v_8 : Value), ∃ (v_9 : Value), ∃ (v_10 : Value), ∃ (v_11 : Value), ∃ (v_12 : Value), ∃ (v_13 : Value), ∃ (v_14 : Value), ∃ (v_15 :
 Value), ∃ (v_16 : Value), ∃ (v_17 : Value), ∃ (v_18 : Value), ∃ (v_19 : Value), Mem.reads m c2b c2o [v, v_5, v_6, v_7, v_8, v_9, v_10, v_11, v_12, v_13, v_14, v_15, v_16, v_17, v_18, v_19] ∧ ∃ (R_2 : RT), R_2 = f 6 [agg
 (Array.mk [v, v_5, v_6, v_7, v_8, v_9, v_10, v_11, v_12, v_13, v_14, v_15, v_16, v_17, v_18, v_19])] m' ∧ CX Tryz.prog 74 (Array.mk [agg (Array.mk [v, v_5, v_6, v_7, v_8, v_9, v_10, v_11, v_12, v_13, v_14, v_15, v_16,
 v_17, v_18, v_19])]) m' [] R_2 ∧ Fits (Shape.int i64) R_2 ∧ ∀ (n_1 : Int) (m'_1 : Mem), Mem.le m' m'_1 → R_2 (int i64 n_1) m'_1 [] → ∀ (M : Mem), Mem.le m M → Mem.le m' M → Mem.le m'_1 M → ∃ (m'' : Mem), Mem.le m m'' ∧
 Mem.le m'' M ∧ R (bool (decide (n > n_1))) m'' []) (∀ (M : Mem), Mem.le m M → Mem.le m M → Mem.le m M → ∃ (m'' : Mem), Mem.le m m'' ∧ Mem.le m'' M ∧ R (bool false) m'' [])
theorem cx_check_action_3 (c0b c0o c1b c1o c2b c2o : Nat) (m : Mem) (R : RT) (h : VC_check_action_3 c0b c0o c1b c1o c2b c2o m R) : CX Tryz.prog 72 #[.pointer (some ⟨c0b, c0o, none⟩), .pointer (some ⟨c1b, c1o, none⟩), .pointer (some ⟨c2b, c2o, none⟩)] m [] R :=
 CX_of_FW (E := E_check_action_3) EB_ok mix Tryz.func72 [.v (.pointer (some ⟨c0b, c0o, none⟩)), .v (.pointer (some ⟨c1b, c1o, none⟩)), .v (.pointer (some ⟨c2b, c2o, none⟩))] [] (by kernel_rfl) (Eq.mp (by kernel_rfl) h)
noncomputable def E_check_action : Env := { EB with
 frzNew := [3, 4, 5]
 frzAt := (fun i => bif Nat.beq i 18 then [7] else []) }
def VC_check_action (p0_0 : Int) (p0_1a : Option Addr) (p0_1n p0_1c : Nat) (p0_2a : Option Addr) (p0_2n p0_2c : Nat) (p1_0 : Int) (p1_1 p1_2 : Bool) (p1_3 p1_4 p1_5 p1_6 p1_7 p1_8 p1_9 : Int) (p1_10a : Option Addr) (p1_10n p1_10c : Nat) (p1_11 : ByteArray) (p1_12 : Int) (p1_13a : Option Addr) (p1_13n p1_13c : Nat) (p1_14 : ByteArray) (p1_15 p2_0 : Int) (p2_1 : ByteArray) (p2_2a : Option Addr) (p2_2n p2_2c : Nat) (p2_3 : Int) (p2_4 : Value) (p2_5 : ByteArray) (p2_6 : Int) (p2_7a : Option Addr) (p2_7n p2_7c : Nat) (m : Mem) (R : RT) : Prop :=
 ∀ (b : Nat) (m' : Mem), Mem.le m m' → Mem.reads m' b 0 [int i64 p0_0, slice p0_1a p0_1n p0_1c, slice p0_2a p0_2n p0_2c] → ∀ (b_1 : Nat) (m'_1 : Mem), Mem.le m' m'_1 → Mem.reads m'_1 b_1 0 [int u8 p1_0, bool p1_1, bool
 p1_2, int u8 p1_3, int u64 p1_4, int u64 p1_5, int u64 p1_6, int u64 p1_7, int i64 p1_8, int i64 p1_9, slice p1_10a p1_10n p1_10c, string p1_11, int i64 p1_12, slice p1_13a p1_13n p1_13c, string p1_14, int i64 p1_15] →
 ∀ (b_2 : Nat) (m' : Mem), Mem.le m'_1 m' → Mem.reads m' b_2 0 [int u8 p2_0, string p2_1, slice p2_2a p2_2n p2_2c, int u8 p2_3, p2_4, string p2_5, int i64 p2_6, slice p2_7a p2_7n p2_7c] → ∀ (b_3 b_4 : Nat), Mem.free m'
 b_4 → ∀ (m'_2 : Mem), Mem.le (Mem.add m' b_4 [int i64 307, func (Fn.func 66) (Array.mk []) (Array.mk [Value.pointer (some (Addr.mk b_2 0 none)), Value.pointer (some (Addr.mk b_3 0 none))]), int i64 308, func (Fn.func
 69) (Array.mk []) (Array.mk [Value.pointer (some (Addr.mk b 0 none)), Value.pointer (some (Addr.mk b_2 0 none)), Value.pointer (some (Addr.mk b_3 0 none))]), int i64 309, func (Fn.func 72) (Array.mk []) (Array.mk
 [Value.pointer (some (Addr.mk b_3 0 none)), Value.pointer (some (Addr.mk b_2 0 none)), Value.pointer (some (Addr.mk b_1 0 none))])]) m'_2 → Mem.reads m'_2 b_3 0 [bool (p2_0 == (3 : Int))] → ∃ (R_1 : RT), True ∧ CX
 Tryz.prog 48 (Array.mk [slice (some (Addr.mk b_4 0 none)) 3 3]) m'_2 [] R_1 ∧ Fits (Shape.int i64) R_1 ∧ ∀ (n : Int) (m' : Mem), Mem.le m'_2 m' → R_1 (int i64 n) m' [] → ∃ (m'' : Mem), Mem.le m m'' ∧ Mem.le m'' m' ∧ R
 (int i64 n) m'' []
theorem cx_check_action (p0_0 : Int) (p0_1a : Option Addr) (p0_1n p0_1c : Nat) (p0_2a : Option Addr) (p0_2n p0_2c : Nat) (p1_0 : Int) (p1_1 p1_2 : Bool) (p1_3 p1_4 p1_5 p1_6 p1_7 p1_8 p1_9 : Int) (p1_10a : Option Addr) (p1_10n p1_10c : Nat) (p1_11 : ByteArray) (p1_12 : Int) (p1_13a : Option Addr) (p1_13n p1_13c : Nat) (p1_14 : ByteArray) (p1_15 p2_0 : Int) (p2_1 : ByteArray) (p2_2a : Option Addr) (p2_2n p2_2c : Nat) (p2_3 : Int) (p2_4 : Value) (p2_5 : ByteArray) (p2_6 : Int) (p2_7a : Option Addr) (p2_7n p2_7c : Nat) (m : Mem) (R : RT) (h : VC_check_action p0_0 p0_1a p0_1n p0_1c p0_2a p0_2n p0_2c p1_0 p1_1 p1_2 p1_3 p1_4 p1_5 p1_6 p1_7 p1_8 p1_9 p1_10a p1_10n p1_10c p1_11 p1_12 p1_13a p1_13n p1_13c p1_14 p1_15 p2_0 p2_1 p2_2a p2_2n p2_2c p2_3 p2_4 p2_5 p2_6 p2_7a p2_7n p2_7c m R) : CX Tryz.prog 42 #[.agg #[.int .i64 p0_0, .slice p0_1a p0_1n p0_1c, .slice p0_2a p0_2n p0_2c], .agg #[.int .u8 p1_0, .bool p1_1, .bool p1_2, .int .u8 p1_3, .int .u64 p1_4, .int .u64 p1_5, .int .u64 p1_6, .int .u64 p1_7, .int .i64 p1_8, .int .i64 p1_9, .slice p1_10a p1_10n p1_10c, .string p1_11, .int .i64 p1_12, .slice p1_13a p1_13n p1_13c, .string p1_14, .int .i64 p1_15], .agg #[.int .u8 p2_0, .string p2_1, .slice p2_2a p2_2n p2_2c, .int .u8 p2_3, p2_4, .string p2_5, .int .i64 p2_6, .slice p2_7a p2_7n p2_7c]] m [] R :=
 CX_of_FW (E := E_check_action) EB_ok mix Tryz.func42 [.v (.agg #[.int .i64 p0_0, .slice p0_1a p0_1n p0_1c, .slice p0_2a p0_2n p0_2c]), .v (.agg #[.int .u8 p1_0, .bool p1_1, .bool p1_2, .int .u8 p1_3, .int .u64 p1_4, .int .u64 p1_5, .int .u64 p1_6, .int .u64 p1_7, .int .i64 p1_8, .int .i64 p1_9, .slice p1_10a p1_10n p1_10c, .string p1_11, .int .i64 p1_12, .slice p1_13a p1_13n p1_13c, .string p1_14, .int .i64 p1_15]), .v (.agg #[.int .u8 p2_0, .string p2_1, .slice p2_2a p2_2n p2_2c, .int .u8 p2_3, p2_4, .string p2_5, .int .i64 p2_6, .slice p2_7a p2_7n p2_7c])] [] (by kernel_rfl) (Eq.mp (by kernel_rfl) h)
noncomputable def E_check_part_1 : Env := { EB with
 joins := (fun i => bif Nat.beq i 1 then some [(3, .bool)] else none) }
def VC_check_part_1 (c0b c0o c1b c1o c2b c2o : Nat) (m : Mem) (R : RT) : Prop :=
 ∃ (b : Bool), (∃ (v : Value), ∃ (v_1 : Value), ∃ (v_2 : Value), ∃ (v_3 : Value), ∃ (v_4 : Value), ∃ (v_5 : Value), ∃ (v_6 : Value), ∃ (v_7 : Value), Mem.reads m c0b c0o [v, v_1, v_2, v_3, v_4, v_5, v_6, v_7] ∧ ∃ (R :
 RT), True ∧ CX Tryz.prog 76 (Array.mk [agg (Array.mk [v, v_1, v_2, v_3, v_4, v_5, v_6, v_7])]) m [] R ∧ Fits Shape.bool R ∧ ∀ (b_1 : Bool) (m' : Mem), Mem.le m m' → R (bool b_1) m' [] → br (!b_1) ([bool true] = [bool
 b]) (∃ (v : Value), m' c1b c1o = some v ∧ chk (isInt i64 v && decide (i64 = i64)) (br (decide (RowKit.intOf v > (0 : Int))) (∃ (v : Value), m' c0b (c0o + 0) = some v ∧ chk (isInt u8 v && decide (u8 = u8)) (br
 (RowKit.intOf v == (1 : Int)) (∃ (v : Value), m' c2b c2o = some v ∧ ∃ (v_8 : Value), m' c1b c1o = some v_8 ∧ chk (isInt i64 v_8 && decide (i64 = i64)) (chk (isSl v) (∃ (b_2 : Nat), ∃ (o : Nat), slA v = some (Addr.mk b_2
 o none) ∧ inRange (IntKind.wrap i64 (RowKit.intOf v_8 - (1 : Int))) (slN v) ∧ ∃ (v : Value), m' b_2 (o + Int.toNat (IntKind.wrap i64 (RowKit.intOf v_8 - (1 : Int))) * 8 + 0) = some v ∧ chk (isInt u8 v && decide (u8 =
 u8)) ([bool (RowKit.intOf v == (1 : Int))] = [bool b])))) ([bool false] = [bool b]))) ([bool false] = [bool b])))) ∧ ∃ (m'' : Mem), Mem.le m m'' ∧ Mem.le m'' m ∧ R (bool b) m'' []
theorem cx_check_part_1 (c0b c0o c1b c1o c2b c2o : Nat) (m : Mem) (R : RT) (h : VC_check_part_1 c0b c0o c1b c1o c2b c2o m R) : CX Tryz.prog 75 #[.pointer (some ⟨c0b, c0o, none⟩), .pointer (some ⟨c1b, c1o, none⟩), .pointer (some ⟨c2b, c2o, none⟩)] m [] R :=
 CX_of_FW (E := E_check_part_1) EB_ok mix Tryz.func75 [.v (.pointer (some ⟨c0b, c0o, none⟩)), .v (.pointer (some ⟨c1b, c1o, none⟩)), .v (.pointer (some ⟨c2b, c2o, none⟩))] [] (by kernel_rfl) (Eq.mp (by kernel_rfl) h)
noncomputable def E_check_part_2 : Env := { EB with
 joins := (fun i => bif Nat.beq i 2 then some [(2, .bool)] else none) }
def VC_check_part_2 (c0b c0o c1b c1o : Nat) (m : Mem) (R : RT) : Prop :=
 ∃ (v : Value), ∃ (v_1 : Value), ∃ (v_2 : Value), Mem.reads m c0b c0o [v, v_1, v_2] ∧ ∃ (v_3 : Value), m c1b (c1o + 1) = some v_3 ∧ ∃ (R_1 : RT), True ∧ CX Tryz.prog 70 (Array.mk [agg (Array.mk [v, v_1, v_2]), v_3]) m []
 R_1 ∧ Fits (Shape.tup [Shape.bool, Shape.bool]) R_1 ∧ ∀ (b b_1 : Bool) (m' : Mem), Mem.le m m' → R_1 (tuple (Array.mk [bool b, bool b_1])) m' [] → ∃ (b : Bool), (∃ (v : Value), m' c1b (c1o + 0) = some v ∧ chk (isInt u8
 v && decide (u8 = u8)) (br (RowKit.intOf v == (2 : Int)) (br (!b_1) ([bool true] = [bool b]) (∃ (v : Value), m' c1b (c1o + 0) = some v ∧ chk (isInt u8 v && decide (u8 = u8)) (br (RowKit.intOf v == (4 : Int)) (∃ (v :
 Value), ∃ (v_4 : Value), ∃ (v_5 : Value), Mem.reads m' c0b c0o [v, v_4, v_5] ∧ ∃ (v_6 : Value), ∃ (v_7 : Value), ∃ (v_8 : Value), ∃ (v_9 : Value), ∃ (v_10 : Value), Mem.reads m' c1b (c1o + 3) [v_6, v_7, v_8, v_9, v_10]
 ∧ ∃ (R : RT), True ∧ CX Tryz.prog 71 (Array.mk [agg (Array.mk [v, v_4, v_5]), agg (Array.mk [v_6, v_7, v_8, v_9, v_10])]) m' [] R ∧ Fits Shape.bool R ∧ ∀ (b_2 : Bool) (m'_1 : Mem), Mem.le m' m'_1 → R (bool b_2) m'_1 []
 → [bool !b_2] = [bool b]) ([bool false] = [bool b])))) (∃ (v : Value), m' c1b (c1o + 0) = some v ∧ chk (isInt u8 v && decide (u8 = u8)) (br (RowKit.intOf v == (4 : Int)) (∃ (v : Value), ∃ (v_4 : Value), ∃ (v_5 : Value),
 Mem.reads m' c0b c0o [v, v_4, v_5] ∧ ∃ (v_6 : Value), ∃ (v_7 : Value), ∃ (v_8 : Value), ∃ (v_9 : Value), ∃ (v_10 : Value), Mem.reads m' c1b (c1o + 3) [v_6, v_7, v_8, v_9, v_10] ∧ ∃ (R : RT), True ∧ CX Tryz.prog 71
 (Array.mk [agg (Array.mk [v, v_4, v_5]), agg (Array.mk [v_6, v_7, v_8, v_9, v_10])]) m' [] R ∧ Fits Shape.bool R ∧ ∀ (b_2 : Bool) (m'_1 : Mem), Mem.le m' m'_1 → R (bool b_2) m'_1 [] → [bool !b_2] = [bool b]) ([bool
 false] = [bool b]))))) ∧ ∃ (m'' : Mem), Mem.le m m'' ∧ Mem.le m'' m' ∧ R (bool b) m'' []
theorem cx_check_part_2 (c0b c0o c1b c1o : Nat) (m : Mem) (R : RT) (h : VC_check_part_2 c0b c0o c1b c1o m R) : CX Tryz.prog 77 #[.pointer (some ⟨c0b, c0o, none⟩), .pointer (some ⟨c1b, c1o, none⟩)] m [] R :=
 CX_of_FW (E := E_check_part_2) EB_ok mix Tryz.func77 [.v (.pointer (some ⟨c0b, c0o, none⟩)), .v (.pointer (some ⟨c1b, c1o, none⟩))] [] (by kernel_rfl) (Eq.mp (by kernel_rfl) h)
noncomputable def E_check_part_3 : Env := { EB with
 dr := (fun i => bif Nat.beq i 1 then [⟨0, [], [], none, [], []⟩, ⟨1, [], [], none, [0], []⟩, ⟨2, [], [], none, [0, 1], []⟩, ⟨3, [], [], none, [0, 1, 2], []⟩, ⟨4, [], [], none, [0, 1, 2, 3], []⟩, ⟨5, [], [], none, [0, 1, 2, 3, 4], []⟩, ⟨6, [], [], none, [0, 1, 2, 3], []⟩, ⟨7, [], [], none, [0, 1, 2, 3, 6], []⟩, ⟨8, [], [], none, [0, 1, 2, 3, 4, 5, 6, 7], []⟩, ⟨9, [], [], none, [0, 1, 2, 3, 4, 5, 6, 7, 8], []⟩, ⟨10, [], [], none, [0, 1, 2, 3, 4, 5, 6, 7, 8, 9], []⟩, ⟨11, [], [], none, [0, 1, 2, 3, 4, 5, 6, 7, 8, 9, 10], []⟩, ⟨12, [], [], none, rg 0 12, [7]⟩, ⟨13, [], [], none, rg 0 13, []⟩, ⟨14, [], [], none, rg 0 14, []⟩, ⟨15, [], [], none, rg 0 15, []⟩, ⟨16, [], [], none, rg 0 16, [7]⟩, ⟨17, [], [], none, rg 0 17, [7]⟩, ⟨18, [], [], none, rg 0 15, [7]⟩, ⟨19, [], [], none, rg 0 19, [17]⟩, ⟨20, [], [], none, rg 0 20, []⟩, ⟨21, [], [], none, rg 0 21, []⟩, ⟨22, [], [], none, rg 0 22, []⟩, ⟨23, [], [], none, rg 0 23, []⟩] else [])
 gb := true }
def VC_check_part_3 (c0b c0o c1b c1o : Nat) (m : Mem) (R : RT) : Prop :=
 ∃ (f : Fx), ∃ (v : Value), m c0b (c0o + 0) = some v ∧ chk (isInt u8 v && decide (u8 = u8)) (br (RowKit.intOf v == (3 : Int)) (∃ (v : Value), m c0b (c0o + 2) = some v ∧ ∃ (ab : Value), ∃ (ac : Value), ∃ (ad : Value), ∃
 (ae : Value), ∃ (af : Value), ∃ (ag : Value), ∃ (ah : Value), ∃ (ai : Value), ∃ (aj : Value), ∃ (ak : Value), ∃ (al : Value), ∃ (am : Value), ∃ (an : Value), ∃ (ao : Value), ∃ (ap : Value), ∃ (aq : Value), Mem.reads m
 c1b c1o [ab, ac, ad, ae, af, ag, ah, ai, aj, ak, al, am, an, ao, ap, aq] ∧ ∃ (R_1 : RT), R_1 = f 7 [agg (Array.mk [ab, ac, ad, ae, af, ag, ah, ai, aj, ak, al, am, an, ao, ap, aq])] m ∧ CX Tryz.prog 74 (Array.mk [agg
 (Array.mk [ab, ac, ad, ae, af, ag, ah, ai, aj, ak, al, am, an, ao, ap, aq])]) m [] R_1 ∧ Fits (Shape.int i64) R_1 ∧ ∀ (n : Int) (m' : Mem), Mem.le m m' → R_1 (int i64 n) m' [] → chk (isInt i64 v && decide (i64 = i64))
 (br (decide (RowKit.intOf v > n)) (∀ (M : Mem), Mem.le m M → Mem.le m' M → Mem.le m' M → Mem.le m' M → ∃ (m'' : Mem), Mem.le m m'' ∧ Mem.le m'' M ∧ R (bool true) m'' []) (∃ (v : Value), m' c0b (c0o + 0) = some v ∧ chk
 (isInt u8 v && decide (u8 = u8)) (br (RowKit.intOf v == (4 : Int)) (∃ (v : Value), ∃ (ar : Value), ∃ (au : Value), ∃ (av : Value), ∃ (ax : Value), Mem.reads m' c0b (c0o + 3) [v, ar, au, av, ax] ∧ ∃ (R_2 : RT), R_2 = f
 17 [agg (Array.mk [v, ar, au, av, ax])] m' ∧ CX Tryz.prog 73 (Array.mk [agg (Array.mk [v, ar, au, av, ax])]) m' [] R_2 ∧ Fits (Shape.int i64) R_2 ∧ ∀ (n : Int) (aa : Mem), Mem.le m' aa → R_2 (int i64 n) aa [] → ∃ (v :
 Value), ∃ (ay : Value), ∃ (az : Value), ∃ (a0 : Value), ∃ (a1 : Value), ∃ (a2 : Value), ∃ (a3 : Value), ∃ (a4 : Value), ∃ (a5 : Value), ∃ (a6 : Value), ∃ (a7 : Value), ∃ (a8 : Value), ∃ (a9 : Value), ∃ (ba : Value), ∃
 (bb : Value), ∃ (bc : Value), Mem.reads m' c1b c1o [v, ay, az, a0, a1, a2, a3, a4, a5, a6, a7, a8, a9, ba, bb, bc] ∧ ∃ (R_3 : RT), R_3 = f 19 [agg (Array.mk [v, ay, az, a0, a1, a2, a3, a4, a5, a6, a7, a8, a9, ba, bb,
 bc])] aa ∧ CX Tryz.prog 74 (Array.mk [agg (Array.mk [v, ay, az, a0, a1, a2, a3, a4, a5, a6, a7, a8, a9, ba, bb, bc])]) aa [] R_3 ∧ Fits (Shape.int i64) R_3 ∧ ∀ (aw : Int) (bd : Mem), Mem.le aa bd → R_3 (int i64 aw) bd
 [] → ∀ (M : Mem), Mem.le m M → Mem.le m' M → Mem.le aa M → Mem.le bd M → ∃ (m'' : Mem), Mem.le m m'' ∧ Mem.le m'' M ∧ R (bool (decide (n > aw))) m'' []) (∀ (M : Mem), Mem.le m M → Mem.le m' M → Mem.le m' M → Mem.le m' M
 → ∃ (m'' : Mem), Mem.le m m'' ∧ Mem.le m'' M ∧ R (bool false) m'' []))))) (∃ (v : Value), m c0b (c0o + 0) = some v ∧ chk (isInt u8 v && decide (u8 = u8)) (br (RowKit.intOf v == (4 : Int)) (∃ (v : Value), ∃ (ab : Value),
 ∃ (ac : Value), ∃ (ad : Value), ∃ (ae : Value), Mem.reads m c0b (c0o + 3) [v, ab, ac, ad, ae] ∧ ∃ (R_1 : RT), R_1 = f 17 [agg (Array.mk [v, ab, ac, ad, ae])] m ∧ CX Tryz.prog 73 (Array.mk [agg (Array.mk [v, ab, ac, ad,
 ae])]) m [] R_1 ∧ Fits (Shape.int i64) R_1 ∧ ∀ (n : Int) (m' : Mem), Mem.le m m' → R_1 (int i64 n) m' [] → ∃ (v : Value), ∃ (af : Value), ∃ (ag : Value), ∃ (ah : Value), ∃ (ai : Value), ∃ (aj : Value), ∃ (ak : Value), ∃
 (al : Value), ∃ (am : Value), ∃ (an : Value), ∃ (ao : Value), ∃ (ap : Value), ∃ (aq : Value), ∃ (ar : Value), ∃ (au : Value), ∃ (av : Value), Mem.reads m c1b c1o [v, af, ag, ah, ai, aj, ak, al, am, an, ao, ap, aq, ar,
 au, av] ∧ ∃ (R_2 : RT), R_2 = f 19 [agg (Array.mk [v, af, ag, ah, ai, aj, ak, al, am, an, ao, ap, aq, ar, au, av])] m' ∧ CX Tryz.prog 74 (Array.mk [agg (Array.mk [v, af, ag, ah, ai, aj, ak, al, am, an, ao, ap, aq, ar,
 au, av])]) m' [] R_2 ∧ Fits (Shape.int i64) R_2 ∧ ∀ (aw : Int) (aa : Mem), Mem.le m' aa → R_2 (int i64 aw) aa [] → ∀ (M : Mem), Mem.le m M → Mem.le m M → Mem.le m' M → Mem.le aa M → ∃ (m'' : Mem), Mem.le m m'' ∧ Mem.le
 m'' M ∧ R (bool (decide (n > aw))) m'' []) (∀ (M : Mem), Mem.le m M → Mem.le m M → Mem.le m M → Mem.le m M → ∃ (m'' : Mem), Mem.le m m'' ∧ Mem.le m'' M ∧ R (bool false) m'' []))))
theorem cx_check_part_3 (c0b c0o c1b c1o : Nat) (m : Mem) (R : RT) (h : VC_check_part_3 c0b c0o c1b c1o m R) : CX Tryz.prog 78 #[.pointer (some ⟨c0b, c0o, none⟩), .pointer (some ⟨c1b, c1o, none⟩)] m [] R :=
 CX_of_FW (E := E_check_part_3) EB_ok mix Tryz.func78 [.v (.pointer (some ⟨c0b, c0o, none⟩)), .v (.pointer (some ⟨c1b, c1o, none⟩))] [] (by kernel_rfl) (Eq.mp (by kernel_rfl) h)
noncomputable def E_check_part : Env := { EB with
 frzNew := [4, 5, 6, 7]
 frzAt := (fun i => bif Nat.beq i 21 then [9] else []) }
def VC_check_part (p0_0 : Int) (p0_1a : Option Addr) (p0_1n p0_1c : Nat) (p0_2a : Option Addr) (p0_2n p0_2c : Nat) (p1_0 : Int) (p1_1 p1_2 : Bool) (p1_3 p1_4 p1_5 p1_6 p1_7 p1_8 p1_9 : Int) (p1_10a : Option Addr) (p1_10n p1_10c : Nat) (p1_11 : ByteArray) (p1_12 : Int) (p1_13a : Option Addr) (p1_13n p1_13c : Nat) (p1_14 : ByteArray) (p1_15 : Int) (p2a : Option Addr) (p2n p2c : Nat) (p3 : Int) (m : Mem) (R : RT) : Prop :=
 ∀ (b : Nat) (m' : Mem), Mem.le m m' → Mem.reads m' b 0 [int i64 p0_0, slice p0_1a p0_1n p0_1c, slice p0_2a p0_2n p0_2c] → ∀ (b_1 : Nat) (m'_1 : Mem), Mem.le m' m'_1 → Mem.reads m'_1 b_1 0 [int u8 p1_0, bool p1_1, bool
 p1_2, int u8 p1_3, int u64 p1_4, int u64 p1_5, int u64 p1_6, int u64 p1_7, int i64 p1_8, int i64 p1_9, slice p1_10a p1_10n p1_10c, string p1_11, int i64 p1_12, slice p1_13a p1_13n p1_13c, string p1_14, int i64 p1_15] →
 ∀ (b_2 : Nat) (m' : Mem), Mem.le m'_1 m' → Mem.reads m' b_2 0 [slice p2a p2n p2c] → ∀ (b_3 : Nat) (m'_2 : Mem), Mem.le m' m'_2 → Mem.reads m'_2 b_3 0 [int i64 p3] → ∃ (b_4 : Nat), ∃ (o : Nat), p2a = some (Addr.mk b_4 o
 none) ∧ inRange p3 p2n ∧ ∃ (v : Value), ∃ (v_1 : Value), ∃ (v_2 : Value), ∃ (v_3 : Value), ∃ (v_4 : Value), ∃ (v_5 : Value), ∃ (v_6 : Value), ∃ (v_7 : Value), Mem.reads m'_2 b_4 (o + Int.toNat p3 * 8) [v, v_1, v_2, v_3,
 v_4, v_5, v_6, v_7] ∧ ∀ (b_5 : Nat), chk (Value.oneCell' v && (Value.oneCell' v_1 && (Value.oneCell' v_2 && (Value.oneCell' v_3 && (Value.oneCell' v_4 && (Value.oneCell' v_5 && (Value.oneCell' v_6 && (Value.oneCell' v_7
 && true)))))))) (∀ (b_6 : Nat), Mem.free m'_2 b_6 → ∀ (m' : Mem), Mem.le (Mem.add m'_2 b_6 [int i64 307, func (Fn.func 75) (Array.mk []) (Array.mk [Value.pointer (some (Addr.mk b_5 0 none)), Value.pointer (some (Addr.mk
 b_3 0 none)), Value.pointer (some (Addr.mk b_2 0 none))]), int i64 308, func (Fn.func 77) (Array.mk []) (Array.mk [Value.pointer (some (Addr.mk b 0 none)), Value.pointer (some (Addr.mk b_5 0 none))]), int i64 309, func
 (Fn.func 78) (Array.mk []) (Array.mk [Value.pointer (some (Addr.mk b_5 0 none)), Value.pointer (some (Addr.mk b_1 0 none))])]) m' → Mem.reads m' b_5 0 [v, v_1, v_2, v_3, v_4, v_5, v_6, v_7] → ∃ (R_1 : RT), True ∧ CX
 Tryz.prog 48 (Array.mk [slice (some (Addr.mk b_6 0 none)) 3 3]) m' [] R_1 ∧ Fits (Shape.int i64) R_1 ∧ ∀ (n : Int) (m'_3 : Mem), Mem.le m' m'_3 → R_1 (int i64 n) m'_3 [] → ∃ (m'' : Mem), Mem.le m m'' ∧ Mem.le m'' m'_3 ∧
 R (int i64 n) m'' [])
theorem cx_check_part (p0_0 : Int) (p0_1a : Option Addr) (p0_1n p0_1c : Nat) (p0_2a : Option Addr) (p0_2n p0_2c : Nat) (p1_0 : Int) (p1_1 p1_2 : Bool) (p1_3 p1_4 p1_5 p1_6 p1_7 p1_8 p1_9 : Int) (p1_10a : Option Addr) (p1_10n p1_10c : Nat) (p1_11 : ByteArray) (p1_12 : Int) (p1_13a : Option Addr) (p1_13n p1_13c : Nat) (p1_14 : ByteArray) (p1_15 : Int) (p2a : Option Addr) (p2n p2c : Nat) (p3 : Int) (m : Mem) (R : RT) (h : VC_check_part p0_0 p0_1a p0_1n p0_1c p0_2a p0_2n p0_2c p1_0 p1_1 p1_2 p1_3 p1_4 p1_5 p1_6 p1_7 p1_8 p1_9 p1_10a p1_10n p1_10c p1_11 p1_12 p1_13a p1_13n p1_13c p1_14 p1_15 p2a p2n p2c p3 m R) : CX Tryz.prog 43 #[.agg #[.int .i64 p0_0, .slice p0_1a p0_1n p0_1c, .slice p0_2a p0_2n p0_2c], .agg #[.int .u8 p1_0, .bool p1_1, .bool p1_2, .int .u8 p1_3, .int .u64 p1_4, .int .u64 p1_5, .int .u64 p1_6, .int .u64 p1_7, .int .i64 p1_8, .int .i64 p1_9, .slice p1_10a p1_10n p1_10c, .string p1_11, .int .i64 p1_12, .slice p1_13a p1_13n p1_13c, .string p1_14, .int .i64 p1_15], .slice p2a p2n p2c, .int .i64 p3] m [] R :=
 CX_of_FW (E := E_check_part) EB_ok mix Tryz.func43 [.v (.agg #[.int .i64 p0_0, .slice p0_1a p0_1n p0_1c, .slice p0_2a p0_2n p0_2c]), .v (.agg #[.int .u8 p1_0, .bool p1_1, .bool p1_2, .int .u8 p1_3, .int .u64 p1_4, .int .u64 p1_5, .int .u64 p1_6, .int .u64 p1_7, .int .i64 p1_8, .int .i64 p1_9, .slice p1_10a p1_10n p1_10c, .string p1_11, .int .i64 p1_12, .slice p1_13a p1_13n p1_13c, .string p1_14, .int .i64 p1_15]), .v (.slice p2a p2n p2c), .v (.int .i64 p3)] [] (by kernel_rfl) (Eq.mp (by kernel_rfl) h)
noncomputable def E_check_totals : Env := { EB with
 loops := (fun i => bif Nat.beq i 4 then ⟨[(3, .int .i64), (4, .slice), (13, .int .i64)], [], [(41, 1)], false⟩ else bif Nat.beq i 8 then ⟨[(3, .int .i64), (7, .slice), (20, .int .i64)], [], [(36, 1)], false⟩ else ⟨[], [], [], false⟩)
 tokOf := (fun i => bif Nat.beq i 36 then 36 else bif Nat.beq i 41 then 41 else 0)
 frzNew := [1] }
def VC_check_totals (p0_0 : Int) (p0_1a : Option Addr) (p0_1n p0_1c : Nat) (p0_2a : Option Addr) (p0_2n p0_2c : Nat) (m : Mem) (R : RT) : Prop :=
 ∀ (b : Nat) (m' : Mem), Mem.le m m' → Mem.reads m' b 0 [int i64 p0_0, slice p0_1a p0_1n p0_1c, slice p0_2a p0_2n p0_2c] → ∃ (I : IT), (∃ (n : Nat), I [int i64 0, slice none 0 0, int i64 0] [] [slice none 0 0] m' n) ∧ ∀
 (n : Int) (a : Option Addr) (ae c : Nat) (an : Int) (ai : Option Addr) (aj ak : Nat) (al : Mem) (a6 : Nat), Mem.le m' al → I [int i64 n, slice a ae c, int i64 an] [] [slice ai aj ak] al a6 → br (decide (an < (↑p0_2n :
 Int))) (∃ (a7 : Nat), ∃ (o : Nat), p0_2a = some (Addr.mk a7 o none) ∧ inRange an p0_2n ∧ ∃ (v : Value), ∃ (ac : Value), Mem.reads al a7 (o + Int.toNat an * 2) [v, ac] ∧ ∀ (ap : Nat), chk (Value.oneCell' v &&
 (Value.oneCell' ac && true)) (chk (isSl ac) (∃ (aq : IT), (∃ (aa : Nat), aq [int i64 n, slice none 0 0, int i64 0] [] [slice none 0 0] al aa) ∧ ∀ (n : Int) (af : Option Addr) (aa ag : Nat) (am : Int) (au : Option Addr)
 (av aw : Nat) (m' : Mem) (ax : Nat), Mem.le al m' → aq [int i64 n, slice af aa ag, int i64 am] [] [slice au av aw] m' ax → br (decide (am < (↑(slN ac) : Int))) (chk (isSl ac) (∃ (ah : Nat), ∃ (o : Nat), slA ac = some
 (Addr.mk ah o none) ∧ inRange am (slN ac) ∧ ∃ (ar : Value), ∃ (a8 : Value), ∃ (a9 : Value), ∃ (ay : Value), ∃ (az : Value), ∃ (a0 : Value), ∃ (a1 : Value), ∃ (a2 : Value), ∃ (a3 : Value), ∃ (a4 : Value), ∃ (a5 : Value),
 ∃ (ba : Value), ∃ (bb : Value), ∃ (bc : Value), ∃ (bd : Value), ∃ (be : Value), Mem.reads m' ah (o + Int.toNat am * 16) [ar, a8, a9, ay, az, a0, a1, a2, a3, a4, a5, ba, bb, bc, bd, be] ∧ ∀ (bf : Nat), chk
 (Value.oneCell' ar && (Value.oneCell' a8 && (Value.oneCell' a9 && (Value.oneCell' ay && (Value.oneCell' az && (Value.oneCell' a0 && (Value.oneCell' a1 && (Value.oneCell' a2 && (Value.oneCell' a3 && (Value.oneCell' a4 &&
 (Value.oneCell' a5 && (Value.oneCell' ba && (Value.oneCell' bb && (Value.oneCell' bc && (Value.oneCell' bd && (Value.oneCell' be && true)))))))))))))))) (chk (isInt u8 ar && decide (u8 = u8)) (br (RowKit.intOf ar == (1
 : Int)) (∃ (R : RT), True ∧ CX Tryz.prog 32 (Array.mk [agg (Array.mk [ay, az, a0, a1, a2, a3, a4, a5])]) m' [] R ∧ Fits (Shape.int i64) R ∧ ∀ (ao : Int) (ab : Mem), Mem.le m' ab → R (int i64 ao) ab [] → ∀ (ad : Nat),
 Mem.free ab ad → (Tok.mk (slice au av aw) 1 = Tok.mk (slice af aa ag) 1 ∨ slice af aa ag = slice none 0 0 ∨ ag < aa + 1) ∧ ∃ (xs : List Value), ∃ (ys : List Value), List.length xs = aa * 1 ∧ List.length ys = 1 * 1 ∧
 rowRd (Mem.add ab ad [int i64 (IntKind.wrap i64 (n + ao))]) af xs ∧ rowRd (Mem.add ab ad [int i64 (IntKind.wrap i64 (n + ao))]) (some (Addr.mk ad 0 none)) ys ∧ (∀ (u : Value), u ∈ ys → Value.oneCell' u = true) ∧ (aa +
 1) * 8 ≤ 140737488355328 ∧ aa + 1 ≤ 9223372036854775807 ∧ ∀ (a' : Option Addr) (c' : Nat) (m' : Mem), Mem.le (Mem.add ab ad [int i64 (IntKind.wrap i64 (n + ao))]) m' → rowRd m' a' (List.append xs ys) → [some (Box.mk ap
 [v, ac] 70 2 false true), some (Box.mk b [int i64 p0_0, slice p0_1a p0_1n p0_1c, slice p0_2a p0_2n p0_2c] 27 3 true true)] = [some (Box.mk ap [v, ac] 70 2 false true), some (Box.mk b [int i64 p0_0, slice p0_1a p0_1n
 p0_1c, slice p0_2a p0_2n p0_2c] 27 3 true true)] ∧ [some (Tok.mk (slice ai aj ak) 1)] = [some (Tok.mk (slice ai aj ak) 1)] ∧ ∃ (n' : Nat), n' < ax ∧ aq [int i64 (IntKind.wrap i64 (n + ao)), slice a' (aa + 1) c', int i64
 (IntKind.wrap i64 (am + (1 : Int)))] [] [slice a' (aa + 1) c'] m' n') (∀ (ad : Nat), Mem.free m' ad → (Tok.mk (slice au av aw) 1 = Tok.mk (slice af aa ag) 1 ∨ slice af aa ag = slice none 0 0 ∨ ag < aa + 1) ∧ ∃ (xs :
 List Value), ∃ (ys : List Value), List.length xs = aa * 1 ∧ List.length ys = 1 * 1 ∧ rowRd (Mem.add m' ad [int i64 n]) af xs ∧ rowRd (Mem.add m' ad [int i64 n]) (some (Addr.mk ad 0 none)) ys ∧ (∀ (u : Value), u ∈ ys →
 Value.oneCell' u = true) ∧ (aa + 1) * 8 ≤ 140737488355328 ∧ aa + 1 ≤ 9223372036854775807 ∧ ∀ (a' : Option Addr) (c' : Nat) (ab : Mem), Mem.le (Mem.add m' ad [int i64 n]) ab → rowRd ab a' (List.append xs ys) → [some
 (Box.mk ap [v, ac] 70 2 false true), some (Box.mk b [int i64 p0_0, slice p0_1a p0_1n p0_1c, slice p0_2a p0_2n p0_2c] 27 3 true true)] = [some (Box.mk ap [v, ac] 70 2 false true), some (Box.mk b [int i64 p0_0, slice
 p0_1a p0_1n p0_1c, slice p0_2a p0_2n p0_2c] 27 3 true true)] ∧ [some (Tok.mk (slice ai aj ak) 1)] = [some (Tok.mk (slice ai aj ak) 1)] ∧ ∃ (n' : Nat), n' < ax ∧ aq [int i64 n, slice a' (aa + 1) c', int i64 (IntKind.wrap
 i64 (am + (1 : Int)))] [] [slice a' (aa + 1) c'] ab n'))))) (∀ (ah : Nat), Mem.free m' ah → (Tok.mk (slice ai aj ak) 1 = Tok.mk (slice a ae c) 1 ∨ slice a ae c = slice none 0 0 ∨ c < ae + 1) ∧ ∃ (xs : List Value), ∃ (ys
 : List Value), List.length xs = ae * 1 ∧ List.length ys = 1 * 1 ∧ rowRd (Mem.add m' ah [slice af aa ag]) a xs ∧ rowRd (Mem.add m' ah [slice af aa ag]) (some (Addr.mk ah 0 none)) ys ∧ (∀ (u : Value), u ∈ ys →
 Value.oneCell' u = true) ∧ (ae + 1) * 24 ≤ 140737488355328 ∧ ae + 1 ≤ 9223372036854775807 ∧ ∀ (a' : Option Addr) (c' : Nat) (ab : Mem), Mem.le (Mem.add m' ah [slice af aa ag]) ab → rowRd ab a' (List.append xs ys) →
 [some (Box.mk b [int i64 p0_0, slice p0_1a p0_1n p0_1c, slice p0_2a p0_2n p0_2c] 27 3 true true)] = [some (Box.mk b [int i64 p0_0, slice p0_1a p0_1n p0_1c, slice p0_2a p0_2n p0_2c] 27 3 true true)] ∧ ∃ (n' : Nat), n' <
 a6 ∧ I [int i64 n, slice a' (ae + 1) c', int i64 (IntKind.wrap i64 (an + (1 : Int)))] [] [slice a' (ae + 1) c'] ab n')))) (∃ (m'' : Mem), Mem.le m m'' ∧ Mem.le m'' al ∧ R (slice a ae c) m'' [])
theorem cx_check_totals (p0_0 : Int) (p0_1a : Option Addr) (p0_1n p0_1c : Nat) (p0_2a : Option Addr) (p0_2n p0_2c : Nat) (m : Mem) (R : RT) (h : VC_check_totals p0_0 p0_1a p0_1n p0_1c p0_2a p0_2n p0_2c m R) : CX Tryz.prog 28 #[.agg #[.int .i64 p0_0, .slice p0_1a p0_1n p0_1c, .slice p0_2a p0_2n p0_2c]] m [] R :=
 CX_of_FW (E := E_check_totals) EB_ok mix Tryz.func28 [.v (.agg #[.int .i64 p0_0, .slice p0_1a p0_1n p0_1c, .slice p0_2a p0_2n p0_2c])] [] (by kernel_rfl) (Eq.mp (by kernel_rfl) h)
noncomputable def E_check_at : Env := { EB with
 dr := (fun i => bif Nat.beq i 7 then [⟨0, [3], [], none, [], []⟩, ⟨1, [3], [], none, [0], []⟩, ⟨2, [5], [], none, [], []⟩, ⟨3, [5], [], none, [2], []⟩, ⟨4, [], [], none, [0, 1, 2, 3], []⟩, ⟨5, [], [], none, [0, 1, 2, 3, 4], []⟩, ⟨6, [], [], none, [0, 1, 2, 3, 4, 5], []⟩, ⟨7, [5], [], none, [], []⟩, ⟨8, [5], [], none, [7], []⟩, ⟨9, [], [], none, [0, 1, 2, 3, 4, 5, 6, 7, 8], []⟩, ⟨10, [], [], none, [0, 1, 2, 3, 4, 5, 6, 7, 8, 9], []⟩, ⟨11, [7], [7], none, [], []⟩, ⟨12, [7], [7], none, rg 0 12, []⟩] else bif Nat.beq i 9 then [⟨0, [3], [], none, [], []⟩, ⟨1, [7], [], none, [], []⟩, ⟨2, [], [], none, [], []⟩, ⟨3, [5], [], none, [], []⟩, ⟨4, [5], [], none, [3], []⟩, ⟨5, [], [], none, [2, 3, 4], []⟩, ⟨6, [], [], none, [2, 3, 4, 5], []⟩, ⟨7, [5], [], none, [], []⟩, ⟨8, [5], [], none, [7], []⟩, ⟨9, [], [], none, [2, 3, 4, 5, 6, 7, 8], []⟩, ⟨10, [], [], none, [2, 3, 4, 5, 6, 7, 8, 9], []⟩, ⟨11, [], [], none, [0, 1, 2, 3, 4, 5, 6, 7, 8, 9, 10], []⟩, ⟨12, [], [], none, rg 0 12, []⟩] else bif Nat.beq i 11 then [⟨0, [3], [], none, [], []⟩, ⟨1, [7], [], none, [], []⟩, ⟨2, [7], [], none, [], []⟩, ⟨3, [7], [], none, [2], []⟩, ⟨4, [5], [], none, [], []⟩, ⟨5, [5], [], none, [4], []⟩, ⟨6, [], [], none, [2, 3, 4, 5], []⟩, ⟨7, [], [], none, [2, 3, 4, 5, 6], []⟩, ⟨8, [], [], none, [0, 1, 2, 3, 4, 5, 6, 7], []⟩, ⟨9, [], [], none, [0, 1, 2, 3, 4, 5, 6, 7, 8], []⟩] else bif Nat.beq i 12 then [⟨0, [3], [], none, [], []⟩, ⟨1, [7], [], none, [], []⟩, ⟨2, [7], [], none, [], []⟩, ⟨3, [7], [], none, [2], []⟩, ⟨4, [5], [], none, [], []⟩, ⟨5, [5], [], none, [4], []⟩, ⟨6, [], [], none, [2, 3, 4, 5], []⟩, ⟨7, [], [], none, [2, 3, 4, 5, 6], []⟩, ⟨8, [], [], none, [2, 3, 4, 5, 6, 7], []⟩, ⟨9, [5], [], none, [], []⟩, ⟨10, [5], [], none, [9], []⟩, ⟨11, [], [], none, [0, 1, 2, 3, 4, 5, 6, 7, 8, 9, 10], []⟩, ⟨12, [], [], none, rg 0 12, []⟩] else [])
 frzNew := [3, 5] }
def VC_check_at (p0_0 : Int) (p0_1a : Option Addr) (p0_1n p0_1c : Nat) (p0_2a : Option Addr) (p0_2n p0_2c : Nat) (p1a : Option Addr) (p1n p1c : Nat) (p2_0 p2_1 p2_2 p2_3 p2_4 : Int) (m : Mem) (R : RT) : Prop :=
 ∀ (b : Nat) (m' : Mem), Mem.le m m' → Mem.reads m' b 0 [int i64 p0_0, slice p0_1a p0_1n p0_1c, slice p0_2a p0_2n p0_2c] → ∀ (b : Nat) (aa : Mem), Mem.le m' aa → Mem.reads aa b 0 [int i64 p2_0, int i64 p2_1, int i64
 p2_2, int i64 p2_3, int i64 p2_4] → br (decide (p2_0 ≥ (0 : Int))) (∃ (R_1 : RT), True ∧ CX Tryz.prog 38 (Array.mk [agg (Array.mk [int i64 p0_0, slice p0_1a p0_1n p0_1c, slice p0_2a p0_2n p0_2c]), int i64 p2_0]) aa []
 R_1 ∧ Fits (Shape.int i64) R_1 ∧ ∀ (n : Int) (m' : Mem), Mem.le aa m' → R_1 (int i64 n) m' [] → ∃ (m'' : Mem), Mem.le m m'' ∧ Mem.le m'' m' ∧ R (int i64 n) m'' []) (br (decide (p2_1 < (0 : Int))) (∃ (R_1 : RT), True ∧
 CX Tryz.prog 39 (Array.mk [agg (Array.mk [int i64 p0_0, slice p0_1a p0_1n p0_1c, slice p0_2a p0_2n p0_2c])]) aa [] R_1 ∧ Fits (Shape.int i64) R_1 ∧ ∀ (n : Int) (m' : Mem), Mem.le aa m' → R_1 (int i64 n) m' [] → ∃ (m'' :
 Mem), Mem.le m m'' ∧ Mem.le m'' m' ∧ R (int i64 n) m'' []) (br (decide (p2_2 < (0 : Int))) (∃ (R_1 : RT), True ∧ CX Tryz.prog 40 (Array.mk [agg (Array.mk [int i64 p0_0, slice p0_1a p0_1n p0_1c, slice p0_2a p0_2n
 p0_2c]), int i64 p2_1]) aa [] R_1 ∧ Fits (Shape.int i64) R_1 ∧ ∀ (n : Int) (m' : Mem), Mem.le aa m' → R_1 (int i64 n) m' [] → ∃ (m'' : Mem), Mem.le m m'' ∧ Mem.le m'' m' ∧ R (int i64 n) m'' []) (∃ (b : Nat), ∃ (o :
 Nat), p0_2a = some (Addr.mk b o none) ∧ inRange p2_1 p0_2n ∧ ∃ (v : Value), aa b (o + Int.toNat p2_1 * 2 + 1) = some v ∧ chk (isSl v) (∃ (b : Nat), ∃ (o : Nat), slA v = some (Addr.mk b o none) ∧ inRange p2_2 (slN v) ∧ ∃
 (v : Value), ∃ (ad : Value), ∃ (ae : Value), ∃ (af : Value), ∃ (ag : Value), ∃ (ah : Value), ∃ (ai : Value), ∃ (aj : Value), ∃ (ak : Value), ∃ (al : Value), ∃ (am : Value), ∃ (an : Value), ∃ (ao : Value), ∃ (ab :
 Value), ∃ (ap : Value), ∃ (aq : Value), Mem.reads aa b (o + Int.toNat p2_2 * 16) [v, ad, ae, af, ag, ah, ai, aj, ak, al, am, an, ao, ab, ap, aq] ∧ ∀ (b : Nat), chk (Value.oneCell' v && (Value.oneCell' ad &&
 (Value.oneCell' ae && (Value.oneCell' af && (Value.oneCell' ag && (Value.oneCell' ah && (Value.oneCell' ai && (Value.oneCell' aj && (Value.oneCell' ak && (Value.oneCell' al && (Value.oneCell' am && (Value.oneCell' an &&
 (Value.oneCell' ao && (Value.oneCell' ab && (Value.oneCell' ap && (Value.oneCell' aq && true)))))))))))))))) (br (decide (p2_3 < (0 : Int))) (∃ (f : Fx), ∃ (b : Nat), ∃ (o : Nat), p1a = some (Addr.mk b o none) ∧ inRange
 p2_1 p1n ∧ ∃ (ac : Value), aa b (o + Int.toNat p2_1 * 1) = some ac ∧ chk (isSl ac) (∃ (b : Nat), ∃ (o : Nat), slA ac = some (Addr.mk b o none) ∧ inRange p2_2 (slN ac) ∧ ∃ (ar : Value), aa b (o + Int.toNat p2_2 * 1) =
 some ar ∧ ∃ (R_1 : RT), R_1 = f 11 [agg (Array.mk [int i64 p0_0, slice p0_1a p0_1n p0_1c, slice p0_2a p0_2n p0_2c]), agg (Array.mk [v, ad, ae, af, ag, ah, ai, aj, ak, al, am, an, ao, ab, ap, aq]), ar] aa ∧ CX Tryz.prog
 41 (Array.mk [agg (Array.mk [int i64 p0_0, slice p0_1a p0_1n p0_1c, slice p0_2a p0_2n p0_2c]), agg (Array.mk [v, ad, ae, af, ag, ah, ai, aj, ak, al, am, an, ao, ab, ap, aq]), ar]) aa [] R_1 ∧ Fits (Shape.int i64) R_1 ∧
 ∀ (n : Int) (m' : Mem), Mem.le aa m' → R_1 (int i64 n) m' [] → ∀ (M : Mem), Mem.le aa M → Mem.le m' M → ∃ (m'' : Mem), Mem.le m m'' ∧ Mem.le m'' M ∧ R (int i64 n) m'' [])) (br (decide (p2_4 < (0 : Int))) (∃ (f : Fx),
 chk (isSl ab) (∃ (b : Nat), ∃ (o : Nat), slA ab = some (Addr.mk b o none) ∧ inRange p2_3 (slN ab) ∧ ∃ (ac : Value), ∃ (ar : Value), ∃ (au : Value), ∃ (av : Value), ∃ (aw : Value), ∃ (ax : Value), ∃ (ay : Value), ∃ (az :
 Value), Mem.reads aa b (o + Int.toNat p2_3 * 8) [ac, ar, au, av, aw, ax, ay, az] ∧ ∃ (R_1 : RT), R_1 = f 8 [agg (Array.mk [int i64 p0_0, slice p0_1a p0_1n p0_1c, slice p0_2a p0_2n p0_2c]), agg (Array.mk [v, ad, ae, af,
 ag, ah, ai, aj, ak, al, am, an, ao, ab, ap, aq]), agg (Array.mk [ac, ar, au, av, aw, ax, ay, az])] aa ∧ CX Tryz.prog 42 (Array.mk [agg (Array.mk [int i64 p0_0, slice p0_1a p0_1n p0_1c, slice p0_2a p0_2n p0_2c]), agg
 (Array.mk [v, ad, ae, af, ag, ah, ai, aj, ak, al, am, an, ao, ab, ap, aq]), agg (Array.mk [ac, ar, au, av, aw, ax, ay, az])]) aa [] R_1 ∧ Fits (Shape.int i64) R_1 ∧ ∀ (n : Int) (m' : Mem), Mem.le aa m' → R_1 (int i64 n)
 m' [] → ∀ (M : Mem), Mem.le aa M → Mem.le m' M → ∃ (m'' : Mem), Mem.le m m'' ∧ Mem.le m'' M ∧ R (int i64 n) m'' [])) (∃ (f : Fx), chk (isSl ab) (∃ (b : Nat), ∃ (o : Nat), slA ab = some (Addr.mk b o none) ∧ inRange p2_3
 (slN ab) ∧ ∃ (ac : Value), aa b (o + Int.toNat p2_3 * 8 + 2) = some ac ∧ ∃ (R_1 : RT), R_1 = f 11 [agg (Array.mk [int i64 p0_0, slice p0_1a p0_1n p0_1c, slice p0_2a p0_2n p0_2c]), agg (Array.mk [v, ad, ae, af, ag, ah,
 ai, aj, ak, al, am, an, ao, ab, ap, aq]), ac, int i64 p2_4] aa ∧ CX Tryz.prog 43 (Array.mk [agg (Array.mk [int i64 p0_0, slice p0_1a p0_1n p0_1c, slice p0_2a p0_2n p0_2c]), agg (Array.mk [v, ad, ae, af, ag, ah, ai, aj,
 ak, al, am, an, ao, ab, ap, aq]), ac, int i64 p2_4]) aa [] R_1 ∧ Fits (Shape.int i64) R_1 ∧ ∀ (n : Int) (m' : Mem), Mem.le aa m' → R_1 (int i64 n) m' [] → ∀ (M : Mem), Mem.le aa M → Mem.le m' M → ∃ (m'' : Mem), Mem.le m
 m'' ∧ Mem.le m'' M ∧ R (int i64 n) m'' []))))))))
theorem cx_check_at (p0_0 : Int) (p0_1a : Option Addr) (p0_1n p0_1c : Nat) (p0_2a : Option Addr) (p0_2n p0_2c : Nat) (p1a : Option Addr) (p1n p1c : Nat) (p2_0 p2_1 p2_2 p2_3 p2_4 : Int) (m : Mem) (R : RT) (h : VC_check_at p0_0 p0_1a p0_1n p0_1c p0_2a p0_2n p0_2c p1a p1n p1c p2_0 p2_1 p2_2 p2_3 p2_4 m R) : CX Tryz.prog 27 #[.agg #[.int .i64 p0_0, .slice p0_1a p0_1n p0_1c, .slice p0_2a p0_2n p0_2c], .slice p1a p1n p1c, .agg #[.int .i64 p2_0, .int .i64 p2_1, .int .i64 p2_2, .int .i64 p2_3, .int .i64 p2_4]] m [] R :=
 CX_of_FW (E := E_check_at) EB_ok mix Tryz.func27 [.v (.agg #[.int .i64 p0_0, .slice p0_1a p0_1n p0_1c, .slice p0_2a p0_2n p0_2c]), .v (.slice p1a p1n p1c), .v (.agg #[.int .i64 p2_0, .int .i64 p2_1, .int .i64 p2_2, .int .i64 p2_3, .int .i64 p2_4])] [] (by kernel_rfl) (Eq.mp (by kernel_rfl) h)
noncomputable def E_check_problems : Env := { EB with
 frzNew := [1] }
def VC_check_problems (p0_0 : Int) (p0_1a : Option Addr) (p0_1n p0_1c : Nat) (p0_2a : Option Addr) (p0_2n p0_2c : Nat) (m : Mem) (R : RT) : Prop :=
 ∀ (b : Nat) (m' : Mem), Mem.le m m' → Mem.reads m' b 0 [int i64 p0_0, slice p0_1a p0_1n p0_1c, slice p0_2a p0_2n p0_2c] → ∃ (m'' : Mem), Mem.le m m'' ∧ Mem.le m'' m' ∧ R (func (Fn.func 36) (Array.mk []) (Array.mk
 [Value.pointer (some (Addr.mk b 0 none))])) m'' []
theorem cx_check_problems (p0_0 : Int) (p0_1a : Option Addr) (p0_1n p0_1c : Nat) (p0_2a : Option Addr) (p0_2n p0_2c : Nat) (m : Mem) (R : RT) (h : VC_check_problems p0_0 p0_1a p0_1n p0_1c p0_2a p0_2n p0_2c m R) : CX Tryz.prog 23 #[.agg #[.int .i64 p0_0, .slice p0_1a p0_1n p0_1c, .slice p0_2a p0_2n p0_2c]] m [] R :=
 CX_of_FW (E := E_check_problems) EB_ok mix Tryz.func23 [.v (.agg #[.int .i64 p0_0, .slice p0_1a p0_1n p0_1c, .slice p0_2a p0_2n p0_2c])] [] (by kernel_rfl) (Eq.mp (by kernel_rfl) h)
noncomputable def E_check_problems_1 : Env := { EB with
 loops := (fun i => bif Nat.beq i 2 then ⟨[(12, .int .i64)], [], [], true⟩ else ⟨[], [], [], false⟩) }
def VC_check_problems_1 (p0g : Nat) (p0fi p0ca : List Value) (c0b c0o : Nat) (m : Mem) (xs : List (List Value)) : Prop :=
 ∀ (l : Nat), ∃ (v : Value), ∃ (v_1 : Value), ∃ (v_2 : Value), Mem.reads m c0b c0o [v, v_1, v_2] ∧ ∃ (R : RT), True ∧ CX Tryz.prog 28 (Array.mk [agg (Array.mk [v, v_1, v_2])]) m [] R ∧ Fits Shape.slice R ∧ ∀ (a : Option
 Addr) (n c : Nat) (m' : Mem), Mem.le m m' → R (slice a n c) m' [] → ∃ (v : Value), ∃ (v_3 : Value), ∃ (v_4 : Value), Mem.reads m' c0b c0o [v, v_3, v_4] ∧ ∃ (R : RT), True ∧ CX Tryz.prog 9 (Array.mk [agg (Array.mk [v,
 v_3, v_4])]) m' [] R ∧ Fits Shape.slice R ∧ ∀ (a_3 : Option Addr) (n_1 c_1 : Nat) (m'_1 : Mem), Mem.le m' m'_1 → R (slice a_3 n_1 c_1) m'_1 [] → ∃ (I : IT), (∃ (n : Nat), I [int i64 0, int i64 0] [] [] m'_1 n) ∧ ∀ (y
 n_2 : Int) (m' : Mem) (n_3 : Nat), Mem.le m'_1 m' → I [int i64 y, int i64 n_2] [] [] m' n_3 → br (decide (n_2 < (↑n_1 : Int))) (∃ (b : Nat), ∃ (o : Nat), a_3 = some (Addr.mk b o none) ∧ inRange n_2 n_1 ∧ ∃ (v : Value),
 ∃ (v_5 : Value), ∃ (v_6 : Value), ∃ (v_7 : Value), ∃ (v_8 : Value), Mem.reads m' b (o + Int.toNat n_2 * 5) [v, v_5, v_6, v_7, v_8] ∧ ∀ (b : Nat), chk (Value.oneCell' v && (Value.oneCell' v_5 && (Value.oneCell' v_6 &&
 (Value.oneCell' v_7 && (Value.oneCell' v_8 && true))))) (∃ (v_9 : Value), ∃ (v_10 : Value), ∃ (v_11 : Value), Mem.reads m' c0b c0o [v_9, v_10, v_11] ∧ ∃ (R : RT), True ∧ CX Tryz.prog 27 (Array.mk [agg (Array.mk [v_9,
 v_10, v_11]), slice a n c, agg (Array.mk [v, v_5, v_6, v_7, v_8])]) m' [] R ∧ Fits (Shape.int i64) R ∧ ∀ (n : Int) (m'_2 : Mem), Mem.le m' m'_2 → R (int i64 n) m'_2 [] → br (!n == (0 : Int)) ((l = l ∧ (0 : Int) ≤ y ∧
 List.get?Internal xs (Int.toNat y) = some [agg (Array.mk [v, v_5, v_6, v_7, v_8, int i64 n])]) ∧ (∃ (n' : Nat), n' < n_3 ∧ I [int i64 (y + (1 : Int)), int i64 (IntKind.wrap i64 (n_2 + (1 : Int)))] [] [] m'_2 n') ∧ ((-1
 : Int) = (↑(List.length xs) : Int) ∨ (-1 : Int) = (-1 : Int))) (∃ (n' : Nat), n' < n_3 ∧ I [int i64 y, int i64 (IntKind.wrap i64 (n_2 + (1 : Int)))] [] [] m'_2 n'))) (y = (↑(List.length xs) : Int) ∨ y = (-1 : Int))
theorem ix_check_problems_1 (p0g : Nat) (p0fi p0ca : List Value) (c0b c0o : Nat) (m : Mem) (xs : List (List Value)) (h : VC_check_problems_1 p0g p0fi p0ca c0b c0o m xs) : IX Tryz.prog 36 [] [.pointer (some ⟨c0b, c0o, none⟩)] m xs :=
 IX_of_FWI (E := E_check_problems_1) EB_ok mix Tryz.func36 [] [.pointer (some ⟨c0b, c0o, none⟩)] xs (by kernel_rfl) (Eq.mp (by kernel_rfl) h)
noncomputable def E_check_Check : Env := { EB with
 loops := (fun i => bif Nat.beq i 6 then ⟨[(13, .agg [.int .i64, .int .i64, .int .i64, .int .i64, .int .i64, .int .i64])], [2, 3], [], false⟩ else ⟨[], [], [], false⟩)
 dr := (fun i => bif Nat.beq i 6 then [⟨0, [5], [], none, [], []⟩, ⟨1, [5], [], none, [0], []⟩, ⟨2, [5], [], none, [], []⟩, ⟨3, [5], [], none, [2], []⟩, ⟨4, [2], [2], none, [0, 1], []⟩, ⟨5, [3], [3], none, [0, 1, 2, 3, 4], []⟩] else [])
 frzNew := [1] }
def VC_check_Check (p0_0 : Int) (p0_1a : Option Addr) (p0_1n p0_1c : Nat) (p0_2a : Option Addr) (p0_2n p0_2c : Nat) (m : Mem) (R : RT) : Prop :=
 ∀ (b : Nat) (m' : Mem), Mem.le m m' → Mem.reads m' b 0 [int i64 p0_0, slice p0_1a p0_1n p0_1c, slice p0_2a p0_2n p0_2c] → ∀ (b_1 b_2 b_3 : Nat), ∃ (R_1 : RT), True ∧ CX Tryz.prog 21 (Array.mk [agg (Array.mk [int i64
 p0_0, slice p0_1a p0_1n p0_1c, slice p0_2a p0_2n p0_2c])]) m' [] R_1 ∧ Fits Shape.bool R_1 ∧ ∀ (b_4 : Bool) (m'_1 : Mem), Mem.le m' m'_1 → R_1 (bool b_4) m'_1 [] → br (!b_4) (∃ (m'' : Mem), Mem.le m m'' ∧ Mem.le m''
 m'_1 ∧ R (tuple (Array.mk [agg (Array.mk [int i64 (-1 : Int), int i64 (-1 : Int), int i64 (-1 : Int), int i64 (-1 : Int), int i64 (-1 : Int)]), int i64 5])) m'' []) (∃ (R_2 : RT), True ∧ CX Tryz.prog 23 (Array.mk [agg
 (Array.mk [int i64 p0_0, slice p0_1a p0_1n p0_1c, slice p0_2a p0_2n p0_2c])]) m'_1 [] R_2 ∧ Fits Shape.fn R_2 ∧ ∀ (g : Nat) (fi ca : List Value) (m' : Mem), Mem.le m'_1 m' → R_2 (func (Fn.func g) (Array.mk fi) (Array.mk
 ca)) m' [] → ∃ (xs : List (List Value)), IX Tryz.prog g fi ca m' xs ∧ (∀ (x : List Value), x ∈ xs → Shape.fitsL [Shape.agg [Shape.int i64, Shape.int i64, Shape.int i64, Shape.int i64, Shape.int i64, Shape.int i64]] x =
 true) ∧ ∃ (I : IT), I [] [[int i64 0, int i64 0, int i64 0, int i64 0, int i64 0], [int i64 0]] [] m' 0 ∧ (∀ (n n_1 n_2 n_3 n_4 n_5 : Int) (cs cs_1 : List Value) (m'_2 : Mem) (n_6 : Nat), Mem.le m' m'_2 →
 List.get?Internal xs n_6 = some [agg (Array.mk [int i64 n, int i64 n_1, int i64 n_2, int i64 n_3, int i64 n_4, int i64 n_5])] → I [] [cs, cs_1] [] m'_2 n_6 → ∀ (b_5 : Nat), [some (Box.mk b_3 [int i64 (-1 : Int), int i64
 (-1 : Int), int i64 (-1 : Int), int i64 (-1 : Int), int i64 (-1 : Int)] 34 5 false true), some (Box.mk b_2 [] 35 1 false true), some (Box.mk b_1 [] 34 5 false true), some (Box.mk b [int i64 p0_0, slice p0_1a p0_1n
 p0_1c, slice p0_2a p0_2n p0_2c] 27 3 true true)] = [some (Box.mk b_3 [int i64 (-1 : Int), int i64 (-1 : Int), int i64 (-1 : Int), int i64 (-1 : Int), int i64 (-1 : Int)] 34 5 false true), some (Box.mk b_2 [] 35 1 false
 true), some (Box.mk b_1 [] 34 5 false true), some (Box.mk b [int i64 p0_0, slice p0_1a p0_1n p0_1c, slice p0_2a p0_2n p0_2c] 27 3 true true)] ∧ ∃ (m'' : Mem), Mem.le m m'' ∧ Mem.le m'' m'_2 ∧ R (tuple (Array.mk [agg
 (Array.mk [int i64 n, int i64 n_1, int i64 n_2, int i64 n_3, int i64 n_4]), int i64 n_5])) m'' []) ∧ ∀ (cs cs_1 : List Value) (m'_2 : Mem), Mem.le m' m'_2 → I [] [cs, cs_1] [] m'_2 (List.length xs) → ∃ (m'' : Mem),
 Mem.le m m'' ∧ Mem.le m'' m'_2 ∧ R (tuple (Array.mk [agg (Array.mk [int i64 (-1 : Int), int i64 (-1 : Int), int i64 (-1 : Int), int i64 (-1 : Int), int i64 (-1 : Int)]), int i64 0])) m'' [])
theorem cx_check_Check (p0_0 : Int) (p0_1a : Option Addr) (p0_1n p0_1c : Nat) (p0_2a : Option Addr) (p0_2n p0_2c : Nat) (m : Mem) (R : RT) (h : VC_check_Check p0_0 p0_1a p0_1n p0_1c p0_2a p0_2n p0_2c m R) : CX Tryz.prog 13 #[.agg #[.int .i64 p0_0, .slice p0_1a p0_1n p0_1c, .slice p0_2a p0_2n p0_2c]] m [] R :=
 CX_of_FW (E := E_check_Check) EB_ok mix Tryz.func13 [.v (.agg #[.int .i64 p0_0, .slice p0_1a p0_1n p0_1c, .slice p0_2a p0_2n p0_2c])] [] (by kernel_rfl) (Eq.mp (by kernel_rfl) h)
noncomputable def E_check_Right : Env := { EB with
 frzNew := [1] }
def VC_check_Right (p0_0 : Int) (p0_1a : Option Addr) (p0_1n p0_1c : Nat) (p0_2a : Option Addr) (p0_2n p0_2c : Nat) (m : Mem) (R : RT) : Prop :=
 ∀ (b : Nat) (m' : Mem), Mem.le m m' → Mem.reads m' b 0 [int i64 p0_0, slice p0_1a p0_1n p0_1c, slice p0_2a p0_2n p0_2c] → ∃ (R_1 : RT), True ∧ CX Tryz.prog 13 (Array.mk [agg (Array.mk [int i64 p0_0, slice p0_1a p0_1n
 p0_1c, slice p0_2a p0_2n p0_2c])]) m' [] R_1 ∧ Fits (Shape.tup [Shape.agg [Shape.int i64, Shape.int i64, Shape.int i64, Shape.int i64, Shape.int i64], Shape.int i64]) R_1 ∧ ∀ (n n_1 n_2 n_3 n_4 n_5 : Int) (m'_1 : Mem),
 Mem.le m' m'_1 → R_1 (tuple (Array.mk [agg (Array.mk [int i64 n, int i64 n_1, int i64 n_2, int i64 n_3, int i64 n_4]), int i64 n_5])) m'_1 [] → ∀ (b : Nat), ∃ (m'' : Mem), Mem.le m m'' ∧ Mem.le m'' m'_1 ∧ R (bool (n_5
 == (0 : Int))) m'' []
theorem cx_check_Right (p0_0 : Int) (p0_1a : Option Addr) (p0_1n p0_1c : Nat) (p0_2a : Option Addr) (p0_2n p0_2c : Nat) (m : Mem) (R : RT) (h : VC_check_Right p0_0 p0_1a p0_1n p0_1c p0_2a p0_2n p0_2c m R) : CX Tryz.prog 14 #[.agg #[.int .i64 p0_0, .slice p0_1a p0_1n p0_1c, .slice p0_2a p0_2n p0_2c]] m [] R :=
 CX_of_FW (E := E_check_Right) EB_ok mix Tryz.func14 [.v (.agg #[.int .i64 p0_0, .slice p0_1a p0_1n p0_1c, .slice p0_2a p0_2n p0_2c])] [] (by kernel_rfl) (Eq.mp (by kernel_rfl) h)
noncomputable def E_check_Word : Env := { EB with
 joins := (fun i => bif Nat.beq i 4 then some [(8, .bool)] else none) }
def VC_check_Word (p0 : Int) (m : Mem) (R : RT) : Prop :=
 ∀ (b : Nat), Mem.free m b → br (p0 == (5 : Int)) (∃ (m'' : Mem), Mem.le m m'' ∧ Mem.le m'' (Mem.add m b [string (ByteArray.mk (Array.mk [(98 : UInt8), (117 : UInt8), (102 : UInt8), (102 : UInt8), (101 : UInt8), (114 :
 UInt8)])), string (ByteArray.mk (Array.mk [(118 : UInt8), (97 : UInt8), (114 : UInt8), (105 : UInt8), (97 : UInt8), (98 : UInt8), (108 : UInt8), (101 : UInt8)])), string (ByteArray.mk (Array.mk [(115 : UInt8), (116 :
 UInt8), (97 : UInt8), (116 : UInt8), (101 : UInt8), (115 : UInt8)])), string (ByteArray.mk (Array.mk [(115 : UInt8), (116 : UInt8), (97 : UInt8), (116 : UInt8), (101 : UInt8)])), string (ByteArray.mk (Array.mk [(114 :
 UInt8), (117 : UInt8), (108 : UInt8), (101 : UInt8)])), string (ByteArray.mk (Array.mk [(114 : UInt8), (101 : UInt8), (103 : UInt8), (101 : UInt8), (120 : UInt8)])), string (ByteArray.mk (Array.mk [(101 : UInt8), (110 :
 UInt8), (100 : UInt8)])), string (ByteArray.mk (Array.mk [(97 : UInt8), (99 : UInt8), (116 : UInt8), (105 : UInt8), (111 : UInt8), (110 : UInt8)])), string (ByteArray.mk (Array.mk [(110 : UInt8), (97 : UInt8), (109 :
 UInt8), (101 : UInt8)])), string (ByteArray.mk (Array.mk [(99 : UInt8), (97 : UInt8), (112 : UInt8), (116 : UInt8), (117 : UInt8), (114 : UInt8), (101 : UInt8)]))]) ∧ R (string (ByteArray.mk (Array.mk [(108 : UInt8),
 (111 : UInt8), (110 : UInt8), (103 : UInt8)]))) m'' []) (∃ (aa : Bool), br (decide (p0 ≥ (300 : Int))) ([some (Box.mk b [string (ByteArray.mk (Array.mk [(98 : UInt8), (117 : UInt8), (102 : UInt8), (102 : UInt8), (101 :
 UInt8), (114 : UInt8)])), string (ByteArray.mk (Array.mk [(118 : UInt8), (97 : UInt8), (114 : UInt8), (105 : UInt8), (97 : UInt8), (98 : UInt8), (108 : UInt8), (101 : UInt8)])), string (ByteArray.mk (Array.mk [(115 :
 UInt8), (116 : UInt8), (97 : UInt8), (116 : UInt8), (101 : UInt8), (115 : UInt8)])), string (ByteArray.mk (Array.mk [(115 : UInt8), (116 : UInt8), (97 : UInt8), (116 : UInt8), (101 : UInt8)])), string (ByteArray.mk
 (Array.mk [(114 : UInt8), (117 : UInt8), (108 : UInt8), (101 : UInt8)])), string (ByteArray.mk (Array.mk [(114 : UInt8), (101 : UInt8), (103 : UInt8), (101 : UInt8), (120 : UInt8)])), string (ByteArray.mk (Array.mk
 [(101 : UInt8), (110 : UInt8), (100 : UInt8)])), string (ByteArray.mk (Array.mk [(97 : UInt8), (99 : UInt8), (116 : UInt8), (105 : UInt8), (111 : UInt8), (110 : UInt8)])), string (ByteArray.mk (Array.mk [(110 : UInt8),
 (97 : UInt8), (109 : UInt8), (101 : UInt8)])), string (ByteArray.mk (Array.mk [(99 : UInt8), (97 : UInt8), (112 : UInt8), (116 : UInt8), (117 : UInt8), (114 : UInt8), (101 : UInt8)]))] 9 10 true true)] = [some (Box.mk b
 [string (ByteArray.mk (Array.mk [(98 : UInt8), (117 : UInt8), (102 : UInt8), (102 : UInt8), (101 : UInt8), (114 : UInt8)])), string (ByteArray.mk (Array.mk [(118 : UInt8), (97 : UInt8), (114 : UInt8), (105 : UInt8), (97
 : UInt8), (98 : UInt8), (108 : UInt8), (101 : UInt8)])), string (ByteArray.mk (Array.mk [(115 : UInt8), (116 : UInt8), (97 : UInt8), (116 : UInt8), (101 : UInt8), (115 : UInt8)])), string (ByteArray.mk (Array.mk [(115 :
 UInt8), (116 : UInt8), (97 : UInt8), (116 : UInt8), (101 : UInt8)])), string (ByteArray.mk (Array.mk [(114 : UInt8), (117 : UInt8), (108 : UInt8), (101 : UInt8)])), string (ByteArray.mk (Array.mk [(114 : UInt8), (101 :
 UInt8), (103 : UInt8), (101 : UInt8), (120 : UInt8)])), string (ByteArray.mk (Array.mk [(101 : UInt8), (110 : UInt8), (100 : UInt8)])), string (ByteArray.mk (Array.mk [(97 : UInt8), (99 : UInt8), (116 : UInt8), (105 :
 UInt8), (111 : UInt8), (110 : UInt8)])), string (ByteArray.mk (Array.mk [(110 : UInt8), (97 : UInt8), (109 : UInt8), (101 : UInt8)])), string (ByteArray.mk (Array.mk [(99 : UInt8), (97 : UInt8), (112 : UInt8), (116 :
 UInt8), (117 : UInt8), (114 : UInt8), (101 : UInt8)]))] 9 10 true true)] ∧ [bool (decide (p0 ≤ (309 : Int)))] = [bool aa]) ([some (Box.mk b [string (ByteArray.mk (Array.mk [(98 : UInt8), (117 : UInt8), (102 : UInt8),
 (102 : UInt8), (101 : UInt8), (114 : UInt8)])), string (ByteArray.mk (Array.mk [(118 : UInt8), (97 : UInt8), (114 : UInt8), (105 : UInt8), (97 : UInt8), (98 : UInt8), (108 : UInt8), (101 : UInt8)])), string
 (ByteArray.mk (Array.mk [(115 : UInt8), (116 : UInt8), (97 : UInt8), (116 : UInt8), (101 : UInt8), (115 : UInt8)])), string (ByteArray.mk (Array.mk [(115 : UInt8), (116 : UInt8), (97 : UInt8), (116 : UInt8), (101 :
 UInt8)])), string (ByteArray.mk (Array.mk [(114 : UInt8), (117 : UInt8), (108 : UInt8), (101 : UInt8)])), string (ByteArray.mk (Array.mk [(114 : UInt8), (101 : UInt8), (103 : UInt8), (101 : UInt8), (120 : UInt8)])),
 string (ByteArray.mk (Array.mk [(101 : UInt8), (110 : UInt8), (100 : UInt8)])), string (ByteArray.mk (Array.mk [(97 : UInt8), (99 : UInt8), (116 : UInt8), (105 : UInt8), (111 : UInt8), (110 : UInt8)])), string
 (ByteArray.mk (Array.mk [(110 : UInt8), (97 : UInt8), (109 : UInt8), (101 : UInt8)])), string (ByteArray.mk (Array.mk [(99 : UInt8), (97 : UInt8), (112 : UInt8), (116 : UInt8), (117 : UInt8), (114 : UInt8), (101 :
 UInt8)]))] 9 10 true true)] = [some (Box.mk b [string (ByteArray.mk (Array.mk [(98 : UInt8), (117 : UInt8), (102 : UInt8), (102 : UInt8), (101 : UInt8), (114 : UInt8)])), string (ByteArray.mk (Array.mk [(118 : UInt8),
 (97 : UInt8), (114 : UInt8), (105 : UInt8), (97 : UInt8), (98 : UInt8), (108 : UInt8), (101 : UInt8)])), string (ByteArray.mk (Array.mk [(115 : UInt8), (116 : UInt8), (97 : UInt8), (116 : UInt8), (101 : UInt8), (115 :
 UInt8)])), string (ByteArray.mk (Array.mk [(115 : UInt8), (116 : UInt8), (97 : UInt8), (116 : UInt8), (101 : UInt8)])), string (ByteArray.mk (Array.mk [(114 : UInt8), (117 : UInt8), (108 : UInt8), (101 : UInt8)])),
 string (ByteArray.mk (Array.mk [(114 : UInt8), (101 : UInt8), (103 : UInt8), (101 : UInt8), (120 : UInt8)])), string (ByteArray.mk (Array.mk [(101 : UInt8), (110 : UInt8), (100 : UInt8)])), string (ByteArray.mk
 (Array.mk [(97 : UInt8), (99 : UInt8), (116 : UInt8), (105 : UInt8), (111 : UInt8), (110 : UInt8)])), string (ByteArray.mk (Array.mk [(110 : UInt8), (97 : UInt8), (109 : UInt8), (101 : UInt8)])), string (ByteArray.mk
 (Array.mk [(99 : UInt8), (97 : UInt8), (112 : UInt8), (116 : UInt8), (117 : UInt8), (114 : UInt8), (101 : UInt8)]))] 9 10 true true)] ∧ [bool false] = [bool aa]) ∧ br aa (inRange (IntKind.wrap i64 (p0 - (300 : Int))) 10
 ∧ Eng.look [string (ByteArray.mk (Array.mk [(98 : UInt8), (117 : UInt8), (102 : UInt8), (102 : UInt8), (101 : UInt8), (114 : UInt8)])), string (ByteArray.mk (Array.mk [(118 : UInt8), (97 : UInt8), (114 : UInt8), (105 :
 UInt8), (97 : UInt8), (98 : UInt8), (108 : UInt8), (101 : UInt8)])), string (ByteArray.mk (Array.mk [(115 : UInt8), (116 : UInt8), (97 : UInt8), (116 : UInt8), (101 : UInt8), (115 : UInt8)])), string (ByteArray.mk
 (Array.mk [(115 : UInt8), (116 : UInt8), (97 : UInt8), (116 : UInt8), (101 : UInt8)])), string (ByteArray.mk (Array.mk [(114 : UInt8), (117 : UInt8), (108 : UInt8), (101 : UInt8)])), string (ByteArray.mk (Array.mk [(114
 : UInt8), (101 : UInt8), (103 : UInt8), (101 : UInt8), (120 : UInt8)])), string (ByteArray.mk (Array.mk [(101 : UInt8), (110 : UInt8), (100 : UInt8)])), string (ByteArray.mk (Array.mk [(97 : UInt8), (99 : UInt8), (116 :
 UInt8), (105 : UInt8), (111 : UInt8), (110 : UInt8)])), string (ByteArray.mk (Array.mk [(110 : UInt8), (97 : UInt8), (109 : UInt8), (101 : UInt8)])), string (ByteArray.mk (Array.mk [(99 : UInt8), (97 : UInt8), (112 :
 UInt8), (116 : UInt8), (117 : UInt8), (114 : UInt8), (101 : UInt8)]))] (Int.toNat (IntKind.wrap i64 (p0 - (300 : Int))) * 1) fun (v : Value) => ∃ (m'' : Mem), Mem.le m m'' ∧ Mem.le m'' (Mem.add m b [string (ByteArray.mk
 (Array.mk [(98 : UInt8), (117 : UInt8), (102 : UInt8), (102 : UInt8), (101 : UInt8), (114 : UInt8)])), string (ByteArray.mk (Array.mk [(118 : UInt8), (97 : UInt8), (114 : UInt8), (105 : UInt8), (97 : UInt8), (98 :
 UInt8), (108 : UInt8), (101 : UInt8)])), string (ByteArray.mk (Array.mk [(115 : UInt8), (116 : UInt8), (97 : UInt8), (116 : UInt8), (101 : UInt8), (115 : UInt8)])), string (ByteArray.mk (Array.mk [(115 : UInt8), (116 :
 UInt8), (97 : UInt8), (116 : UInt8), (101 : UInt8)])), string (ByteArray.mk (Array.mk [(114 : UInt8), (117 : UInt8), (108 : UInt8), (101 : UInt8)])), string (ByteArray.mk (Array.mk [(114 : UInt8), (101 : UInt8), (103 :
 UInt8), (101 : UInt8), (120 : UInt8)])), string (ByteArray.mk (Array.mk [(101 : UInt8), (110 : UInt8), (100 : UInt8)])), string (ByteArray.mk (Array.mk [(97 : UInt8), (99 : UInt8), (116 : UInt8), (105 : UInt8), (111 :
 UInt8), (110 : UInt8)])), string (ByteArray.mk (Array.mk [(110 : UInt8), (97 : UInt8), (109 : UInt8), (101 : UInt8)])), string (ByteArray.mk (Array.mk [(99 : UInt8), (97 : UInt8), (112 : UInt8), (116 : UInt8), (117 :
 UInt8), (114 : UInt8), (101 : UInt8)]))]) ∧ R v m'' []) (∃ (m'' : Mem), Mem.le m m'' ∧ Mem.le m'' (Mem.add m b [string (ByteArray.mk (Array.mk [(98 : UInt8), (117 : UInt8), (102 : UInt8), (102 : UInt8), (101 : UInt8),
 (114 : UInt8)])), string (ByteArray.mk (Array.mk [(118 : UInt8), (97 : UInt8), (114 : UInt8), (105 : UInt8), (97 : UInt8), (98 : UInt8), (108 : UInt8), (101 : UInt8)])), string (ByteArray.mk (Array.mk [(115 : UInt8),
 (116 : UInt8), (97 : UInt8), (116 : UInt8), (101 : UInt8), (115 : UInt8)])), string (ByteArray.mk (Array.mk [(115 : UInt8), (116 : UInt8), (97 : UInt8), (116 : UInt8), (101 : UInt8)])), string (ByteArray.mk (Array.mk
 [(114 : UInt8), (117 : UInt8), (108 : UInt8), (101 : UInt8)])), string (ByteArray.mk (Array.mk [(114 : UInt8), (101 : UInt8), (103 : UInt8), (101 : UInt8), (120 : UInt8)])), string (ByteArray.mk (Array.mk [(101 :
 UInt8), (110 : UInt8), (100 : UInt8)])), string (ByteArray.mk (Array.mk [(97 : UInt8), (99 : UInt8), (116 : UInt8), (105 : UInt8), (111 : UInt8), (110 : UInt8)])), string (ByteArray.mk (Array.mk [(110 : UInt8), (97 :
 UInt8), (109 : UInt8), (101 : UInt8)])), string (ByteArray.mk (Array.mk [(99 : UInt8), (97 : UInt8), (112 : UInt8), (116 : UInt8), (117 : UInt8), (114 : UInt8), (101 : UInt8)]))]) ∧ R (string (ByteArray.mk (Array.mk
 []))) m'' []))
theorem cx_check_Word (p0 : Int) (m : Mem) (R : RT) (h : VC_check_Word p0 m R) : CX Tryz.prog 15 #[.int .i64 p0] m [] R :=
 CX_of_FW (E := E_check_Word) EB_ok mix Tryz.func15 [.v (.int .i64 p0)] [] (by kernel_rfl) (Eq.mp (by kernel_rfl) h)
end Go.Proofs.YtiadlgdcbpnmkaaGreatDoor
